/- The walks of the functions that GuideBoards reaches: each call comes to what its mirror says. The conditions are those of each contract. -/
import Derived.Test.YtpcebngchmgckaaGreatDoorProg
import Derived.Test.YtpcebngchmgckaaGreatDoorFpTight
import Derived.Test.YtpcebngchmgckaaGreatDoorGuideBoardsM
import Derived.Test.YtpcebngchmgckaaGreatDoorFpAllX
import Derived.Test.YtpcebngchmgckaaGreatDoorGuideBoardsS
import Derived.Test.YtpcebngchmgckaaGreatDoorFpMapS
import Derived.Test.YtpcebngchmgckaaGreatDoorFpArrS
import Derived.Test.YtpcebngchmgckaaGreatDoorFpFld
import Derived.Test.YtpcebngchmgckaaGreatDoorFpMapE
import Derived.Test.YtpcebngchmgckaaGreatDoorFpMapG
import Derived.Test.YtpcebngchmgckaaGreatDoorFpMapV
import Derived.Test.YtpcebngchmgckaaGreatDoorFpMaps
import Derived.Test.YtpcebngchmgckaaGreatDoorFpOrd
import Derived.Test.YtpcebngchmgckaaGreatDoorFpRf
import Derived.Test.YtpcebngchmgckaaGreatDoorFpRng
import Derived.Test.YtpcebngchmgckaaGreatDoorGuideBoardsW2
set_option maxRecDepth 10000
namespace Go.Proofs.YtpcebngchmgckaaGreatDoor
open Go Go.Fp
set_option maxHeartbeats 8000000 in
theorem Fishlaw2small_ok  {w : World} {s : Sg} {R : List HP}  (hS : St w s (R))  {r : ApiDay} (hr : Fishlaw2small = r) :
  Calls Tryz.prog 53 [].toArray w (fun e w => ∃ (cs0 : List Value) (t : Sg), e = .returned (.agg cs0.toArray) ∧ s.Le t ∧ RApiDay t cs0 r ∧ St w t (R)) := by
 refine enter Tryz.func53 rfl rfl rfl fun a hE => ?_
 rw [Fishlaw2small] at hr
 refine W.seq (W.region ?_)
 refine WL.alloc hE hS (runs_plain rfl) zr25 rfl ?_; clear hE hS a w; intro b51 a w hE hS
 refine WL.nil ?_
 refine W.seq (W.region (vp hS hE rfl rfl fun a hE => WL.nil ?_))
 refine W.seq (W.region (vp hS hE rfl rfl fun a hE => ?_))
 obtain ⟨q52, hq53, hr⟩ := bndS hr
 have hc_ := Fishlaw2small_1_ok hS  hq53
 refine WL.fnw hE (hc_) rfl (runs_plain rfl) bd102 rfl rfl rfl ?_
 clear hE hS hc_; rintro e w ⟨cs54, s56, rfl, hle57, h55, hS⟩; refine ⟨_, rfl, ?_⟩; clear a; intro a hE
 subst h55
 refine vp hS hE rfl rfl fun a hE => ?_
 obtain ⟨q58, hq59, hr⟩ := bndS hr
 have hc_ := Fishlaw2small_1_ok hS  hq59
 refine WL.fnw hE (hc_) rfl (runs_plain rfl) bd102 rfl rfl rfl ?_
 clear hE hS hc_; rintro e w ⟨cs60, s62, rfl, hle63, h61, hS⟩; refine ⟨_, rfl, ?_⟩; clear a; intro a hE
 subst h61
 refine vp hS hE rfl rfl fun a hE => ?_
 obtain ⟨q64, hq65, hr⟩ := bndS hr
 have hc_ := Fishlaw2small_1_ok hS  hq65
 refine WL.fnw hE (hc_) rfl (runs_plain rfl) bd102 rfl rfl rfl ?_
 clear hE hS hc_; rintro e w ⟨cs66, s68, rfl, hle69, h67, hS⟩; refine ⟨_, rfl, ?_⟩; clear a; intro a hE
 subst h67
 refine WL.lit hE hS (e := 99) (es := 4) (vs := [(0, .agg (ApiStop.cells q52).toArray), (1, .agg (ApiStop.cells q58).toArray), (2, .agg (ApiStop.cells q64).toArray)]) (cs := [vi q52.Station, vi q52.Track, vi q52.Arr, vi q52.Dep, vi q58.Station, vi q58.Track, vi q58.Arr, vi q58.Dep, vi q64.Station, vi q64.Track, vi q64.Arr, vi q64.Dep]) (runs_plain rfl) rfl (by kernel_rfl) rfl ?_; clear hE hS a w; intro b70 a w hE hS
 replace hS := hS.ptVec (es := 4) (m := 3) rfl (by decide)
 have h72 : Ev 4 RApiStop s68 [vi q52.Station, vi q52.Track, vi q52.Arr, vi q52.Dep, vi q58.Station, vi q58.Track, vi q58.Arr, vi q58.Dep, vi q64.Station, vi q64.Track, vi q64.Arr, vi q64.Dep] [q52, q58, q64] := (Ev.cons (c1 := [vi q52.Station, vi q52.Track, vi q52.Arr, vi q52.Dep]) rfl rfl (Ev.cons (c1 := [vi q58.Station, vi q58.Track, vi q58.Arr, vi q58.Dep]) rfl rfl (Ev.cons (c1 := [vi q64.Station, vi q64.Track, vi q64.Arr, vi q64.Dep]) rfl rfl (Ev.nil))))
 have hF := hS.fixD RApiStop.mono 0 rfl h72 (rfl); clear hS; obtain ⟨s73, hle74, hS, h75⟩ := hF
 refine WL.lit hE hS (e := 3) (es := 1) (vs := [(0, vi 0)]) (cs := [vi 0]) (runs_plain rfl) rfl (by kernel_rfl) rfl ?_; clear hE hS a w; intro b76 a w hE hS
 replace hS := hS.ptVec (es := 1) (m := 1) rfl (by decide)
 have h78 : Ev 1 (RI .i64) s73 [vi 0] [0] := (Ev.cons (c1 := [vi 0]) rfl rfl (Ev.nil))
 have hF := hS.fixD RI.mono 0 rfl h78 (rfl); clear hS; obtain ⟨s79, hle80, hS, h81⟩ := hF
 replace h75 := Sl.mono RApiStop.mono hle80 h75
 refine WL.lit hE hS (e := 3) (es := 1) (vs := [(0, vi 1)]) (cs := [vi 1]) (runs_plain rfl) rfl (by kernel_rfl) rfl ?_; clear hE hS a w; intro b82 a w hE hS
 replace hS := hS.ptVec (es := 1) (m := 1) rfl (by decide)
 have h84 : Ev 1 (RI .i64) s79 [vi 1] [1] := (Ev.cons (c1 := [vi 1]) rfl rfl (Ev.nil))
 have hF := hS.fixD RI.mono 0 rfl h84 (rfl); clear hS; obtain ⟨s85, hle86, hS, h87⟩ := hF
 replace h75 := Sl.mono RApiStop.mono hle86 h75
 replace h81 := Sl.mono RI.mono hle86 h81
 refine WL.lit hE hS (e := 65) (es := 1) (vs := [(0, .slice (some ⟨b76, 0, none⟩) 1 1), (1, .slice (some ⟨b82, 0, none⟩) 1 1)]) (cs := [.slice (some ⟨b76, 0, none⟩) 1 1, .slice (some ⟨b82, 0, none⟩) 1 1]) (runs_plain rfl) rfl (by kernel_rfl) rfl ?_; clear hE hS a w; intro b88 a w hE hS
 replace hS := hS.ptVec (es := 1) (m := 2) rfl (by decide)
 have h90 : Ev 1 (RL 1 (RI .i64)) s85 [.slice (some ⟨b76, 0, none⟩) 1 1, .slice (some ⟨b82, 0, none⟩) 1 1] [[0], [1]] := (Ev.cons (c1 := [.slice (some ⟨b76, 0, none⟩) 1 1]) ⟨_, _, rfl, h81⟩ rfl (Ev.cons (c1 := [.slice (some ⟨b82, 0, none⟩) 1 1]) ⟨_, _, rfl, h87⟩ rfl (Ev.nil)))
 have hF := hS.fixD (RL.mono RI.mono) 0 rfl h90 (rfl); clear hS; obtain ⟨s91, hle92, hS, h93⟩ := hF
 replace h75 := Sl.mono RApiStop.mono hle92 h75
 replace h81 := Sl.mono RI.mono hle92 h81
 replace h87 := Sl.mono RI.mono hle92 h87
 refine vP hS hE (Gives.build hE (vs := [(0, vi 1), (2, .slice (some ⟨b70, 0, none⟩) 3 3), (3, .slice (some ⟨b88, 0, none⟩) 2 2)]) [vi 1, vi 0, .slice (some ⟨b70, 0, none⟩) 3 3, .slice (some ⟨b88, 0, none⟩) 2 2] rfl (by kernel_rfl)) rfl fun a hE => ?_
 refine vp hS hE rfl rfl fun a hE => ?_
 obtain ⟨q94, hq95, hr⟩ := bndS hr
 have hc_ := Fishlaw2small_1_ok hS  hq95
 refine WL.fnw hE (hc_) rfl (runs_plain rfl) bd102 rfl rfl rfl ?_
 clear hE hS hc_; rintro e w ⟨cs96, s98, rfl, hle99, h97, hS⟩; refine ⟨_, rfl, ?_⟩; clear a; intro a hE
 replace h75 := Sl.mono RApiStop.mono hle99 h75
 replace h81 := Sl.mono RI.mono hle99 h81
 replace h87 := Sl.mono RI.mono hle99 h87
 replace h93 := Sl.mono (RL.mono RI.mono) hle99 h93
 subst h97
 refine vp hS hE rfl rfl fun a hE => ?_
 obtain ⟨q100, hq101, hr⟩ := bndS hr
 have hc_ := Fishlaw2small_1_ok hS  hq101
 refine WL.fnw hE (hc_) rfl (runs_plain rfl) bd102 rfl rfl rfl ?_
 clear hE hS hc_; rintro e w ⟨cs102, s104, rfl, hle105, h103, hS⟩; refine ⟨_, rfl, ?_⟩; clear a; intro a hE
 replace h75 := Sl.mono RApiStop.mono hle105 h75
 replace h81 := Sl.mono RI.mono hle105 h81
 replace h87 := Sl.mono RI.mono hle105 h87
 replace h93 := Sl.mono (RL.mono RI.mono) hle105 h93
 subst h103
 refine WL.lit hE hS (e := 99) (es := 4) (vs := [(0, .agg (ApiStop.cells q94).toArray), (1, .agg (ApiStop.cells q100).toArray)]) (cs := [vi q94.Station, vi q94.Track, vi q94.Arr, vi q94.Dep, vi q100.Station, vi q100.Track, vi q100.Arr, vi q100.Dep]) (runs_plain rfl) rfl (by kernel_rfl) rfl ?_; clear hE hS a w; intro b106 a w hE hS
 replace hS := hS.ptVec (es := 4) (m := 2) rfl (by decide)
 have h108 : Ev 4 RApiStop s104 [vi q94.Station, vi q94.Track, vi q94.Arr, vi q94.Dep, vi q100.Station, vi q100.Track, vi q100.Arr, vi q100.Dep] [q94, q100] := (Ev.cons (c1 := [vi q94.Station, vi q94.Track, vi q94.Arr, vi q94.Dep]) rfl rfl (Ev.cons (c1 := [vi q100.Station, vi q100.Track, vi q100.Arr, vi q100.Dep]) rfl rfl (Ev.nil)))
 have hF := hS.fixD RApiStop.mono 0 rfl h108 (rfl); clear hS; obtain ⟨s109, hle110, hS, h111⟩ := hF
 replace h75 := Sl.mono RApiStop.mono hle110 h75
 replace h81 := Sl.mono RI.mono hle110 h81
 replace h87 := Sl.mono RI.mono hle110 h87
 replace h93 := Sl.mono (RL.mono RI.mono) hle110 h93
 refine WL.lit hE hS (e := 3) (es := 1) (vs := [(0, vi 2)]) (cs := [vi 2]) (runs_plain rfl) rfl (by kernel_rfl) rfl ?_; clear hE hS a w; intro b112 a w hE hS
 replace hS := hS.ptVec (es := 1) (m := 1) rfl (by decide)
 have h114 : Ev 1 (RI .i64) s109 [vi 2] [2] := (Ev.cons (c1 := [vi 2]) rfl rfl (Ev.nil))
 have hF := hS.fixD RI.mono 0 rfl h114 (rfl); clear hS; obtain ⟨s115, hle116, hS, h117⟩ := hF
 replace h75 := Sl.mono RApiStop.mono hle116 h75
 replace h81 := Sl.mono RI.mono hle116 h81
 replace h87 := Sl.mono RI.mono hle116 h87
 replace h93 := Sl.mono (RL.mono RI.mono) hle116 h93
 replace h111 := Sl.mono RApiStop.mono hle116 h111
 refine WL.lit hE hS (e := 65) (es := 1) (vs := [(0, .slice (some ⟨b112, 0, none⟩) 1 1)]) (cs := [.slice (some ⟨b112, 0, none⟩) 1 1]) (runs_plain rfl) rfl (by kernel_rfl) rfl ?_; clear hE hS a w; intro b118 a w hE hS
 replace hS := hS.ptVec (es := 1) (m := 1) rfl (by decide)
 have h120 : Ev 1 (RL 1 (RI .i64)) s115 [.slice (some ⟨b112, 0, none⟩) 1 1] [[2]] := (Ev.cons (c1 := [.slice (some ⟨b112, 0, none⟩) 1 1]) ⟨_, _, rfl, h117⟩ rfl (Ev.nil))
 have hF := hS.fixD (RL.mono RI.mono) 0 rfl h120 (rfl); clear hS; obtain ⟨s121, hle122, hS, h123⟩ := hF
 replace h75 := Sl.mono RApiStop.mono hle122 h75
 replace h81 := Sl.mono RI.mono hle122 h81
 replace h87 := Sl.mono RI.mono hle122 h87
 replace h93 := Sl.mono (RL.mono RI.mono) hle122 h93
 replace h111 := Sl.mono RApiStop.mono hle122 h111
 replace h117 := Sl.mono RI.mono hle122 h117
 refine vP hS hE (Gives.build hE (vs := [(0, vi 2), (2, .slice (some ⟨b106, 0, none⟩) 2 2), (3, .slice (some ⟨b118, 0, none⟩) 1 1)]) [vi 2, vi 0, .slice (some ⟨b106, 0, none⟩) 2 2, .slice (some ⟨b118, 0, none⟩) 1 1] rfl (by kernel_rfl)) rfl fun a hE => ?_
 refine WL.lit hE hS (e := 111) (es := 4) (vs := [(0, .agg (List.toArray [vi 1, vi 0, .slice (some ⟨b70, 0, none⟩) 3 3, .slice (some ⟨b88, 0, none⟩) 2 2])), (1, .agg (List.toArray [vi 2, vi 0, .slice (some ⟨b106, 0, none⟩) 2 2, .slice (some ⟨b118, 0, none⟩) 1 1]))]) (cs := [vi 1, vi 0, .slice (some ⟨b70, 0, none⟩) 3 3, .slice (some ⟨b88, 0, none⟩) 2 2, vi 2, vi 0, .slice (some ⟨b106, 0, none⟩) 2 2, .slice (some ⟨b118, 0, none⟩) 1 1]) (runs_plain rfl) rfl (by kernel_rfl) rfl ?_; clear hE hS a w; intro b124 a w hE hS
 replace hS := hS.ptVec (es := 4) (m := 2) rfl (by decide)
 have h126 : Ev 4 RApiTrain s121 [vi 1, vi 0, .slice (some ⟨b70, 0, none⟩) 3 3, .slice (some ⟨b88, 0, none⟩) 2 2, vi 2, vi 0, .slice (some ⟨b106, 0, none⟩) 2 2, .slice (some ⟨b118, 0, none⟩) 1 1] [(ApiTrain.mk 1 0 [q52, q58, q64] [[0], [1]]), (ApiTrain.mk 2 0 [q94, q100] [[2]])] := (Ev.cons (c1 := [vi 1, vi 0, .slice (some ⟨b70, 0, none⟩) 3 3, .slice (some ⟨b88, 0, none⟩) 2 2]) ⟨_, _, _, _, rfl, h75, h93⟩ rfl (Ev.cons (c1 := [vi 2, vi 0, .slice (some ⟨b106, 0, none⟩) 2 2, .slice (some ⟨b118, 0, none⟩) 1 1]) ⟨_, _, _, _, rfl, h111, h123⟩ rfl (Ev.nil)))
 have hF := hS.fixD RApiTrain.mono 0 rfl h126 (rfl); clear hS; obtain ⟨s127, hle128, hS, h129⟩ := hF
 replace h75 := Sl.mono RApiStop.mono hle128 h75
 replace h81 := Sl.mono RI.mono hle128 h81
 replace h87 := Sl.mono RI.mono hle128 h87
 replace h93 := Sl.mono (RL.mono RI.mono) hle128 h93
 replace h111 := Sl.mono RApiStop.mono hle128 h111
 replace h117 := Sl.mono RI.mono hle128 h117
 replace h123 := Sl.mono (RL.mono RI.mono) hle128 h123
 refine vP hS hE (Gives.build hE (vs := [(0, .slice (some ⟨b124, 0, none⟩) 2 2)]) [.slice (some ⟨b124, 0, none⟩) 2 2, .slice none 0 0] rfl (by kernel_rfl)) rfl fun a hE => ?_
 refine WL.storeI hE hS 0 rfl [.slice (some ⟨b124, 0, none⟩) 2 2, .slice none 0 0] (runs_plain rfl) rfl rfl rfl ty25 rfl rfl rfl rfl ?_; clear hE hS a w; intro a w hE hS
 refine WL.nil ?_
 refine W.ret ?_
 refine finG (fn := Tryz.f53) (rs := [.cell 0 25]) (vs := [_]) hE rfl ⟨⟨_, rfl, .inl ⟨_, rfl, hS.seesAt 0 rfl, ty25⟩⟩, trivial⟩ ?_
 subst hr
 replace hS := hS.tail
 exact ⟨_, s127, rfl, (Sg.Le.trans (Sg.Le.trans (Sg.Le.trans (Sg.Le.trans (Sg.Le.trans (Sg.Le.trans (Sg.Le.trans (Sg.Le.trans (Sg.Le.trans (Sg.Le.trans (Sg.Le.trans (Sg.Le.trans hle57 hle63) hle69) hle74) hle80) hle86) hle92) hle99) hle105) hle110) hle116) hle122) hle128), ⟨_, _, _, _, rfl, h129, Sl.nil⟩, hS⟩
set_option maxHeartbeats 8000000 in
theorem GuidecheckLeast_ok  {w : World} {s : Sg} {R : List HP} {x0 : ApiDay} {a0_0 : Option Addr} {c0_0 : Nat} {a0_1 : Option Addr} {c0_1 : Nat} {x1 : Int} (hS : St w s (R)) (hTab : TabS Tryz.prog s) (h0_0 : Sl 4 RApiTrain s a0_0 c0_0 x0.Trains) (h0_1 : Sl 1 (RL 1 (RI .i64)) s a0_1 c0_1 x0.Turns) {r : Int} (hr : GuidecheckLeast x0 x1 = some r) :
  Calls Tryz.prog 79 [.agg (List.toArray [.slice a0_0 x0.Trains.length c0_0, .slice a0_1 x0.Turns.length c0_1]), vi x1].toArray w (fun e w => e = .returned (vi r) ∧ St w s (R)) := by
 refine enter Tryz.func79 rfl rfl rfl fun a hE => ?_
 rw [GuidecheckLeast] at hr
 refine W.seq (W.region ?_)
 refine WL.box hE hS (runs_plain rfl) rfl rfl rfl ?_; clear hE hS a w; intro b51 a w hE hS
 refine vp hS hE rfl rfl fun a hE => WL.nil ?_
 refine W.seq ?_
 refine W.seq (W.region (vP hS hE (Gives.loadBA hE 0 rfl rfl ty25) rfl fun a hE => ?_))
 obtain ⟨q52, hq53, hr⟩ := bindS hr
 have hc_ := GuideCheck_ok hS (TabS.mono (Sg.Le.refl _) hTab) h0_0 h0_1 hq53
 refine WL.fnq hE (hc_) (runs_plain rfl) bd60 rfl rfl rfl ?_
 clear hE hS hc_; rintro e w ⟨rfl, hS⟩; refine ⟨_, rfl, ?_⟩; clear a; intro a hE
 refine vp hS hE rfl rfl fun a hE => WL.nil ?_
 refine W.seq (W.region (v2 hS hE rfl rfl rfl rfl fun a hE => WL.nil ?_))
 refine W.cond hE rfl (fun hc54 => ?_) (fun hc54 => ?_)
 ·replace hr := iteT hc54 hr
  refine W.seq (W.region (v2 hS hE rfl rfl rfl rfl fun a hE => WL.nil ?_))
  refine W.ret ?_
  refine finG (fn := Tryz.f79) (rs := [.tmp 4]) (vs := [_]) hE rfl ⟨rfl, trivial⟩ ?_
  obtain rfl := Option.some.inj hr
  replace hS := hS.tail
  exact ⟨rfl, hS⟩
 replace hr := iteF hc54 hr
 refine W.skip ?_
 refine W.seq ?_
 refine W.seq (W.region (vp hS hE rfl rfl fun a hE => ?_))
 refine WL.fnq hE (Guidewithin_ok hS  rfl (r := Guidewithin x1 0 28800)) (runs_plain rfl) bd61 rfl rfl rfl ?_
 clear hE hS; rintro e w ⟨rfl, hS⟩; refine ⟨_, rfl, ?_⟩; clear a; intro a hE
 refine vp hS hE rfl rfl fun a hE => WL.nil ?_
 refine W.cond hE rfl (fun hc55 => ?_) (fun hc55 => ?_)
 ·replace hr := iteT hc55 hr
  refine W.seq (W.region (vp hS hE rfl rfl fun a hE => WL.nil ?_))
  refine W.ret ?_
  refine finG (fn := Tryz.f79) (rs := [.tmp 4]) (vs := [_]) hE rfl ⟨rfl, trivial⟩ ?_
  obtain rfl := Option.some.inj hr
  replace hS := hS.tail
  exact ⟨rfl, hS⟩
 replace hr := iteF hc55 hr
 refine W.skip ?_
 refine W.seq (W.region (vp hS hE rfl rfl fun a hE => WL.nil ?_))
 refine W.ret ?_
 refine finG (fn := Tryz.f79) (rs := [.tmp 4]) (vs := [_]) hE rfl ⟨rfl, trivial⟩ ?_
 obtain rfl := Option.some.inj hr
 replace hS := hS.tail
 exact ⟨rfl, hS⟩
set_option maxHeartbeats 8000000 in
theorem Guidecheck_ok  {w : World} {s : Sg} {R : List HP} {x0 : ApiDay} {a0_0 : Option Addr} {c0_0 : Nat} {a0_1 : Option Addr} {c0_1 : Nat} {x1 : Int} {x2 : Int} {x3 : Int} {x4 : List Int} {a4 : Option Addr} {c4 : Nat} (hS : St w s (R)) (hTab : TabS Tryz.prog s) (h0_0 : Sl 4 RApiTrain s a0_0 c0_0 x0.Trains) (h0_1 : Sl 1 (RL 1 (RI .i64)) s a0_1 c0_1 x0.Turns) (h4 : Sl 1 (RI .i64) s a4 c4 x4) {r : Int} (hr : Guidecheck x0 x1 x2 x3 x4 = some r) :
  Calls Tryz.prog 38 [.agg (List.toArray [.slice a0_0 x0.Trains.length c0_0, .slice a0_1 x0.Turns.length c0_1]), vi x1, vi x2, vi x3, .slice a4 x4.length c4].toArray w (fun e w => e = .returned (vi r) ∧ St w s (R)) := by
 refine enter Tryz.func38 rfl rfl rfl fun a hE => ?_
 rw [Guidecheck] at hr
 refine W.seq (W.region ?_)
 refine WL.box hE hS (runs_plain rfl) rfl rfl rfl ?_; clear hE hS a w; intro b51 a w hE hS
 refine vp hS hE rfl rfl fun a hE => WL.nil ?_
 refine W.seq ?_
 refine W.seq (W.region (vP hS hE (Gives.loadBA hE 0 rfl rfl ty25) rfl fun a hE => ?_))
 refine vp hS hE rfl rfl fun a hE => ?_
 obtain ⟨q52, hq53, hr⟩ := bindS hr
 have hc_ := GuidecheckLeast_ok hS (TabS.mono (Sg.Le.refl _) hTab) h0_0 h0_1 hq53
 refine WL.fnq hE (hc_) (runs_plain rfl) bd79 rfl rfl rfl ?_
 clear hE hS hc_; rintro e w ⟨rfl, hS⟩; refine ⟨_, rfl, ?_⟩; clear a; intro a hE
 refine vp hS hE rfl rfl fun a hE => WL.nil ?_
 refine W.seq (W.region (v2 hS hE rfl rfl rfl rfl fun a hE => WL.nil ?_))
 refine W.cond hE rfl (fun hc54 => ?_) (fun hc54 => ?_)
 ·replace hr := iteT hc54 hr
  refine W.seq (W.region (v2 hS hE rfl rfl rfl rfl fun a hE => WL.nil ?_))
  refine W.ret ?_
  refine finG (fn := Tryz.f38) (rs := [.tmp 10]) (vs := [_]) hE rfl ⟨rfl, trivial⟩ ?_
  obtain rfl := Option.some.inj hr
  replace hS := hS.tail
  exact ⟨rfl, hS⟩
 replace hr := iteF hc54 hr
 refine W.skip ?_
 refine W.seq ?_
 refine W.seq ?_
 obtain ⟨q56, hq55, hr⟩ := bndS hr
 refine W.cut (fun a w => ∃ (q59 : Bool), q59 = q56 ∧ Rep a 41 [(2, vi x2), (3, vi x3), (4, .slice a4 x4.length c4), (27, .bool q59)] ∧ St w s (pc b51 #[.slice a0_0 x0.Trains.length c0_0, .slice a0_1 x0.Turns.length c0_1] 25 :: R)) ?_ ?_
 ·refine W.gen fun K60 hK60 => ?_
  refine W.region ?_
  refine vp hS hE rfl rfl fun a hE => ?_
  refine WL.fnq hE (Guidewithin_ok hS  rfl (r := Guidewithin x2 0 11)) (runs_plain rfl) bd61 rfl rfl rfl ?_
  clear hE hS; rintro e w ⟨rfl, hS⟩; refine ⟨_, rfl, ?_⟩; clear a; intro a hE
  refine v2 hS hE rfl rfl rfl rfl fun a hE => ?_
  rcases Bool.eq_false_or_eq_true (!(Guidewithin x2 0 11)) with hg61 | hg61
  ·replace hq55 := iteT hg61 hq55
   refine nO hE rfl rfl rfl (by rw [hg61]; decide) rfl fun a hE => ?_
   refine nO hE rfl rfl rfl (by rw [hg61]; decide) rfl fun a hE => ?_
   refine nO hE rfl rfl rfl (by rw [hg61]; decide) rfl fun a hE => ?_
   refine vP hS hE (Gives.pickT hE rfl hg61 rfl) rfl fun a hE => WL.nil ?_
   subst hK60
   exact ⟨true, hq55, hE.pick _ ⟨rfl, rfl, rfl, rfl, trivial⟩, hS⟩
  replace hq55 := iteF hg61 hq55
  refine WL.vS hS hE (runs_if hE rfl rfl rfl hg61) (Gives.p hE rfl) rfl fun a hE => ?_
  refine WL.fnq hE (Guidewithin_ok hS  rfl (r := Guidewithin x3 0 11)) (runs_if hE rfl rfl rfl hg61) bd61 rfl rfl rfl ?_
  clear hE hS; rintro e w ⟨rfl, hS⟩; refine ⟨_, rfl, ?_⟩; clear a; intro a hE
  refine WL.vS hS hE (runs_if hE rfl rfl rfl hg61) (Gives.p hE rfl) rfl fun a hE => ?_
  refine vP hS hE (Gives.pickF hE rfl hg61 rfl) rfl fun a hE => WL.nil ?_
  subst hK60
  exact ⟨!(Guidewithin x3 0 11), hq55, hE.pick _ ⟨rfl, rfl, rfl, rfl, trivial⟩, hS⟩
 clear hE hS a w; rintro a w ⟨q59, rfl, hE, hS⟩
 refine W.cond hE rfl (fun hc62 => ?_) (fun hc62 => ?_)
 ·replace hr := iteT hc62 hr
  refine W.seq (W.region (vp hS hE rfl rfl fun a hE => WL.nil ?_))
  refine W.ret ?_
  refine finG (fn := Tryz.f38) (rs := [.tmp 10]) (vs := [_]) hE rfl ⟨rfl, trivial⟩ ?_
  obtain rfl := Option.some.inj hr
  replace hS := hS.tail
  exact ⟨rfl, hS⟩
 replace hr := iteF hc62 hr
 refine W.skip ?_
 refine W.seq ?_
 refine W.seq (W.region (v2 hS hE rfl rfl rfl rfl fun a hE => ?_))
 refine vp hS hE rfl rfl fun a hE => WL.nil ?_
 refine W.cond hE rfl (fun hc63 => ?_) (fun hc63 => ?_)
 ·replace hr := iteT hc63 hr
  refine W.seq (W.region (vp hS hE rfl rfl fun a hE => WL.nil ?_))
  refine W.ret ?_
  refine finG (fn := Tryz.f38) (rs := [.tmp 10]) (vs := [_]) hE rfl ⟨rfl, trivial⟩ ?_
  obtain rfl := Option.some.inj hr
  replace hS := hS.tail
  exact ⟨rfl, hS⟩
 replace hr := iteF hc63 hr
 refine W.skip ?_
 refine W.seq ?_
 refine W.seq (W.region (vp hS hE rfl rfl fun a hE => ?_))
 refine vP hS hE (Gives.len hE rfl sl65) rfl fun a hE => ?_
 refine vp hS hE rfl rfl fun a hE => WL.nil ?_
 obtain ⟨q65, hq64, hr⟩ := bndS hr
 refine W.cut (fun a w => (.next ()) = q65 ∧ Rep a 41 [] ∧ St w s (pc b51 #[.slice a0_0 x0.Trains.length c0_0, .slice a0_1 x0.Turns.length c0_1] 25 :: R)) ?_ ?_
 ·refine W.block ?_
  refine W.loop (fun m a w => ∃ (rest68 : List Int) (k66 : Nat), rest68.length = m ∧ x4.drop k66 = rest68 ∧ Guidecheck.loop1 rest68 = q65 ∧ Rep a 41 [(31, .slice a4 x4.length c4), (32, vi ((x4).length : Int)), (33, vi ((k66 : Nat) : Int))] ∧ St w s (pc b51 #[.slice a0_0 x0.Trains.length c0_0, .slice a0_1 x0.Turns.length c0_1] 25 :: R)) (m := x4.length) ⟨x4, 0, rfl, rfl, hq64, hE.pick _ ⟨rfl, rfl, rfl, trivial⟩, hS⟩ ?_
  clear hE hS a w hq64; rintro m72 a w ⟨rest68, k66, rfl, hd69, hq64, hE, hS⟩
  refine W.gen fun K75 hK75 => ?_
  rcases rest68 with _ | ⟨x67, rest68⟩
  ·have hlt70 := drop_nil hd69
   refine W.seq (W.region (vp hS hE rfl rfl fun a hE => WL.nil ?_))
   refine W.seq ?_
   refine W.condF hE rfl (decide_eq_false (by omega)) ?_
   subst hK75
   refine W.exit rfl ?_
   exact ⟨hq64, hE.pick _ trivial, hS⟩
  obtain ⟨hlt70, hx71, hd69⟩ := drop_cons hd69
  rw [Guidecheck.loop1] at hq64
  refine W.seq (W.region (vp hS hE rfl rfl fun a hE => WL.nil ?_))
  refine W.seq ?_
  refine W.condT hE rfl (decide_eq_true (by omega)) ?_
  refine W.skip ?_
  refine W.seq ?_
  refine W.block ?_
  refine W.seq (W.region ?_)
  obtain ⟨cs76, hl77, hR78, hat79⟩ := h4.at hx71
  subst hR78
  refine vP hS hE (Gives.idx hE k66 rfl rfl sl65 rfl hlt70 (h4.aok hlt70)) rfl fun a hE => ?_
  refine vP hS hE (Gives.load1 hE rfl (fun w h => hat79 w _ h) ty3) rfl fun a hE => ?_
  refine vp hS hE rfl rfl fun a hE => WL.nil ?_
  refine W.seq (W.region (vp hS hE rfl rfl fun a hE => ?_))
  refine WL.fnq hE (Guidewithin_ok hS  rfl (r := Guidewithin x67 0 28800)) (runs_plain rfl) bd61 rfl rfl rfl ?_
  clear hE hS; rintro e w ⟨rfl, hS⟩; refine ⟨_, rfl, ?_⟩; clear a; intro a hE
  refine vp hS hE rfl rfl fun a hE => WL.nil ?_
  refine W.cond hE rfl (fun hc80 => ?_) (fun hc80 => ?_)
  ·replace hq64 := iteT hc80 hq64
   refine W.seq (W.region (vp hS hE rfl rfl fun a hE => WL.nil ?_))
   refine W.ret ?_
   subst hK75
   rw [← hq64] at hr
   dsimp only at hr
   refine finG (fn := Tryz.f38) (rs := [.tmp 10]) (vs := [_]) hE rfl ⟨rfl, trivial⟩ ?_
   obtain rfl := Option.some.inj hr
   replace hS := hS.tail
   exact ⟨rfl, hS⟩
  replace hq64 := iteF hc80 hq64
  refine W.skip ?_
  refine W.region ?_
  refine vP hS hE (Gives.inc hE rfl (by have := h4.small; omega)) rfl fun a hE => ?_
  refine vp hS hE rfl rfl fun a hE => WL.nil ?_
  subst hK75
  exact ⟨rest68.length, Nat.lt_succ_self _, rest68, k66 + 1, rfl, hd69, hq64, hE.pick _ ⟨rfl, rfl, rfl, trivial⟩, hS⟩
 clear hE hS a w; rintro a w ⟨rfl, hE, hS⟩
 dsimp only at hr
 refine W.seq (W.region (vp hS hE rfl rfl fun a hE => WL.nil ?_))
 refine W.ret ?_
 refine finG (fn := Tryz.f38) (rs := [.tmp 10]) (vs := [_]) hE rfl ⟨rfl, trivial⟩ ?_
 obtain rfl := Option.some.inj hr
 replace hS := hS.tail
 exact ⟨rfl, hS⟩
theorem pt_at0 {α : Type} {es : Nat} {R : Rd α} {s : Sg} {b : Nat} {v : α} (h : Pt es R s (some ⟨b, 0, none⟩) (some v)) : ∃ cs, s.At b 0 cs ∧ R s cs v := by
 obtain ⟨b', o', cs, e, _, h3, h4⟩ := h
 injection e with e
 injection e with e1 e2
 subst e1; subst e2
 exact ⟨cs, h3, h4⟩
set_option maxHeartbeats 4000000 in
theorem rides1_ok {s : Sg} {bn bo bs ba : Nat} {cn : List Value} {n : GuideNet} {station at_ nt : Int} (hn : s.At bn 0 cn) (hcn : RGuideNet s cn n) (hnt : s.At bo 0 [vi nt]) (hst : s.At bs 0 [vi station]) (hat : s.At ba 0 [vi at_]) :
  Iter Tryz.prog 100 [pp bn, pp bo, pp bs, pp ba] (fun x => [Value.agg (GuideRide.cells x).toArray]) s (ridesT station at_ nt n.Day.Trains 0) := by
 intro y I X hI hY w t Q h0 hS
 obtain ⟨a0, c0, a1, c1, rfl, hTr, hTu⟩ := hcn
 have cell : ∀ {u : Sg} {b o : Nat} {cs : List Value} {v : Value} (k : Nat), s.Le u → s.At b o cs → cs[k]? = some v → ∀ w rs, St w u rs → Sees w b (o + k) [v] := by
  intro u b o cs v k hle h hk w rs hS j x hj
  cases j with
  | zero => simp at hj; subst hj; have := hS.sees (h.mono hle) k v hk; simpa using this
  | succ j => simp at hj
 have hle := hI _ _ _ h0
 refine enter Tryz.func100 rfl rfl rfl fun a hE => ?_
 refine W.seq (W.region (vP hS hE (Gives.fld hE rfl fl91_0) rfl fun a hE => ?_))
 refine vP hS hE (Gives.fld hE rfl fl25_0) rfl fun a hE => ?_
 refine vP hS hE (Gives.load1 hE rfl (fun w h => cell 0 hle hn rfl w _ h) ty22) rfl fun a hE => ?_
 refine vP hS hE (Gives.len hE rfl sl22) rfl fun a hE => ?_
 refine vp hS hE rfl rfl fun a hE => WL.nil ?_
 refine W.block ?_
 refine W.loop (fun m a w => ∃ (rest : List ApiTrain) (k : Nat) (pre : List GuideRide) (u : Sg) (Q : List HP), rest.length = m ∧ n.Day.Trains.drop k = rest ∧ ridesT station at_ nt n.Day.Trains 0 = pre ++ ridesT station at_ nt rest k ∧ I pre u Q ∧ Rep a 59 [(0, .func (.yield y) #[] #[]), (1, pp bn), (2, pp bo), (3, pp bs), (4, pp ba), (13, .slice a0 n.Day.Trains.length c0), (14, vi ((n.Day.Trains.length : Nat) : Int)), (15, vi (k : Int))] ∧ St w u Q) (m := n.Day.Trains.length) ⟨n.Day.Trains, 0, [], t, Q, rfl, rfl, rfl, h0, hE.pick _ ⟨rfl, rfl, rfl, rfl, rfl, rfl, rfl, rfl, trivial⟩, hS⟩ ?_
 clear hE hS h0 hle a w t Q; rintro m a w ⟨rest, k, pre, u, Q, rfl, hd, hl, hp, hE, hS⟩
 have hle := hI _ _ _ hp
 refine W.gen fun K hK => ?_
 have hrd : K.rd = none := by rw [← hK]
 rcases rest with _ | ⟨x, rest⟩
 ·have hlt := drop_nil hd
  refine W.seq (W.region (vp hS hE rfl rfl fun a hE => WL.nil ?_))
  refine W.seq ?_
  refine W.condF hE rfl (decide_eq_false (by omega)) ?_
  subst hK
  refine W.exit rfl ?_
  refine fin0 hE rfl ⟨⟨_, rfl⟩, .inl ⟨u, Q, ?_, hS⟩⟩
  rw [hl, ridesT, List.append_nil]; exact hp
 obtain ⟨hlt, hx, hd⟩ := drop_cons hd
 rw [ridesT] at hl
 refine W.seq (W.region (vp hS hE rfl rfl fun a hE => WL.nil ?_))
 refine W.seq ?_
 refine W.condT hE rfl (decide_eq_true (by omega)) ?_
 refine W.skip ?_
 refine W.seq ?_
 refine W.block ?_
 obtain ⟨ct, hctl, hctA, hct⟩ := hTr.el k x hx
 obtain ⟨ta, tc, tb, te, rfl, hSt, hLe⟩ := hct
 refine W.seq (W.region (vp hS hE rfl rfl fun a hE => ?_))
 refine vP hS hE (Gives.idx hE k rfl rfl sl22 rfl hlt ((Sl.mono RApiTrain.mono hle hTr).aok (k := k) hlt)) rfl fun a hE => ?_
 refine vP hS hE (Gives.loadA hE rfl (fun w h => h.sees (hctA.mono hle)) ty111) rfl fun a hE => ?_
 refine WL.alloc hE hS (runs_plain rfl) zr111 rfl ?_; clear hE hS a w; intro bt a w hE hS
 refine vp hS hE rfl rfl fun a hE => ?_
 refine WL.storeI hE hS 0 rfl [vi x.No, vi x.Stock, .slice ta x.Stops.length tc, .slice tb x.Legs.length te] (runs_plain rfl) rfl rfl rfl ty111 rfl rfl rfl rfl ?_; clear hE hS a w; intro a w hE hS
 refine WL.nil ?_
 refine W.seq ?_
 refine W.seq (W.region (vp hS hE rfl rfl fun a hE => ?_))
 refine vP hS hE (Gives.load1 hE rfl (fun w h => cell 0 hle hnt rfl w _ h) ty3) rfl fun a hE => ?_
 refine vp hS hE rfl rfl fun a hE => WL.nil ?_
 refine W.cond hE rfl (fun hc => ?_) (fun hc => ?_)
 ·refine W.exit rfl ?_
  have hc : (k : Int) = nt := by simpa using hc
  rw [if_pos hc, List.nil_append] at hl
  replace hS := hS.tail
  refine W.region ?_
  refine vP hS hE (Gives.inc hE rfl (by have := hTr.small; omega)) rfl fun a hE => ?_
  refine vp hS hE rfl rfl fun a hE => WL.nil ?_
  subst hK
  exact ⟨rest.length, Nat.lt_succ_self _, rest, k + 1, pre, u, Q, rfl, hd, hl, hp, hE.pick _ ⟨rfl, rfl, rfl, rfl, rfl, rfl, rfl, rfl, trivial⟩, hS⟩
 have hc : ¬ (k : Int) = nt := by simpa using hc
 rw [if_neg hc] at hl
 refine W.skip ?_
 refine W.seq (W.region (vP hS hE (Gives.fld hE rfl fl111_2) rfl fun a hE => ?_))
 refine vP hS hE (Gives.loadB hE 0 rfl rfl rfl ty109) rfl fun a hE => ?_
 refine vP hS hE (Gives.len hE rfl sl109) rfl fun a hE => ?_
 refine vp hS hE rfl rfl fun a hE => WL.nil ?_
 refine W.block ?_
 refine W.loop (fun m a w => ∃ (rest2 : List ApiStop) (k2 : Nat) (pre2 : List GuideRide) (u2 : Sg) (Q2 : List HP), rest2.length = m ∧ x.Stops.drop k2 = rest2 ∧ ridesT station at_ nt n.Day.Trains 0 = pre2 ++ (ridesS station at_ k x.Stops.length rest2 k2 ++ ridesT station at_ nt rest (k + 1)) ∧ I pre2 u2 Q2 ∧ Rep a 59 [(0, .func (.yield y) #[] #[]), (1, pp bn), (2, pp bo), (3, pp bs), (4, pp ba), (13, .slice a0 n.Day.Trains.length c0), (14, vi ((n.Day.Trains.length : Nat) : Int)), (15, vi (k : Int)), (6, vi (k : Int)), (7, pp bt), (24, .slice ta x.Stops.length tc), (25, vi ((x.Stops.length : Nat) : Int)), (26, vi (k2 : Int))] ∧ St w u2 (pt bt (Obj.cells [Value.int .i64 x.No, Value.int .i64 x.Stock, Value.slice ta x.Stops.length tc, Value.slice tb x.Legs.length te].toArray 111 (0, 0)) :: Q2)) (m := x.Stops.length) ⟨x.Stops, 0, pre, u, Q, rfl, rfl, hl, hp, hE.pick _ ⟨rfl, rfl, rfl, rfl, rfl, rfl, rfl, rfl, rfl, rfl, rfl, rfl, rfl, trivial⟩, hS⟩ ?_
 clear hE hS a w hp hl hle pre; rintro m2 a w ⟨rest2, k2, pre, u2, Q2, rfl, hd2, hl, hp, hE, hS⟩
 have hle := hI _ _ _ hp
 refine W.gen fun K2 hK2 => ?_
 have hrd2 : K2.rd = none := by rw [← hK2]; exact hrd
 rcases rest2 with _ | ⟨z, rest2⟩
 ·have hlt2 := drop_nil hd2
  rw [ridesS, List.nil_append] at hl
  refine W.seq (W.region (vp hS hE rfl rfl fun a hE => WL.nil ?_))
  refine W.seq ?_
  refine W.condF hE rfl (decide_eq_false (by omega)) ?_
  subst hK2
  refine W.exit rfl ?_
  replace hS := hS.tail
  refine W.region ?_
  refine vP hS hE (Gives.inc hE rfl (by have := hTr.small; omega)) rfl fun a hE => ?_
  refine vp hS hE rfl rfl fun a hE => WL.nil ?_
  subst hK
  exact ⟨rest.length, Nat.lt_succ_self _, rest, k + 1, pre, u2, Q2, rfl, hd, hl, hp, hE.pick _ ⟨rfl, rfl, rfl, rfl, rfl, rfl, rfl, rfl, trivial⟩, hS⟩
 obtain ⟨hlt2, hx2, hd2⟩ := drop_cons hd2
 rw [ridesS] at hl
 refine W.seq (W.region (vp hS hE rfl rfl fun a hE => WL.nil ?_))
 refine W.seq ?_
 refine W.condT hE rfl (decide_eq_true (by omega)) ?_
 refine W.skip ?_
 refine W.seq ?_
 refine W.block ?_
 obtain ⟨cz, hczl, hcz, hczS⟩ := (Sl.mono RApiStop.mono hle hSt).at hx2
 subst hcz
 refine W.seq (W.region (vp hS hE rfl rfl fun a hE => ?_))
 refine vP hS hE (Gives.idx hE k2 rfl rfl sl109 rfl hlt2 ((Sl.mono RApiStop.mono hle hSt).aok (k := k2) hlt2)) rfl fun a hE => ?_
 refine vP hS hE (Gives.loadA hE rfl (fun w h => hczS w _ h) ty99) rfl fun a hE => ?_
 refine WL.alloc hE hS (runs_plain rfl) zr99 rfl ?_; clear hE hS a w; intro bz a w hE hS
 refine vp hS hE rfl rfl fun a hE => ?_
 refine WL.storeI hE hS 0 rfl (ApiStop.cells z) (vs := ApiStop.cells z) (runs_plain rfl) rfl rfl rfl ty99 rfl rfl rfl rfl ?_; clear hE hS a w; intro a w hE hS
 refine WL.nil ?_
 refine W.seq ?_
 refine W.seq (W.region (vP hS hE (Gives.fld hE rfl fl99_0) rfl fun a hE => ?_))
 refine vP hS hE (Gives.loadB hE 0 rfl rfl rfl ty3) rfl fun a hE => ?_
 refine vP hS hE (Gives.load1 hE rfl (fun w h => cell 0 hle hst rfl w _ h) ty3) rfl fun a hE => ?_
 refine v2 hS hE rfl rfl rfl rfl fun a hE => ?_
 by_cases hc3 : z.Station = station
 ·have hb3 : (z.Station != station) = false := by simpa using hc3
  refine WL.vS hS hE (runs_if hE rfl rfl rfl hb3) (Gives.fld hE rfl fl99_3) rfl fun a hE => ?_
  refine WL.vS hS hE (runs_if hE rfl rfl rfl hb3) (Gives.loadB hE 0 rfl rfl rfl ty3) rfl fun a hE => ?_
  refine WL.vS hS hE (runs_if hE rfl rfl rfl hb3) (Gives.load1 hE rfl (fun w h => cell 0 hle hat rfl w _ h) ty3) rfl fun a hE => ?_
  refine WL.vS hS hE (runs_if hE rfl rfl rfl hb3) (Gives.p hE rfl) rfl fun a hE => ?_
  refine vP hS hE (Gives.pickF hE rfl hb3 rfl) rfl fun a hE => WL.nil ?_
  refine W.cond hE rfl (fun hc4 => ?_) (fun hc4 => ?_)
  ·refine W.exit rfl ?_
   have hc4 : z.Dep < at_ := by simpa using hc4
   rw [if_pos (Or.inr hc4), List.nil_append] at hl
   replace hS := hS.tail
   refine W.region ?_
   refine vP hS hE (Gives.inc hE rfl (by have := hSt.small; omega)) rfl fun a hE => ?_
   refine vp hS hE rfl rfl fun a hE => WL.nil ?_
   subst hK2
   exact ⟨rest2.length, Nat.lt_succ_self _, rest2, k2 + 1, pre, u2, Q2, rfl, hd2, hl, hp, hE.pick _ ⟨rfl, rfl, rfl, rfl, rfl, rfl, rfl, rfl, rfl, rfl, rfl, rfl, rfl, trivial⟩, hS⟩
  have hc4 : ¬ z.Dep < at_ := by simpa using hc4
  rw [if_neg (show ¬ (z.Station ≠ station ∨ z.Dep < at_) from fun h => h.elim (fun h => h hc3) hc4), List.append_assoc] at hl
  refine W.skip ?_
  refine W.seq (W.region (vp hS hE rfl rfl fun a hE => ?_))
  refine vP hS hE (Gives.inc hE rfl (by have := hSt.small; omega)) rfl fun a hE => ?_
  refine vp hS hE rfl rfl fun a hE => WL.nil ?_
  refine W.block ?_
  refine W.loop (fun m a w => ∃ (r3 k3 : Nat) (pre3 : List GuideRide) (u3 : Sg) (Q3 : List HP), r3 = m ∧ k3 + r3 = x.Stops.length ∧ ridesT station at_ nt n.Day.Trains 0 = pre3 ++ (ridesF k k2 r3 k3 ++ (ridesS station at_ k x.Stops.length rest2 (k2 + 1) ++ ridesT station at_ nt rest (k + 1))) ∧ I pre3 u3 Q3 ∧ Rep a 59 [(0, .func (.yield y) #[] #[]), (1, pp bn), (2, pp bo), (3, pp bs), (4, pp ba), (13, .slice a0 n.Day.Trains.length c0), (14, vi ((n.Day.Trains.length : Nat) : Int)), (15, vi (k : Int)), (6, vi (k : Int)), (7, pp bt), (24, .slice ta x.Stops.length tc), (25, vi ((x.Stops.length : Nat) : Int)), (26, vi (k2 : Int)), (8, vi (k2 : Int)), (9, pp bz), (10, vi (k3 : Int))] ∧ St w u3 (pt bz (Obj.cells (ApiStop.cells z).toArray 99 (0, 0)) :: pt bt (Obj.cells [Value.int .i64 x.No, Value.int .i64 x.Stock, Value.slice ta x.Stops.length tc, Value.slice tb x.Legs.length te].toArray 111 (0, 0)) :: Q3)) (m := x.Stops.length - (k2 + 1)) ⟨x.Stops.length - (k2 + 1), k2 + 1, pre, u2, Q2, rfl, by omega, hl, hp, hE.pick _ ⟨rfl, rfl, rfl, rfl, rfl, rfl, rfl, rfl, rfl, rfl, rfl, rfl, rfl, rfl, rfl, rfl, trivial⟩, hS⟩ ?_
  clear hE hS a w hp hl hle pre; rintro m3 a w ⟨r3, k3, pre, u3, Q3, rfl, hd3, hl, hp, hE, hS⟩
  have hle := hI _ _ _ hp
  refine W.gen fun K3 hK3 => ?_
  have hrd3 : K3.rd = none := by rw [← hK3]; exact hrd2
  refine W.seq ?_
  refine W.seq (W.region (vp hS hE rfl rfl fun a hE => ?_))
  refine vP hS hE (Gives.fld hE rfl fl111_2) rfl fun a hE => ?_
  refine vP hS hE (Gives.loadB hE 1 rfl rfl rfl ty109) rfl fun a hE => ?_
  refine vP hS hE (Gives.len hE rfl sl109) rfl fun a hE => ?_
  refine vp hS hE rfl rfl fun a hE => WL.nil ?_
  rcases r3 with _ | r3
  ·rw [ridesF, List.nil_append] at hl
   refine W.condF hE rfl (decide_eq_false (by omega)) ?_
   subst hK3
   refine W.exit rfl ?_
   replace hS := hS.tail
   refine W.region ?_
   refine vP hS hE (Gives.inc hE rfl (by have := hSt.small; omega)) rfl fun a hE => ?_
   refine vp hS hE rfl rfl fun a hE => WL.nil ?_
   subst hK2
   exact ⟨rest2.length, Nat.lt_succ_self _, rest2, k2 + 1, pre, u3, Q3, rfl, hd2, hl, hp, hE.pick _ ⟨rfl, rfl, rfl, rfl, rfl, rfl, rfl, rfl, rfl, rfl, rfl, rfl, rfl, trivial⟩, hS⟩
  rw [ridesF, List.cons_append] at hl
  refine W.condT hE rfl (decide_eq_true (by omega)) ?_
  refine W.skip ?_
  refine W.seq ?_
  refine W.block ?_
  refine W.seq ?_
  refine W.regionY ?_
  refine WLY.vS hrd3 hS hE (runs_plain rfl) (Gives.p hE rfl) rfl fun a hE => ?_
  refine WLY.vS hrd3 hS hE (runs_plain rfl) (Gives.p hE rfl) rfl fun a hE => ?_
  refine WLY.vS hrd3 hS hE (runs_plain rfl) (Gives.p hE rfl) rfl fun a hE => ?_
  refine WLY.vS hrd3 hS hE (runs_plain rfl) (Gives.p hE rfl) rfl fun a hE => ?_
  refine WLY.vS hrd3 hS hE (runs_plain rfl) (Gives.build hE (vs := [(0, vi (k : Int)), (1, vi (k2 : Int)), (2, vi (k3 : Int))]) (GuideRide.cells ⟨(k : Int), (k2 : Int), (k3 : Int)⟩) rfl (by kernel_rfl)) rfl fun a hE => ?_
  have hpre : pre ++ [⟨(k : Int), (k2 : Int), (k3 : Int)⟩] <+: ridesT station at_ nt n.Day.Trains 0 := ⟨_, by rw [hl, List.append_assoc]; rfl⟩
  refine WLY.yield hrd3 hE rfl rfl (runs_plain rfl) rfl (hY pre ⟨(k : Int), (k2 : Int), (k3 : Int)⟩ u3 Q3 [pt bz (Obj.cells (ApiStop.cells z).toArray 99 (0, 0)), pt bt (Obj.cells [Value.int .i64 x.No, Value.int .i64 x.Stock, Value.slice ta x.Stops.length tc, Value.slice tb x.Legs.length te].toArray 111 (0, 0))] w hpre hp hS) ?_
  clear hE hS a w; rintro e w (⟨rfl, u4, Q4, hp4, hS⟩ | ⟨rfl, u4, Q4, hX, hS⟩)
  ·refine ⟨_, rfl, fun a hE => ?_⟩
   refine WLY.vS hrd3 hS hE (runs_plain rfl) (Gives.p hE rfl) rfl fun a hE => ?_
   refine WLY.nil ?_
   refine W.condF hE rfl rfl ?_
   refine W.skip ?_
   refine W.region ?_
   refine vp hS hE rfl rfl fun a hE => ?_
   refine vP hS hE (Gives.inc hE rfl (by have := hSt.small; omega)) rfl fun a hE => ?_
   refine vp hS hE rfl rfl fun a hE => WL.nil ?_
   subst hK3
   exact ⟨r3, Nat.lt_succ_self _, r3, k3 + 1, _, u4, Q4, rfl, by omega, (by rw [hl, List.append_assoc]; rfl), hp4, hE.pick _ ⟨rfl, rfl, rfl, rfl, rfl, rfl, rfl, rfl, rfl, rfl, rfl, rfl, rfl, rfl, rfl, rfl, trivial⟩, hS⟩
  refine ⟨_, rfl, fun a hE => ?_⟩
  refine WLY.vS hrd3 hS hE (runs_plain rfl) (Gives.p hE rfl) rfl fun a hE => ?_
  refine WLY.nil ?_
  refine W.condT hE rfl rfl ?_
  refine W.ret ?_
  subst hK3 hK2 hK
  exact fin0 hE rfl ⟨⟨_, rfl⟩, .inr ⟨u4, Q4, hX, hS.tail.tail⟩⟩
 have hb3 : (z.Station != station) = true := by simpa using hc3
 refine nO hE rfl rfl rfl (by rw [hb3]; decide) rfl fun a hE => ?_
 refine nO hE rfl rfl rfl (by rw [hb3]; decide) rfl fun a hE => ?_
 refine nO hE rfl rfl rfl (by rw [hb3]; decide) rfl fun a hE => ?_
 refine nO hE rfl rfl rfl (by rw [hb3]; decide) rfl fun a hE => ?_
 refine vP hS hE (Gives.pickT hE rfl hb3 rfl) rfl fun a hE => WL.nil ?_
 refine W.condT hE rfl rfl ?_
 refine W.exit rfl ?_
 rw [if_pos (Or.inl hc3), List.nil_append] at hl
 replace hS := hS.tail
 refine W.region ?_
 refine vP hS hE (Gives.inc hE rfl (by have := hSt.small; omega)) rfl fun a hE => ?_
 refine vp hS hE rfl rfl fun a hE => WL.nil ?_
 subst hK2
 exact ⟨rest2.length, Nat.lt_succ_self _, rest2, k2 + 1, pre, u2, Q2, rfl, hd2, hl, hp, hE.pick _ ⟨rfl, rfl, rfl, rfl, rfl, rfl, rfl, rfl, rfl, rfl, rfl, rfl, rfl, trivial⟩, hS⟩
theorem rides_it {s : Sg} {bn bo bs ba : Nat} {n : GuideNet} {station at_ nt : Int} (hn : Pt 3 RGuideNet s (some ⟨bn, 0, none⟩) (some n)) (hnt : Pt 1 (RI .i64) s (some ⟨bo, 0, none⟩) (some nt)) (hst : Pt 1 (RI .i64) s (some ⟨bs, 0, none⟩) (some station)) (hat : Pt 1 (RI .i64) s (some ⟨ba, 0, none⟩) (some at_)) :
  Iter Tryz.prog 100 [pp bn, pp bo, pp bs, pp ba] (fun x => [Value.agg (GuideRide.cells x).toArray]) s (ridesT station at_ nt n.Day.Trains 0) := by
 obtain ⟨cn, h1, h2⟩ := pt_at0 hn
 obtain ⟨c1, h3, rfl⟩ := pt_at0 hnt
 obtain ⟨c2, h4, rfl⟩ := pt_at0 hst
 obtain ⟨c3, h5, rfl⟩ := pt_at0 hat
 exact rides1_ok h1 h2 h3 h4 h5

set_option maxHeartbeats 8000000 in
theorem GuideNetrides_ok  {w : World} {s : Sg} {R : List HP} {x0 : GuideNet} {a0_0 : Option Addr} {c0_0 : Nat} {a0_1 : Option Addr} {c0_1 : Nat} {x1 : Int} {x2 : Int} {x3 : Int} (hS : St w s (R)) (h0_0 : Sl 4 RApiTrain s a0_0 c0_0 x0.Day.Trains) (h0_1 : Sl 1 (RL 1 (RI .i64)) s a0_1 c0_1 x0.Day.Turns) {r : (List GuideRide)} (hr : GuideNetrides x0 x1 x2 x3 = r) :
  Calls Tryz.prog 49 [.agg (List.toArray [.slice a0_0 x0.Day.Trains.length c0_0, .slice a0_1 x0.Day.Turns.length c0_1, vi x0.least]), vi x1, vi x2, vi x3].toArray w (fun e w => ∃ (lb0 : List Value) (t : Sg), e = .returned (.func (.func 100) #[] lb0.toArray) ∧ s.Le t ∧ Iter Tryz.prog 100 lb0 (fun x => [Value.agg (GuideRide.cells x).toArray]) t r ∧ St w t (R)) := by
 refine enter Tryz.func49 rfl rfl rfl fun a hE => ?_
 rw [GuideNetrides] at hr
 refine W.seq (W.region ?_)
 refine WL.box hE hS (runs_plain rfl) rfl rfl rfl ?_; clear hE hS a w; intro b51 a w hE hS
 refine WL.box hE hS (runs_plain rfl) rfl rfl rfl ?_; clear hE hS a w; intro b52 a w hE hS
 refine WL.box hE hS (runs_plain rfl) rfl rfl rfl ?_; clear hE hS a w; intro b53 a w hE hS
 refine WL.box hE hS (runs_plain rfl) rfl rfl rfl ?_; clear hE hS a w; intro b54 a w hE hS
 refine vp hS hE rfl rfl fun a hE => WL.nil ?_
 refine W.seq (W.region (vP hS hE (Gives.mkfn hE (vs := [pp b51, pp b54, pp b52, pp b53]) rfl) rfl fun a hE => ?_))
 refine vp hS hE rfl rfl fun a hE => WL.nil ?_
 refine W.ret ?_
 have hF := hS.fixB (es := 3) (Rr := RGuideNet) (v := x0) RGuideNet.mono 3 rfl rfl ⟨_, _, _, _, rfl, h0_0, h0_1⟩; clear hS; obtain ⟨s55, hle56, hS, h57⟩ := hF
 replace h0_0 := Sl.mono RApiTrain.mono hle56 h0_0
 replace h0_1 := Sl.mono (RL.mono RI.mono) hle56 h0_1
 have hF := hS.fixB (es := 1) (Rr := RI .i64) (v := x3) RI.mono 0 rfl rfl rfl; clear hS; obtain ⟨s58, hle59, hS, h60⟩ := hF
 replace h0_0 := Sl.mono RApiTrain.mono hle59 h0_0
 replace h0_1 := Sl.mono (RL.mono RI.mono) hle59 h0_1
 replace h57 := Pt.mono RGuideNet.mono hle59 h57
 have hF := hS.fixB (es := 1) (Rr := RI .i64) (v := x1) RI.mono 1 rfl rfl rfl; clear hS; obtain ⟨s61, hle62, hS, h63⟩ := hF
 replace h0_0 := Sl.mono RApiTrain.mono hle62 h0_0
 replace h0_1 := Sl.mono (RL.mono RI.mono) hle62 h0_1
 replace h57 := Pt.mono RGuideNet.mono hle62 h57
 replace h60 := Pt.mono RI.mono hle62 h60
 have hF := hS.fixB (es := 1) (Rr := RI .i64) (v := x2) RI.mono 0 rfl rfl rfl; clear hS; obtain ⟨s64, hle65, hS, h66⟩ := hF
 replace h0_0 := Sl.mono RApiTrain.mono hle65 h0_0
 replace h0_1 := Sl.mono (RL.mono RI.mono) hle65 h0_1
 replace h57 := Pt.mono RGuideNet.mono hle65 h57
 replace h63 := Pt.mono RI.mono hle65 h63
 replace h60 := Pt.mono RI.mono hle65 h60
 have h67 := rides_it h57 h60 h63 h66
 refine finG (fn := Tryz.f49) (rs := [.tmp 8]) (vs := [_]) hE rfl ⟨rfl, trivial⟩ ?_
 subst hr
 exact ⟨[pp b51, pp b54, pp b52, pp b53], s64, rfl, (Sg.Le.trans (Sg.Le.trans (Sg.Le.trans hle56 hle59) hle62) hle65), h67, hS⟩
set_option maxHeartbeats 8000000 in
theorem GuideNeton_ok  {w : World} {s : Sg} {R : List HP} {x0 : GuideNet} {a0_0 : Option Addr} {c0_0 : Nat} {a0_1 : Option Addr} {c0_1 : Nat} {x1 : GuideRide} (hS : St w s (R)) (h0_0 : Sl 4 RApiTrain s a0_0 c0_0 x0.Day.Trains) (_h0_1 : Sl 1 (RL 1 (RI .i64)) s a0_1 c0_1 x0.Day.Turns) {r : ApiStop} (hr : GuideNeton x0 x1 = some r) :
  Calls Tryz.prog 44 [.agg (List.toArray [.slice a0_0 x0.Day.Trains.length c0_0, .slice a0_1 x0.Day.Turns.length c0_1, vi x0.least]), .agg (GuideRide.cells x1).toArray].toArray w (fun e w => ∃ (cs0 : List Value) (t : Sg), e = .returned (.agg cs0.toArray) ∧ s.Le t ∧ RApiStop t cs0 r ∧ St w t (R)) := by
 refine enter Tryz.func44 rfl rfl rfl fun a hE => ?_
 rw [GuideNeton] at hr
 refine W.seq (W.region ?_)
 refine WL.box hE hS (runs_plain rfl) rfl rfl rfl ?_; clear hE hS a w; intro b51 a w hE hS
 refine WL.box hE hS (runs_plain rfl) rfl rfl rfl ?_; clear hE hS a w; intro b52 a w hE hS
 refine WL.alloc hE hS (runs_plain rfl) zr99 rfl ?_; clear hE hS a w; intro b53 a w hE hS
 refine WL.nil ?_
 refine W.seq ?_
 refine W.gen fun K54 hK54 => ?_
 refine W.regionE (sel (fun w => St w s (pc b53 #[vi 0, vi 0, vi 0, vi 0] 99 :: pc b52 (GuideRide.cells x1).toArray 95 :: pc b51 #[.slice a0_0 x0.Day.Trains.length c0_0, .slice a0_1 x0.Day.Turns.length c0_1, vi x0.least] 91 :: R)) (fun w => St w s (pc b52 (GuideRide.cells x1).toArray 95 :: pc b51 #[.slice a0_0 x0.Day.Trains.length c0_0, .slice a0_1 x0.Day.Turns.length c0_1, vi x0.least] 91 :: R))) (fun b i => cond b ([0, 1, 2, 3, 4, 5, 6, 7, 8, 9, 10, 11].contains i) ([0, 1, 2, 3, 4, 5, 6, 7, 8, 9, 10, 11, 12].contains i)) mixed ?_
 replace hS := hS.drew
 refine tP (i := 0) hE rfl (by kernel_rfl) (Gives.fld hE rfl fl91_0) rfl hS (hS.tail) fun a hE => ?_
 refine tP (i := 1) hE rfl (by kernel_rfl) (Gives.fld hE rfl fl25_0) rfl hS (hS.tail) fun a hE => ?_
 refine tT (i := 2) true rfl hE rfl (by kernel_rfl) (Gives.loadB hE 2 rfl rfl rfl ty22) rfl hS (hS.tail) fun a hE => ?_
 refine tP (i := 3) hE rfl (by kernel_rfl) (Gives.fld hE rfl fl95_0) rfl hS (hS.tail) fun a hE => ?_
 refine tT (i := 4) true rfl hE rfl (by kernel_rfl) (Gives.loadB hE 1 rfl rfl rfl ty3) rfl hS (hS.tail) fun a hE => ?_
 obtain ⟨x55, hx56, hr⟩ := bindS hr
 obtain ⟨hi57, hlt58, hy59⟩ := gx_some hx56
 obtain ⟨cs60, hl61, hR62, hat63⟩ := h0_0.at hy59
 obtain ⟨a64, c65, a67, c68, rfl, h66, h69⟩ := hR62
 refine tP (i := 5) hE rfl (by kernel_rfl) (Gives.idx hE (x1.Train).toNat rfl rfl sl22 hi57 hlt58 (h0_0.aok hlt58)) rfl hS (hS.tail) fun a hE => ?_
 refine tP (i := 6) hE rfl (by kernel_rfl) (Gives.fld hE rfl fl111_2) rfl hS (hS.tail) fun a hE => ?_
 refine tT (i := 7) true rfl hE rfl (by kernel_rfl) (Gives.load1 hE rfl (fun w h => (hat63 w _ h).one rfl) ty109) rfl hS (hS.tail) fun a hE => ?_
 refine tP (i := 8) hE rfl (by kernel_rfl) (Gives.fld hE rfl fl95_1) rfl hS (hS.tail) fun a hE => ?_
 refine tT (i := 9) true rfl hE rfl (by kernel_rfl) (Gives.loadB hE 1 rfl rfl rfl ty3) rfl hS (hS.tail) fun a hE => ?_
 obtain ⟨x70, hx71, hr⟩ := bindS hr
 obtain ⟨hi72, hlt73, hy74⟩ := gx_some hx71
 obtain ⟨cs75, hl76, hR77, hat78⟩ := h66.at hy74
 subst hR77
 refine tP (i := 10) hE rfl (by kernel_rfl) (Gives.idx hE (x1.On).toNat rfl rfl sl109 hi72 hlt73 (h66.aok hlt73)) rfl hS (hS.tail) fun a hE => ?_
 refine tT (i := 11) true rfl hE rfl (by kernel_rfl) (Gives.loadA hE rfl (fun w h => hat78 w _ h) ty99) rfl hS (hS.tail) fun a hE => ?_
 refine Rg.one (i := 12) false true rfl (by kernel_rfl) (by kernel_rfl) (by kernel_rfl) ?_
 refine WL.storeI hE hS 0 rfl (ApiStop.cells x70) (runs_plain rfl) rfl rfl rfl ty99 rfl rfl rfl rfl ?_; clear hE hS a w; intro a w hE hS
 refine WL.nil ?_
 refine ⟨⟨fun h => absurd h (by decide), fun _ => (hS.tail)⟩, ?_⟩
 refine Rg.done (by kernel_rfl) ?_
 subst hK54
 refine W.ret ?_
 refine finG (fn := Tryz.f44) (rs := [.cell 4 99]) (vs := [_]) hE rfl ⟨⟨_, rfl, .inl ⟨_, rfl, hS.seesAt 0 rfl, ty99⟩⟩, trivial⟩ ?_
 obtain rfl := Option.some.inj hr
 replace hS := hS.tail
 replace hS := hS.tail
 replace hS := hS.tail
 exact ⟨_, s, rfl, (Sg.Le.refl _), rfl, hS⟩
set_option maxHeartbeats 8000000 in
theorem GuideNetoff_ok  {w : World} {s : Sg} {R : List HP} {x0 : GuideNet} {a0_0 : Option Addr} {c0_0 : Nat} {a0_1 : Option Addr} {c0_1 : Nat} {x1 : GuideRide} (hS : St w s (R)) (h0_0 : Sl 4 RApiTrain s a0_0 c0_0 x0.Day.Trains) (_h0_1 : Sl 1 (RL 1 (RI .i64)) s a0_1 c0_1 x0.Day.Turns) {r : ApiStop} (hr : GuideNetoff x0 x1 = some r) :
  Calls Tryz.prog 43 [.agg (List.toArray [.slice a0_0 x0.Day.Trains.length c0_0, .slice a0_1 x0.Day.Turns.length c0_1, vi x0.least]), .agg (GuideRide.cells x1).toArray].toArray w (fun e w => ∃ (cs0 : List Value) (t : Sg), e = .returned (.agg cs0.toArray) ∧ s.Le t ∧ RApiStop t cs0 r ∧ St w t (R)) := by
 refine enter Tryz.func43 rfl rfl rfl fun a hE => ?_
 rw [GuideNetoff] at hr
 refine W.seq (W.region ?_)
 refine WL.box hE hS (runs_plain rfl) rfl rfl rfl ?_; clear hE hS a w; intro b51 a w hE hS
 refine WL.box hE hS (runs_plain rfl) rfl rfl rfl ?_; clear hE hS a w; intro b52 a w hE hS
 refine WL.alloc hE hS (runs_plain rfl) zr99 rfl ?_; clear hE hS a w; intro b53 a w hE hS
 refine WL.nil ?_
 refine W.seq ?_
 refine W.gen fun K54 hK54 => ?_
 refine W.regionE (sel (fun w => St w s (pc b53 #[vi 0, vi 0, vi 0, vi 0] 99 :: pc b52 (GuideRide.cells x1).toArray 95 :: pc b51 #[.slice a0_0 x0.Day.Trains.length c0_0, .slice a0_1 x0.Day.Turns.length c0_1, vi x0.least] 91 :: R)) (fun w => St w s (pc b52 (GuideRide.cells x1).toArray 95 :: pc b51 #[.slice a0_0 x0.Day.Trains.length c0_0, .slice a0_1 x0.Day.Turns.length c0_1, vi x0.least] 91 :: R))) (fun b i => cond b ([0, 1, 2, 3, 4, 5, 6, 7, 8, 9, 10, 11].contains i) ([0, 1, 2, 3, 4, 5, 6, 7, 8, 9, 10, 11, 12].contains i)) mixed ?_
 replace hS := hS.drew
 refine tP (i := 0) hE rfl (by kernel_rfl) (Gives.fld hE rfl fl91_0) rfl hS (hS.tail) fun a hE => ?_
 refine tP (i := 1) hE rfl (by kernel_rfl) (Gives.fld hE rfl fl25_0) rfl hS (hS.tail) fun a hE => ?_
 refine tT (i := 2) true rfl hE rfl (by kernel_rfl) (Gives.loadB hE 2 rfl rfl rfl ty22) rfl hS (hS.tail) fun a hE => ?_
 refine tP (i := 3) hE rfl (by kernel_rfl) (Gives.fld hE rfl fl95_0) rfl hS (hS.tail) fun a hE => ?_
 refine tT (i := 4) true rfl hE rfl (by kernel_rfl) (Gives.loadB hE 1 rfl rfl rfl ty3) rfl hS (hS.tail) fun a hE => ?_
 obtain ⟨x55, hx56, hr⟩ := bindS hr
 obtain ⟨hi57, hlt58, hy59⟩ := gx_some hx56
 obtain ⟨cs60, hl61, hR62, hat63⟩ := h0_0.at hy59
 obtain ⟨a64, c65, a67, c68, rfl, h66, h69⟩ := hR62
 refine tP (i := 5) hE rfl (by kernel_rfl) (Gives.idx hE (x1.Train).toNat rfl rfl sl22 hi57 hlt58 (h0_0.aok hlt58)) rfl hS (hS.tail) fun a hE => ?_
 refine tP (i := 6) hE rfl (by kernel_rfl) (Gives.fld hE rfl fl111_2) rfl hS (hS.tail) fun a hE => ?_
 refine tT (i := 7) true rfl hE rfl (by kernel_rfl) (Gives.load1 hE rfl (fun w h => (hat63 w _ h).one rfl) ty109) rfl hS (hS.tail) fun a hE => ?_
 refine tP (i := 8) hE rfl (by kernel_rfl) (Gives.fld hE rfl fl95_2) rfl hS (hS.tail) fun a hE => ?_
 refine tT (i := 9) true rfl hE rfl (by kernel_rfl) (Gives.loadB hE 1 rfl rfl rfl ty3) rfl hS (hS.tail) fun a hE => ?_
 obtain ⟨x70, hx71, hr⟩ := bindS hr
 obtain ⟨hi72, hlt73, hy74⟩ := gx_some hx71
 obtain ⟨cs75, hl76, hR77, hat78⟩ := h66.at hy74
 subst hR77
 refine tP (i := 10) hE rfl (by kernel_rfl) (Gives.idx hE (x1.Off).toNat rfl rfl sl109 hi72 hlt73 (h66.aok hlt73)) rfl hS (hS.tail) fun a hE => ?_
 refine tT (i := 11) true rfl hE rfl (by kernel_rfl) (Gives.loadA hE rfl (fun w h => hat78 w _ h) ty99) rfl hS (hS.tail) fun a hE => ?_
 refine Rg.one (i := 12) false true rfl (by kernel_rfl) (by kernel_rfl) (by kernel_rfl) ?_
 refine WL.storeI hE hS 0 rfl (ApiStop.cells x70) (runs_plain rfl) rfl rfl rfl ty99 rfl rfl rfl rfl ?_; clear hE hS a w; intro a w hE hS
 refine WL.nil ?_
 refine ⟨⟨fun h => absurd h (by decide), fun _ => (hS.tail)⟩, ?_⟩
 refine Rg.done (by kernel_rfl) ?_
 subst hK54
 refine W.ret ?_
 refine finG (fn := Tryz.f43) (rs := [.cell 4 99]) (vs := [_]) hE rfl ⟨⟨_, rfl, .inl ⟨_, rfl, hS.seesAt 0 rfl, ty99⟩⟩, trivial⟩ ?_
 obtain rfl := Option.some.inj hr
 replace hS := hS.tail
 replace hS := hS.tail
 replace hS := hS.tail
 exact ⟨_, s, rfl, (Sg.Le.refl _), rfl, hS⟩
set_option maxHeartbeats 8000000 in
theorem GuideNetbehind_ok  {w : World} {s : Sg} {R : List HP} {x0 : GuideNet} {a0_0 : Option Addr} {c0_0 : Nat} {a0_1 : Option Addr} {c0_1 : Nat} {x1 : GuideRide} (hS : St w s (R)) (h0_0 : Sl 4 RApiTrain s a0_0 c0_0 x0.Day.Trains) (h0_1 : Sl 1 (RL 1 (RI .i64)) s a0_1 c0_1 x0.Day.Turns) {r : (List GuideRide)} (hr : GuideNetbehind x0 x1 = some r) :
  Calls Tryz.prog 47 [.agg (List.toArray [.slice a0_0 x0.Day.Trains.length c0_0, .slice a0_1 x0.Day.Turns.length c0_1, vi x0.least]), .agg (GuideRide.cells x1).toArray].toArray w (fun e w => ∃ (lb0 : List Value) (t : Sg), e = .returned (.func (.func 100) #[] lb0.toArray) ∧ s.Le t ∧ Iter Tryz.prog 100 lb0 (fun x => [Value.agg (GuideRide.cells x).toArray]) t r ∧ St w t (R)) := by
 refine enter Tryz.func47 rfl rfl rfl fun a hE => ?_
 rw [GuideNetbehind] at hr
 refine W.seq (W.region ?_)
 refine WL.box hE hS (runs_plain rfl) rfl rfl rfl ?_; clear hE hS a w; intro b51 a w hE hS
 refine WL.box hE hS (runs_plain rfl) rfl rfl rfl ?_; clear hE hS a w; intro b52 a w hE hS
 refine vp hS hE rfl rfl fun a hE => WL.nil ?_
 refine W.seq (W.region (vP hS hE (Gives.loadBA hE 1 rfl rfl ty91) rfl fun a hE => ?_))
 refine vP hS hE (Gives.loadBA hE 0 rfl rfl ty95) rfl fun a hE => ?_
 obtain ⟨q53, hq54, hr⟩ := bindS hr
 have hc_ := GuideNetoff_ok hS h0_0 h0_1 hq54
 refine WL.fnq hE (hc_) (runs_plain rfl) bd43 rfl rfl rfl ?_
 clear hE hS hc_; rintro e w ⟨cs55, s57, rfl, hle58, h56, hS⟩; refine ⟨_, rfl, ?_⟩; clear a; intro a hE
 replace h0_0 := Sl.mono RApiTrain.mono hle58 h0_0
 replace h0_1 := Sl.mono (RL.mono RI.mono) hle58 h0_1
 subst h56
 refine WL.alloc hE hS (runs_plain rfl) zr99 rfl ?_; clear hE hS a w; intro b59 a w hE hS
 refine WL.storeI hE hS 0 rfl (ApiStop.cells q53) (runs_plain rfl) rfl rfl rfl ty99 rfl rfl rfl rfl ?_; clear hE hS a w; intro a w hE hS
 refine WL.nil ?_
 refine W.seq (W.region (vP hS hE (Gives.loadBA hE 2 rfl rfl ty91) rfl fun a hE => ?_))
 refine vP hS hE (Gives.fld hE rfl fl99_0) rfl fun a hE => ?_
 refine vP hS hE (Gives.loadB hE 0 rfl rfl rfl ty3) rfl fun a hE => ?_
 refine vP hS hE (Gives.fld hE rfl fl99_2) rfl fun a hE => ?_
 refine vP hS hE (Gives.loadB hE 0 rfl rfl rfl ty3) rfl fun a hE => ?_
 refine vP hS hE (Gives.fld hE rfl fl91_1) rfl fun a hE => ?_
 refine vP hS hE (Gives.loadB hE 2 rfl rfl rfl ty3) rfl fun a hE => ?_
 refine vp hS hE rfl rfl fun a hE => ?_
 refine vP hS hE (Gives.fld hE rfl fl95_0) rfl fun a hE => ?_
 refine vP hS hE (Gives.loadB hE 1 rfl rfl rfl ty3) rfl fun a hE => ?_
 obtain ⟨q60, hq61, hr⟩ := bndS hr
 have hc_ := GuideNetrides_ok hS h0_0 h0_1 hq61
 refine WL.fnq hE (hc_) (runs_plain rfl) bd49 rfl rfl rfl ?_
 clear hE hS hc_; rintro e w ⟨lb62, s64, rfl, hle65, h63, hS⟩; refine ⟨_, rfl, ?_⟩; clear a; intro a hE
 replace h0_0 := Sl.mono RApiTrain.mono hle65 h0_0
 replace h0_1 := Sl.mono (RL.mono RI.mono) hle65 h0_1
 refine vp hS hE rfl rfl fun a hE => WL.nil ?_
 refine W.ret ?_
 refine finG (fn := Tryz.f47) (rs := [.tmp 4]) (vs := [_]) hE rfl ⟨rfl, trivial⟩ ?_
 obtain rfl := Option.some.inj hr
 replace hS := hS.tail
 replace hS := hS.tail
 replace hS := hS.tail
 exact ⟨lb62, s64, rfl, (Sg.Le.trans hle58 hle65), h63, hS⟩
set_option maxHeartbeats 8000000 in
theorem SlicesAppendSeqLguideRide_v1_ok  {w : World} {s : Sg} {R : List HP} {x0 : List GuideRide} {a_v0 : Option Addr} {c_v0 n_v0 : Nat} {cs_v0 : List Value} {x1 : List GuideRide} {lb1 : List Value} (hS : St w s (vecC 95 3 a_v0 c_v0 n_v0 cs_v0 :: R)) (h_v0 : Ev 3 RGuideRide s cs_v0 x0) (hn_v0 : x0.length = n_v0) (h1 : Iter Tryz.prog 100 lb1 (fun x => [Value.agg (GuideRide.cells x).toArray]) s x1) {r : (List GuideRide)} (hr : SlicesAppendSeqLguideRide_v1 x0 x1 = some r) :
  Calls Tryz.prog 183 [.slice a_v0 n_v0 c_v0, .func (.func 100) #[] lb1.toArray].toArray w (fun e w => ∃ (a0 : Option Addr) (c0 n0 : Nat) (cs0 : List Value) (t : Sg), e = .returned (.slice a0 n0 c0) ∧ s.Le t ∧ Ev 3 RGuideRide t cs0 r ∧ r.length = n0 ∧ St w t (vecC 95 3 a0 c0 n0 cs0 :: R)) := by
 refine enter Tryz.func183 rfl rfl rfl fun a hE => ?_
 rw [SlicesAppendSeqLguideRide_v1] at hr
 subst hn_v0
 refine W.seq (W.region ?_)
 refine WL.box hE hS (runs_plain rfl) rfl rfl rfl ?_; clear hE hS a w; intro b51 a w hE hS
 refine vp hS hE rfl rfl fun a hE => WL.nil ?_
 refine W.seq ?_
 refine W.seq (W.region (vp hS hE rfl rfl fun a hE => WL.nil ?_))
 refine W.block ?_
 obtain ⟨q53, hq52, hr⟩ := bindS hr
 refine W.cut (fun a w => ∃ (q65 : List GuideRide), ∃ (a66 : Option Addr), ∃ (c67 : Nat), ∃ (n69 : Nat), ∃ (cs70 : List Value), ∃ (D59 : Nat) (s63 : Sg), s.Le s63 ∧ q65 = q53 ∧ Ev 3 RGuideRide s63 cs70 q65 ∧ q65.length = n69 ∧ Rep a 13 [(2, pp b51), (4294967295, vi (D59 : Nat))] ∧ St w s63 (pt D59 (.deferred (some [])) :: pc b51 #[.slice a66 n69 c67] 27 :: vecC 95 3 a66 c67 n69 cs70 :: R)) ?_ ?_
 ·refine W.rangeFunc (l := x1) (ps := [7]) [] rfl hE rfl hS rfl h1 bd100 (fun _ => rfl) rfl (fun pre56 s63 Q_ => ∃ (rest55 : List GuideRide), ∃ (q65 : List GuideRide), ∃ (a66 : Option Addr), ∃ (c67 : Nat), ∃ (n69 : Nat), ∃ (cs70 : List Value), x1 = pre56 ++ rest55 ∧ SlicesAppendSeqLguideRide_v1.loop1 rest55 q65 = some q53 ∧ s.Le s63 ∧ Ev 3 RGuideRide s63 cs70 q65 ∧ q65.length = n69 ∧ Q_ = pc b51 #[.slice a66 n69 c67] 27 :: vecC 95 3 a66 c67 n69 cs70 :: R) (fun _ _ _ => False) (fun _ _ _ h => (by obtain ⟨rest55, q65, a66, c67, n69, cs70, _, _, hle_, _⟩ := h; exact hle_)) ⟨x1, x0, a_v0, c_v0, x0.length, cs_v0, rfl, hq52, Sg.Le.refl _, h_v0, (rfl), rfl⟩ (fun x54 (b72 : Nat) => [(2, pp b51), (5, pp b72)]) (fun x54 (b72 : Nat) => [pc b72 (GuideRide.cells x54).toArray 95]) ?_ ?_ ?_ ?_
  ·intro x54 a w t62 R L60 hE hS
   refine W.region ?_
   refine WL.alloc hE hS (runs_plain rfl) zr95 rfl ?_; clear hE hS a w; intro b72 a w hE hS
   refine WL.storeI hE hS 0 rfl (GuideRide.cells x54) (runs_plain rfl) rfl rfl rfl ty95 rfl rfl rfl rfl ?_; clear hE hS a w; intro a w hE hS
   refine WL.nil ?_
   exact ⟨b72, hE.pick _ ⟨rfl, rfl, trivial⟩, hS⟩
  ·intro pre56 x54 b72 s63 Q_ T_ L60 a w hpre_ hI_ hE hS
   obtain ⟨rest55, q65, a66, c67, n69, cs70, hl57, hq52, hle64, h68, rfl, rfl⟩ := hI_
   obtain ⟨rest55, rfl⟩ := pre_next hl57 hpre_
   rw [SlicesAppendSeqLguideRide_v1.loop1] at hq52
   replace hS : St w s63 (pc b72 (GuideRide.cells x54).toArray 95 :: pc b51 #[.slice a66 q65.length c67] 27 :: vecC 95 3 a66 c67 q65.length cs70 :: (R ++ T_)) := hS
   generalize hT73 : R ++ T_ = R at hS
   refine W.gen fun K74 hK74 => ?_
   replace h1 := Iter.mono hle64 h1
   replace h_v0 := Ev.mono RGuideRide.mono hle64 h_v0
   refine W.block ?_
   refine W.region ?_
   refine vP hS hE (Gives.loadB hE 1 rfl rfl rfl ty27) rfl fun a hE => ?_
   refine vP hS hE (Gives.loadBA hE 0 rfl rfl ty95) rfl fun a hE => ?_
   refine WL.lit hE hS (e := 95) (es := 3) (vs := [(0, .agg (GuideRide.cells x54).toArray)]) (cs := [vi x54.Train, vi x54.On, vi x54.Off]) (runs_plain rfl) rfl (by kernel_rfl) rfl ?_; clear hE hS a w; intro b75 a w hE hS
   obtain ⟨x76, hx77, hq52⟩ := bindS hq52
   refine WL.appD hE hS 2 (m := 1) (runs_plain rfl) rfl rfl rfl ap27 rfl h68 rfl (xs := [x54]) (Ev.cons (c1 := [vi x54.Train, vi x54.On, vi x54.Off]) rfl rfl (Ev.nil)) rfl rfl hx77 rfl ?_; clear hE hS a w; intro a78 c79 cs80 a w h81 hE hS
   refine WL.storeI hE hS 1 rfl [.slice a78 x76.length c79] (runs_plain rfl) rfl rfl rfl ty27 rfl rfl rfl rfl ?_; clear hE hS a w; intro a w hE hS
   refine WL.nil ?_
   replace hS := hS.tail
   subst hK74
   subst hT73
   exact ⟨s63, _, ⟨rest55, x76, a78, c79, x76.length, cs80, hl57.trans (by simp), hq52, hle64, h81, (rfl), rfl⟩, hS⟩
  ·intro s63 Q_ D59 a w hI_ hE hS
   obtain ⟨rest55, q65, a66, c67, n69, cs70, hl57, hq52, hle64, h68, rfl, rfl⟩ := hI_
   obtain rfl := pre_end hl57
   rw [SlicesAppendSeqLguideRide_v1.loop1] at hq52
   exact ⟨q65, _, _, _, _, D59, s63, hle64, Option.some.inj hq52, h68, rfl, hE.pick _ ⟨rfl, rfl, trivial⟩, hS⟩
  exact fun _ _ _ _ _ _ _ h => h.elim
 clear hE hS a w; rintro a w ⟨q65, a66, c67, n69, cs70, D59, s63, hle64, rfl, h68, rfl, hE, hS⟩
 replace h1 := Iter.mono hle64 h1
 replace h_v0 := Ev.mono RGuideRide.mono hle64 h_v0
 refine W.seq (W.region (vP hS hE (Gives.loadB hE 1 rfl rfl rfl ty27) rfl fun a hE => ?_))
 refine vp hS hE rfl rfl fun a hE => WL.nil ?_
 refine W.ret ?_
 refine finGM (fn := Tryz.f183) (rs := [.tmp 4]) (vs := [.slice a66 q65.length c67]) hE hS 0 rfl rfl ?_
 clear hS; intro w hS
 refine ⟨⟨rfl, trivial⟩, ?_⟩
 obtain rfl := Option.some.inj hr
 replace hS := hS.tail
 exact ⟨a66, c67, q65.length, cs70, s63, rfl, hle64, h68, rfl, hS⟩
set_option maxHeartbeats 8000000 in
theorem GuideNetends_ok  {w : World} {s : Sg} {R : List HP} {x0 : GuideNet} {a0_0 : Option Addr} {c0_0 : Nat} {a0_1 : Option Addr} {c0_1 : Nat} {x1 : List GuideRide} {a1 : Option Addr} {c1 : Nat} (hS : St w s (R)) (h0_0 : Sl 4 RApiTrain s a0_0 c0_0 x0.Day.Trains) (h0_1 : Sl 1 (RL 1 (RI .i64)) s a0_1 c0_1 x0.Day.Turns) (h1 : Sl 3 RGuideRide s a1 c1 x1) {r : (List (List (GuidePlace × Bool)))} (hr : GuideNetends x0 x1 = some r) :
  Calls Tryz.prog 167 [.agg (List.toArray [.slice a0_0 x0.Day.Trains.length c0_0, .slice a0_1 x0.Day.Turns.length c0_1, vi x0.least]), .slice a1 x1.length c1].toArray w (fun e w => ∃ (bs0 : List Nat) (t : Sg), e = .returned (.agg (mcells 4 bs0).toArray) ∧ s.Le t ∧ bs0.length = 4 ∧ St w t (mapsV keyGuidePlace.f Value.bool bs0 r :: R)) := by
 refine enter Tryz.func167 rfl rfl rfl fun a hE => ?_
 rw [GuideNetends] at hr
 refine W.seq (W.region ?_)
 refine WL.box hE hS (runs_plain rfl) rfl rfl rfl ?_; clear hE hS a w; intro b51 a w hE hS
 refine WL.alloc hE hS (runs_plain rfl) zr264 rfl ?_; clear hE hS a w; intro b52 a w hE hS
 replace hS : St w s (pc b52 (mcells 4 []).toArray 264 :: pc b51 #[.slice a0_0 x0.Day.Trains.length c0_0, .slice a0_1 x0.Day.Turns.length c0_1, vi x0.least] 91 :: R) := hS
 refine WL.nil ?_
 refine W.seq (W.region ?_)
 refine WL.alloc hE hS (runs_plain rfl) zr264 rfl ?_; clear hE hS a w; intro b53 a w hE hS
 replace hS := hS.mapsNil (fk := keyGuidePlace.f) (fv := Value.bool)
 replace hS : St w s (mapsV keyGuidePlace.f Value.bool [] [] :: pc b53 (mcells 4 []).toArray 264 :: pc b52 (mcells 4 []).toArray 264 :: pc b51 #[.slice a0_0 x0.Day.Trains.length c0_0, .slice a0_1 x0.Day.Turns.length c0_1, vi x0.least] 91 :: R) := hS
 refine WL.nil ?_
 refine W.seq (W.region (v2 hS hE rfl rfl rfl rfl fun a hE => WL.nil ?_))
 refine W.seq ?_
 refine W.seq (W.region (vp hS hE rfl rfl fun a hE => WL.nil ?_))
 obtain ⟨q55, hq54, hr⟩ := bindS hr
 refine W.cut (fun a w => ∃ (q65 : List GuideRide), ∃ (q69 : List (List (GuidePlace × Bool))), ∃ (a66 : Option Addr), ∃ (c67 : Nat), ∃ (bs70 : List Nat), ∃ (s63 : Sg), s.Le s63 ∧ (q65, q69) = q55 ∧ Sl 3 RGuideRide s63 a66 c67 q65 ∧ Rep a 48 [(4, pp b52), (5, pp b53)] ∧ St w s63 (mapsV keyGuidePlace.f Value.bool bs70 q69 :: pc b53 (mcells 4 bs70).toArray 264 :: pc b52 (mcells 4 []).toArray 264 :: pc b51 #[.slice a0_0 x0.Day.Trains.length c0_0, .slice a0_1 x0.Day.Turns.length c0_1, vi x0.least] 91 :: R)) ?_ ?_
 ·refine W.block ?_
  refine W.loop (fun m a w => ∃ (rest58 : Nat) (k56 : Nat), ∃ (q65 : List GuideRide), ∃ (q69 : List (List (GuidePlace × Bool))), ∃ (a66 : Option Addr), ∃ (c67 : Nat), ∃ (bs70 : List Nat), ∃ (s63 : Sg), rest58 = m ∧ k56 + rest58 = 4 ∧ s.Le s63 ∧ GuideNetends.loop1 x0 rest58 k56 q65 q69 = some q55 ∧ Sl 3 RGuideRide s63 a66 c67 q65 ∧ Rep a 48 [(2, pp b51), (4, pp b52), (5, pp b53), (6, .slice a66 q65.length c67), (13, vi ((k56 : Nat) : Int))] ∧ St w s63 (mapsV keyGuidePlace.f Value.bool bs70 q69 :: pc b53 (mcells 4 bs70).toArray 264 :: pc b52 (mcells 4 []).toArray 264 :: pc b51 #[.slice a0_0 x0.Day.Trains.length c0_0, .slice a0_1 x0.Day.Turns.length c0_1, vi x0.least] 91 :: R)) (m := 4) ⟨4, 0, x1, [], a1, c1, [], s, rfl, by omega, (Sg.Le.refl _), hq54, h1, hE.pick _ ⟨rfl, rfl, rfl, rfl, rfl, trivial⟩, hS⟩ ?_
  clear hE hS a w hq54; rintro m62 a w ⟨rest58, k56, q65, q69, a66, c67, bs70, s63, rfl, hd59, hle64, hq54, h68, hE, hS⟩
  refine W.gen fun K71 hK71 => ?_
  replace h0_0 := Sl.mono RApiTrain.mono hle64 h0_0
  replace h0_1 := Sl.mono (RL.mono RI.mono) hle64 h0_1
  replace h1 := Sl.mono RGuideRide.mono hle64 h1
  rcases rest58 with _ | rest58
  ·skip
   refine W.seq (W.region (vp hS hE rfl rfl fun a hE => WL.nil ?_))
   refine W.seq ?_
   refine W.condF hE rfl (decide_eq_false (by omega)) ?_
   subst hK71
   refine W.exit rfl ?_
   exact ⟨q65, q69, a66, c67, bs70, s63, hle64, Option.some.inj hq54, h68, hE.pick _ ⟨rfl, rfl, trivial⟩, hS⟩
  have hlt60 : k56 < 4 := by omega
  rw [GuideNetends.loop1] at hq54
  refine W.seq (W.region (vp hS hE rfl rfl fun a hE => WL.nil ?_))
  refine W.seq ?_
  refine W.condT hE rfl (decide_eq_true (by omega)) ?_
  refine W.skip ?_
  refine W.seq ?_
  refine W.block ?_
  refine W.seq (W.region (v2 hS hE rfl rfl rfl rfl fun a hE => WL.nil ?_))
  refine W.seq (W.region (vp hS hE rfl rfl fun a hE => ?_))
  refine WL.mkMap (fk := keyGuidePlace.f) (fv := Value.bool) hE hS (runs_plain rfl) rfl ?_; clear hE hS a w; intro b72 a w hE hS
  obtain ⟨_, hx73, hq54⟩ := bindS hq54
  obtain ⟨h74, h75⟩ := mst_some hx73
  have hl76 := hS.mapsLen 1 rfl
  refine vP hS hE (Gives.idxA hE (bs70).length rfl rfl ar264 (by rw [hl76]; exact h74) (by rw [hl76]; exact h75) ⟨_, _, rfl⟩) rfl fun a hE => ?_
  refine WL.storeM hE hS 2 rfl (runs_plain rfl) rfl rfl ty263 (by rw [hl76]; exact h75) rfl ?_; clear hE hS a w; intro a w hE hS
  replace hS := hS.mapsSnoc 1 0 rfl rfl
  refine WL.nil ?_
  refine W.seq (W.region ?_)
  replace hS := hS.vecNil 95 3
  refine vp hS hE rfl rfl fun a hE => WL.nil ?_
  refine W.seq ?_
  refine W.seq (W.region (vp hS hE rfl rfl fun a hE => ?_))
  refine vP hS hE (Gives.len hE rfl sl27) rfl fun a hE => ?_
  refine vp hS hE rfl rfl fun a hE => WL.nil ?_
  obtain ⟨q79, hq78, hq54⟩ := bindS hq54
  refine W.cut (fun a w => ∃ (q89 : List GuideRide), ∃ (q96 : List (List (GuidePlace × Bool))), ∃ (a90 : Option Addr), ∃ (c91 : Nat), ∃ (n93 : Nat), ∃ (cs94 : List Value), ∃ (bs97 : List Nat), ∃ (s87 : Sg), s63.Le s87 ∧ (q89, q96) = q79 ∧ Ev 3 RGuideRide s87 cs94 q89 ∧ q89.length = n93 ∧ Rep a 48 [(2, pp b51), (4, pp b52), (5, pp b53), (8, .slice a90 n93 c91), (13, vi ((k56 : Nat) : Int))] ∧ St w s87 (vecC 95 3 a90 c91 n93 cs94 :: mapsV keyGuidePlace.f Value.bool bs97 q96 :: pc b53 (mcells 4 bs97).toArray 264 :: pc b52 (mcells 4 []).toArray 264 :: pc b51 #[.slice a0_0 x0.Day.Trains.length c0_0, .slice a0_1 x0.Day.Turns.length c0_1, vi x0.least] 91 :: R)) ?_ ?_
  ·refine W.block ?_
   refine W.loop (fun m a w => ∃ (rest82 : List GuideRide) (k80 : Nat), ∃ (q89 : List GuideRide), ∃ (q96 : List (List (GuidePlace × Bool))), ∃ (a90 : Option Addr), ∃ (c91 : Nat), ∃ (n93 : Nat), ∃ (cs94 : List Value), ∃ (bs97 : List Nat), ∃ (s87 : Sg), rest82.length = m ∧ q65.drop k80 = rest82 ∧ s63.Le s87 ∧ GuideNetends.loop2 x0 k56 rest82 q89 q96 = some q79 ∧ Ev 3 RGuideRide s87 cs94 q89 ∧ q89.length = n93 ∧ Rep a 48 [(2, pp b51), (4, pp b52), (5, pp b53), (7, vi ((k56 : Nat) : Int)), (8, .slice a90 n93 c91), (13, vi ((k56 : Nat) : Int)), (19, .slice a66 q65.length c67), (20, vi ((q65).length : Int)), (21, vi ((k80 : Nat) : Int))] ∧ St w s87 (vecC 95 3 a90 c91 n93 cs94 :: mapsV keyGuidePlace.f Value.bool bs97 q96 :: pc b53 (mcells 4 bs97).toArray 264 :: pc b52 (mcells 4 []).toArray 264 :: pc b51 #[.slice a0_0 x0.Day.Trains.length c0_0, .slice a0_1 x0.Day.Turns.length c0_1, vi x0.least] 91 :: R)) (m := q65.length) ⟨q65, 0, [], (q69 ++ [[]]), none, 0, 0, [], (bs70 ++ [b72]), s63, rfl, rfl, (Sg.Le.refl _), hq78, (Ev.nil), (rfl), hE.pick _ ⟨rfl, rfl, rfl, rfl, rfl, rfl, rfl, rfl, rfl, trivial⟩, hS⟩ ?_
   clear hE hS a w hq78; rintro m86 a w ⟨rest82, k80, q89, q96, a90, c91, n93, cs94, bs97, s87, rfl, hd83, hle88, hq78, h92, rfl, hE, hS⟩
   refine W.gen fun K98 hK98 => ?_
   replace h68 := Sl.mono RGuideRide.mono hle88 h68
   replace h0_0 := Sl.mono RApiTrain.mono hle88 h0_0
   replace h0_1 := Sl.mono (RL.mono RI.mono) hle88 h0_1
   rcases rest82 with _ | ⟨x81, rest82⟩
   ·have hlt84 := drop_nil hd83
    refine W.seq (W.region (vp hS hE rfl rfl fun a hE => WL.nil ?_))
    refine W.seq ?_
    refine W.condF hE rfl (decide_eq_false (by omega)) ?_
    subst hK98
    refine W.exit rfl ?_
    exact ⟨q89, q96, a90, c91, q89.length, cs94, bs97, s87, hle88, Option.some.inj hq78, h92, rfl, hE.pick _ ⟨rfl, rfl, rfl, rfl, rfl, trivial⟩, hS⟩
   obtain ⟨hlt84, hx85, hd83⟩ := drop_cons hd83
   rw [GuideNetends.loop2] at hq78
   refine W.seq (W.region (vp hS hE rfl rfl fun a hE => WL.nil ?_))
   refine W.seq ?_
   refine W.condT hE rfl (decide_eq_true (by omega)) ?_
   refine W.skip ?_
   refine W.seq ?_
   refine W.block ?_
   refine W.seq (W.region ?_)
   obtain ⟨cs99, hl100, hR101, hat102⟩ := h68.at hx85
   subst hR101
   refine vP hS hE (Gives.idx hE k80 rfl rfl sl27 rfl hlt84 (h68.aok hlt84)) rfl fun a hE => ?_
   refine vP hS hE (Gives.loadA hE rfl (fun w h => hat102 w _ h) ty95) rfl fun a hE => ?_
   refine WL.alloc hE hS (runs_plain rfl) zr95 rfl ?_; clear hE hS a w; intro b103 a w hE hS
   refine WL.storeI hE hS 0 rfl (GuideRide.cells x81) (runs_plain rfl) rfl rfl rfl ty95 rfl rfl rfl rfl ?_; clear hE hS a w; intro a w hE hS
   refine WL.nil ?_
   refine W.seq (W.region (vP hS hE (Gives.fld hE rfl fl95_0) rfl fun a hE => ?_))
   refine vP hS hE (Gives.loadB hE 0 rfl rfl rfl ty3) rfl fun a hE => ?_
   refine vP hS hE (Gives.fld hE rfl fl95_2) rfl fun a hE => ?_
   refine vP hS hE (Gives.loadB hE 0 rfl rfl rfl ty3) rfl fun a hE => ?_
   refine vP hS hE (Gives.build hE (vs := [(0, vi x81.Train), (1, vi x81.Off)]) [vi x81.Train, vi x81.Off] rfl (by kernel_rfl)) rfl fun a hE => ?_
   refine WL.alloc hE hS (runs_plain rfl) zr267 rfl ?_; clear hE hS a w; intro b104 a w hE hS
   refine WL.storeI hE hS 0 rfl [vi x81.Train, vi x81.Off] (runs_plain rfl) rfl rfl rfl ty267 rfl rfl rfl rfl ?_; clear hE hS a w; intro a w hE hS
   refine WL.nil ?_
   refine W.seq ?_
   refine W.seq ?_
   refine W.regionQ (C := fun w => St w s87 (pc b104 #[vi x81.Train, vi x81.Off] 267 :: pc b103 (GuideRide.cells x81).toArray 95 :: vecC 95 3 a90 c91 q89.length cs94 :: mapsV keyGuidePlace.f Value.bool bs97 q96 :: pc b53 (mcells 4 bs97).toArray 264 :: pc b52 (mcells 4 []).toArray 264 :: pc b51 #[.slice a0_0 x0.Day.Trains.length c0_0, .slice a0_1 x0.Day.Turns.length c0_1, vi x0.least] 91 :: R)) mixed (by kernel_rfl) hS.drew ?_
   refine qP hE (Gives.p hE rfl) rfl fun a hE => ?_
   obtain ⟨x105, hx106, hq78⟩ := bindS hq78
   obtain ⟨hi107, hlt108, hy109⟩ := mgx_some hx106
   obtain ⟨b110, hb111⟩ := hS.mapsAt 3 rfl hy109
   refine qP hE (Gives.idxA hE ((((k56 : Nat) : Int)).toNat) rfl rfl ar264 hi107 hlt108 ⟨_, _, rfl⟩) rfl fun a hE => ?_
   refine qP hE (Gives.load1 hE rfl (fun w h => St.mapsSees h 4 rfl hb111) ty263) rfl fun a hE => ?_
   refine qP hE (Gives.loadBA hE 0 rfl rfl ty267) rfl fun a hE => ?_
   refine qP hE (Gives.mapsGetS keyGuidePlace hE 3 (k := (GuidePlace.mk x81.Train x81.Off)) (z := false) hb111 hy109 rfl rfl rfl mp263 zm4) rfl fun a hE => ?_
   refine QL.nil ?_; clear hS w; intro w hS
   refine W.cond hE rfl (fun hc112 => ?_) (fun hc112 => ?_)
   ·replace hq78 := iteT hc112 hq78
    refine W.exit rfl ?_
    refine W.region ?_
    refine vP hS hE (Gives.inc hE rfl (by have := h68.small; omega)) rfl fun a hE => ?_
    refine vp hS hE rfl rfl fun a hE => WL.nil ?_
    replace hS := hS.tail
    replace hS := hS.tail
    subst hK98
    exact ⟨rest82.length, Nat.lt_succ_self _, rest82, k80 + 1, q89, q96, a90, c91, q89.length, cs94, bs97, s87, rfl, hd83, hle88, hq78, h92, rfl, hE.pick _ ⟨rfl, rfl, rfl, rfl, rfl, rfl, rfl, rfl, rfl, trivial⟩, hS⟩
   replace hq78 := iteF hc112 hq78
   refine W.skip ?_
   refine W.seq ?_
   refine W.gen fun K113 hK113 => ?_
   refine W.regionE (sel (fun w => St w s87 (pc b104 #[vi x81.Train, vi x81.Off] 267 :: pc b103 (GuideRide.cells x81).toArray 95 :: vecC 95 3 a90 c91 q89.length cs94 :: mapsV keyGuidePlace.f Value.bool bs97 q96 :: pc b53 (mcells 4 bs97).toArray 264 :: pc b52 (mcells 4 []).toArray 264 :: pc b51 #[.slice a0_0 x0.Day.Trains.length c0_0, .slice a0_1 x0.Day.Turns.length c0_1, vi x0.least] 91 :: R)) (fun w => St w s87 (pc b104 #[vi x81.Train, vi x81.Off] 267 :: pc b103 (GuideRide.cells x81).toArray 95 :: vecC 95 3 a90 c91 q89.length cs94 :: pc b52 (mcells 4 []).toArray 264 :: pc b51 #[.slice a0_0 x0.Day.Trains.length c0_0, .slice a0_1 x0.Day.Turns.length c0_1, vi x0.least] 91 :: R))) (fun b i => cond b ([0, 1, 2, 3].contains i) ([0, 1, 2, 3, 4].contains i)) mixed ?_
   replace hS := hS.drew
   refine tP (i := 0) hE rfl (by kernel_rfl) (Gives.p hE rfl) rfl hS ((hS.dropAt 3).dropAt 3) fun a hE => ?_
   obtain ⟨x114, hx115, hq78⟩ := bindS hq78
   obtain ⟨hi116, hlt117, hy118⟩ := mgx_some hx115
   obtain ⟨b119, hb120⟩ := hS.mapsAt 3 rfl hy118
   refine tP (i := 1) hE rfl (by kernel_rfl) (Gives.idxA hE ((((k56 : Nat) : Int)).toNat) rfl rfl ar264 hi116 hlt117 ⟨_, _, rfl⟩) rfl hS ((hS.dropAt 3).dropAt 3) fun a hE => ?_
   refine tT (i := 2) true rfl hE rfl (by kernel_rfl) (Gives.load1 hE rfl (fun w h => St.mapsSees h 4 rfl hb120) ty263) rfl hS ((hS.dropAt 3).dropAt 3) fun a hE => ?_
   have hT := tw_sel (A := fun w => St w s87 _) (B := fun w => St w s87 _) (w := _) (x := true) (y := true) (fun _ => hS) (fun _ => ((hS.dropAt 3).dropAt 3))
   have hF := hS; replace hS := hS
   refine Rg.take (i := 3) true rfl hE rfl (by kernel_rfl) (runs_plain rfl) (Gives.loadBA hE 0 rfl rfl ty267) rfl hT fun a hE => ?_
   replace hS := hF; clear hF hT
   refine Rg.one (i := 4) false true rfl (by kernel_rfl) (by kernel_rfl) (by kernel_rfl) ?_
   refine WL.mapsSetS keyGuidePlace hE hS 3 (k := (GuidePlace.mk x81.Train x81.Off)) (v := true) (.inl rfl) hb120 hy118 (runs_plain rfl) rfl rfl rfl rfl mp263 rfl ?_; clear hE hS a w; intro a w hE hS
   refine WL.nil ?_
   refine ⟨⟨fun h => absurd h (by decide), fun _ => ((hS.dropAt 3).dropAt 3)⟩, ?_⟩
   refine Rg.done (by kernel_rfl) ?_
   subst hK113
   refine W.region ?_
   refine vp hS hE rfl rfl fun a hE => ?_
   refine vP hS hE (Gives.loadBA hE 6 rfl rfl ty91) rfl fun a hE => ?_
   refine vP hS hE (Gives.loadBA hE 1 rfl rfl ty95) rfl fun a hE => ?_
   obtain ⟨q121, hq122, hq78⟩ := bindS hq78
   have hc_ := GuideNetbehind_ok hS h0_0 h0_1 hq122
   refine WL.fnq hE (hc_) (runs_plain rfl) bd47 rfl rfl rfl ?_
   clear hE hS hc_; rintro e w ⟨lb123, s125, rfl, hle126, h124, hS⟩; refine ⟨_, rfl, ?_⟩; clear a; intro a hE
   replace h68 := Sl.mono RGuideRide.mono hle126 h68
   replace h0_0 := Sl.mono RApiTrain.mono hle126 h0_0
   replace h0_1 := Sl.mono (RL.mono RI.mono) hle126 h0_1
   replace h92 := Ev.mono RGuideRide.mono hle126 h92
   obtain ⟨q127, hq128, hq78⟩ := bindS hq78
   replace hS := hS.front 2 rfl
   have hc_ := SlicesAppendSeqLguideRide_v1_ok hS h92 rfl h124 hq128
   refine WL.fnq hE (hc_) (runs_plain rfl) bd183 rfl rfl rfl ?_
   clear hE hS hc_; rintro e w ⟨a129, c130, n131, cs132, s135, rfl, hle136, h133, rfl, hS⟩; refine ⟨_, rfl, ?_⟩; clear a; intro a hE
   replace h68 := Sl.mono RGuideRide.mono hle136 h68
   replace h0_0 := Sl.mono RApiTrain.mono hle136 h0_0
   replace h0_1 := Sl.mono (RL.mono RI.mono) hle136 h0_1
   replace h124 := Iter.mono hle136 h124
   replace h92 := Ev.mono RGuideRide.mono hle136 h92
   refine vp hS hE rfl rfl fun a hE => WL.nil ?_
   refine W.region ?_
   refine vP hS hE (Gives.inc hE rfl (by have := h68.small; omega)) rfl fun a hE => ?_
   refine vp hS hE rfl rfl fun a hE => WL.nil ?_
   replace hS := hS.dropAt 1
   replace hS := hS.dropAt 1
   subst hK98
   exact ⟨rest82.length, Nat.lt_succ_self _, rest82, k80 + 1, q127, (q96.set ((((k56 : Nat) : Int)).toNat) (mput x114 (GuidePlace.mk x81.Train x81.Off) true)), a129, c130, q127.length, cs132, bs97, s135, rfl, hd83, (Sg.Le.trans (Sg.Le.trans hle88 hle126) hle136), hq78, h133, rfl, hE.pick _ ⟨rfl, rfl, rfl, rfl, rfl, rfl, rfl, rfl, rfl, trivial⟩, hS⟩
  clear hE hS a w; rintro a w ⟨q89, q96, a90, c91, n93, cs94, bs97, s87, hle88, rfl, h92, rfl, hE, hS⟩
  dsimp only at hq54
  replace h68 := Sl.mono RGuideRide.mono hle88 h68
  replace h0_0 := Sl.mono RApiTrain.mono hle88 h0_0
  replace h0_1 := Sl.mono (RL.mono RI.mono) hle88 h0_1
  refine W.region ?_
  refine v2 hS hE rfl rfl rfl rfl fun a hE => WL.nil ?_
  refine W.region ?_
  refine vP hS hE (Gives.inc hE rfl (by omega)) rfl fun a hE => ?_
  refine vp hS hE rfl rfl fun a hE => WL.nil ?_
  have hF := hS.fixD RGuideRide.mono 0 rfl h92 rfl; clear hS; obtain ⟨s137, hle138, hS, h139⟩ := hF
  replace h0_0 := Sl.mono RApiTrain.mono hle138 h0_0
  replace h0_1 := Sl.mono (RL.mono RI.mono) hle138 h0_1
  subst hK71
  exact ⟨rest58, Nat.lt_succ_self _, rest58, k56 + 1, q89, q96, a90, c91, bs97, s137, rfl, (by omega), (Sg.Le.trans (Sg.Le.trans hle64 hle88) hle138), hq54, h139, hE.pick _ ⟨rfl, rfl, rfl, rfl, rfl, trivial⟩, hS⟩
 clear hE hS a w; rintro a w ⟨q65, q69, a66, c67, bs70, s63, hle64, rfl, h68, hE, hS⟩
 dsimp only at hr
 replace h0_0 := Sl.mono RApiTrain.mono hle64 h0_0
 replace h0_1 := Sl.mono (RL.mono RI.mono) hle64 h0_1
 replace h1 := Sl.mono RGuideRide.mono hle64 h1
 refine W.seq (W.region ?_)
 obtain ⟨_, hx140, hr⟩ := bindS hr
 have hl141 : (bs70).length = 4 := (hS.mapsLen 0 rfl).trans (mall_some hx140)
 refine vP hS hE (Gives.loadBA hE 1 rfl rfl (by rw [mcells_len (by omega)]; exact ty264)) rfl fun a hE => ?_
 refine WL.storeMA hE hS 2 rfl (runs_plain rfl) rfl rfl ty264 (by decide) (by omega) rfl ?_; clear hE hS a w; intro a w hE hS
 refine WL.nil ?_
 refine W.ret ?_
 refine finG (fn := Tryz.f167) (rs := [.cell 4 264]) (vs := [_]) hE rfl ⟨⟨_, rfl, .inl ⟨_, rfl, hS.seesAt 2 rfl, (by rw [mcells_len (by omega)]; exact ty264)⟩⟩, trivial⟩ ?_
 obtain rfl := Option.some.inj hr
 replace hS := hS.dropAt 1
 replace hS := hS.dropAt 1
 replace hS := hS.dropAt 1
 exact ⟨bs70, s63, rfl, hle64, hl141, hS⟩
set_option maxHeartbeats 8000000 in
theorem GuidecomparePoints_ok  {w : World} {s : Sg} {R : List HP} {x0 : GuidePoint} {x1 : GuidePoint} (hS : St w s (R))  {r : Int} (hr : GuidecomparePoints x0 x1 = r) :
  Calls Tryz.prog 169 [.agg (GuidePoint.cells x0).toArray, .agg (GuidePoint.cells x1).toArray].toArray w (fun e w => e = .returned (vi r) ∧ St w s (R)) := by
 refine enter Tryz.func169 rfl rfl rfl fun a hE => ?_
 rw [GuidecomparePoints] at hr
 refine W.seq (W.region ?_)
 refine WL.box hE hS (runs_plain rfl) rfl rfl rfl ?_; clear hE hS a w; intro b51 a w hE hS
 refine WL.box hE hS (runs_plain rfl) rfl rfl rfl ?_; clear hE hS a w; intro b52 a w hE hS
 refine vp hS hE rfl rfl fun a hE => WL.nil ?_
 refine W.seq ?_
 refine W.gen fun K53 hK53 => ?_
 refine W.regionE (dup (fun w => St w s (pc b52 (GuidePoint.cells x1).toArray 216 :: pc b51 (GuidePoint.cells x0).toArray 216 :: R))) (fun b i => cond b ([0, 1, 2, 3, 4, 5, 6, 7, 8, 9, 10, 11, 12, 13, 14, 15, 16, 17].contains i) ([0, 1, 2, 3, 4, 5, 6, 7, 8, 9, 10, 11, 12, 13, 14, 15, 16, 17].contains i)) mixed ?_
 replace hS := hS.drew
 refine tP (i := 0) hE rfl (by kernel_rfl) (Gives.fld hE rfl fl216_0) rfl hS hS fun a hE => ?_
 refine tT (i := 1) true rfl hE rfl (by kernel_rfl) (Gives.loadB hE 1 rfl rfl rfl ty3) rfl hS hS fun a hE => ?_
 refine tP (i := 2) hE rfl (by kernel_rfl) (Gives.fld hE rfl fl216_0) rfl hS hS fun a hE => ?_
 refine tT (i := 3) true rfl hE rfl (by kernel_rfl) (Gives.loadB hE 0 rfl rfl rfl ty3) rfl hS hS fun a hE => ?_
 refine tP (i := 5) hE rfl (by kernel_rfl) (Gives.fld hE rfl fl216_1) rfl hS hS fun a hE => ?_
 refine tT (i := 6) true rfl hE rfl (by kernel_rfl) (Gives.loadB hE 1 rfl rfl rfl ty3) rfl hS hS fun a hE => ?_
 refine tP (i := 7) hE rfl (by kernel_rfl) (Gives.fld hE rfl fl216_1) rfl hS hS fun a hE => ?_
 refine tT (i := 8) true rfl hE rfl (by kernel_rfl) (Gives.loadB hE 0 rfl rfl rfl ty3) rfl hS hS fun a hE => ?_
 refine tP (i := 10) hE rfl (by kernel_rfl) (Gives.fld hE rfl fl216_2) rfl hS hS fun a hE => ?_
 refine tT (i := 11) true rfl hE rfl (by kernel_rfl) (Gives.loadB hE 1 rfl rfl rfl ty3) rfl hS hS fun a hE => ?_
 refine tP (i := 12) hE rfl (by kernel_rfl) (Gives.fld hE rfl fl216_2) rfl hS hS fun a hE => ?_
 refine tT (i := 13) true rfl hE rfl (by kernel_rfl) (Gives.loadB hE 0 rfl rfl rfl ty3) rfl hS hS fun a hE => ?_
 refine Rg.one (i := 4) true true rfl (by kernel_rfl) (by kernel_rfl) (by kernel_rfl) ?_
 refine WL.fnq hE (CmpCompareint_ok hS  rfl (r := CmpCompareint x0.Dep x1.Dep)) (runs_plain rfl) bd42 rfl rfl rfl ?_
 clear hE hS; rintro e w ⟨rfl, hS⟩; refine ⟨_, rfl, ?_⟩; clear a; intro a hE
 refine WL.nil ?_
 refine ⟨⟨fun _ => hS, fun _ => hS⟩, ?_⟩
 refine Rg.one (i := 9) true true rfl (by kernel_rfl) (by kernel_rfl) (by kernel_rfl) ?_
 refine WL.fnq hE (CmpCompareint_ok hS  rfl (r := CmpCompareint x0.Arr x1.Arr)) (runs_plain rfl) bd42 rfl rfl rfl ?_
 clear hE hS; rintro e w ⟨rfl, hS⟩; refine ⟨_, rfl, ?_⟩; clear a; intro a hE
 refine WL.nil ?_
 refine ⟨⟨fun _ => hS, fun _ => hS⟩, ?_⟩
 refine Rg.one (i := 14) true true rfl (by kernel_rfl) (by kernel_rfl) (by kernel_rfl) ?_
 refine WL.fnq hE (CmpCompareint_ok hS  rfl (r := CmpCompareint x0.Rides x1.Rides)) (runs_plain rfl) bd42 rfl rfl rfl ?_
 clear hE hS; rintro e w ⟨rfl, hS⟩; refine ⟨_, rfl, ?_⟩; clear a; intro a hE
 refine WL.nil ?_
 refine ⟨⟨fun _ => hS, fun _ => hS⟩, ?_⟩
 refine Rg.one (i := 15) true true rfl (by kernel_rfl) (by kernel_rfl) (by kernel_rfl) ?_
 refine WL.lit hE hS (e := 3) (es := 1) (vs := [(0, vi (CmpCompareint x0.Dep x1.Dep)), (1, vi (CmpCompareint x0.Arr x1.Arr)), (2, vi (CmpCompareint x0.Rides x1.Rides))]) (cs := [vi (CmpCompareint x0.Dep x1.Dep), vi (CmpCompareint x0.Arr x1.Arr), vi (CmpCompareint x0.Rides x1.Rides)]) (runs_plain rfl) rfl (by kernel_rfl) rfl ?_; clear hE hS a w; intro b54 a w hE hS
 replace hS := hS.ptVec (es := 1) (m := 3) rfl (by decide)
 have h56 : Ev 1 (RI .i64) s [vi (CmpCompareint x0.Dep x1.Dep), vi (CmpCompareint x0.Arr x1.Arr), vi (CmpCompareint x0.Rides x1.Rides)] [(CmpCompareint x0.Dep x1.Dep), (CmpCompareint x0.Arr x1.Arr), (CmpCompareint x0.Rides x1.Rides)] := (Ev.cons (c1 := [vi (CmpCompareint x0.Dep x1.Dep)]) rfl rfl (Ev.cons (c1 := [vi (CmpCompareint x0.Arr x1.Arr)]) rfl rfl (Ev.cons (c1 := [vi (CmpCompareint x0.Rides x1.Rides)]) rfl rfl (Ev.nil))))
 have hF := hS.fixD RI.mono 0 rfl h56 (rfl); clear hS; obtain ⟨s57, hle58, hS, h59⟩ := hF
 refine WL.nil ?_
 refine ⟨⟨fun _ => (St.down hle58 hS), fun _ => (St.down hle58 hS)⟩, ?_⟩
 refine Rg.one (i := 16) true true rfl (by kernel_rfl) (by kernel_rfl) (by kernel_rfl) ?_
 refine WL.fnq hE (CmpOrint_ok hS h59 rfl (r := CmpOrint [(CmpCompareint x0.Dep x1.Dep), (CmpCompareint x0.Arr x1.Arr), (CmpCompareint x0.Rides x1.Rides)])) (runs_plain rfl) bd41 rfl rfl rfl ?_
 clear hE hS; rintro e w ⟨rfl, hS⟩; refine ⟨_, rfl, ?_⟩; clear a; intro a hE
 refine WL.nil ?_
 refine ⟨⟨fun _ => (St.down hle58 hS), fun _ => (St.down hle58 hS)⟩, ?_⟩
 refine tP (i := 17) hE rfl (by kernel_rfl) (Gives.p hE rfl) rfl (St.down hle58 hS) (St.down hle58 hS) fun a hE => ?_
 refine Rg.done (by kernel_rfl) ?_
 subst hK53
 refine W.ret ?_
 refine finG (fn := Tryz.f169) (rs := [.tmp 4]) (vs := [_]) hE rfl ⟨rfl, trivial⟩ ?_
 subst hr
 replace hS := hS.tail
 replace hS := hS.tail
 exact ⟨rfl, (hS.down hle58)⟩
set_option maxHeartbeats 8000000 in
theorem GuideNetpoints_ok  {w : World} {s : Sg} {R : List HP} {x0 : GuideNet} {a0_0 : Option Addr} {c0_0 : Nat} {a0_1 : Option Addr} {c0_1 : Nat} {x1 : Int} {x2 : Int} (hS : St w s (R)) (h0_0 : Sl 4 RApiTrain s a0_0 c0_0 x0.Day.Trains) (h0_1 : Sl 1 (RL 1 (RI .i64)) s a0_1 c0_1 x0.Day.Turns) {r : (List GuidePoint)} (hr : GuideNetpoints x0 x1 x2 = some r) :
  Calls Tryz.prog 129 [.agg (List.toArray [.slice a0_0 x0.Day.Trains.length c0_0, .slice a0_1 x0.Day.Turns.length c0_1, vi x0.least]), vi x1, vi x2].toArray w (fun e w => ∃ (a0 : Option Addr) (c0 n0 : Nat) (cs0 : List Value) (t : Sg), e = .returned (.slice a0 n0 c0) ∧ s.Le t ∧ Ev 3 RGuidePoint t cs0 r ∧ r.length = n0 ∧ St w t (vecC 216 3 a0 c0 n0 cs0 :: R)) := by
 refine enter Tryz.func129 rfl rfl rfl fun a hE => ?_
 rw [GuideNetpoints] at hr
 replace hr := same_some hr; unfold GuideNetpoints.o at hr
 refine W.seq (W.region ?_)
 refine WL.box hE hS (runs_plain rfl) rfl rfl rfl ?_; clear hE hS a w; intro b51 a w hE hS
 refine vp hS hE rfl rfl fun a hE => WL.nil ?_
 refine W.seq (W.region ?_)
 refine WL.mkMap (fk := keyI.f) (fv := In.cell) hE hS (runs_plain rfl) rfl ?_; clear hE hS a w; intro b52 a w hE hS
 replace hS := hS.msNew (Te := 95) (es := 3)
 refine WL.alloc hE hS (runs_plain rfl) zr261 rfl ?_; clear hE hS a w; intro b53 a w hE hS
 refine WL.storeI hE hS 0 rfl [.map (some b52)] (runs_plain rfl) rfl rfl rfl ty261 rfl rfl rfl rfl ?_; clear hE hS a w; intro a w hE hS
 refine WL.nil ?_
 refine W.seq ?_
 refine W.seq (W.region (vP hS hE (Gives.loadBA hE 2 rfl rfl ty91) rfl fun a hE => ?_))
 refine vp hS hE rfl rfl fun a hE => ?_
 obtain ⟨q54, hq55, hr⟩ := AllO.bnd hr
 have hc_ := GuideNetrides_ok hS h0_0 h0_1 hq55
 refine WL.fnq hE (hc_) (runs_plain rfl) bd49 rfl rfl rfl ?_
 clear hE hS hc_; rintro e w ⟨lb56, s58, rfl, hle59, h57, hS⟩; refine ⟨_, rfl, ?_⟩; clear a; intro a hE
 replace h0_0 := Sl.mono RApiTrain.mono hle59 h0_0
 replace h0_1 := Sl.mono (RL.mono RI.mono) hle59 h0_1
 refine WL.nil ?_
 refine W.block ?_
 obtain ⟨q61, hq60, hr⟩ := AllO.bind hr
 refine W.cut (fun a w => ∃ (q73 : List (Int × (List GuideRide))), ∃ (l74 : List (Int × In)), ∃ (D67 : Nat) (s71 : Sg), s58.Le s71 ∧ q73 = q61 ∧ MEv 3 RGuideRide s71 l74 q73 ∧ Rep a 96 [(2, vi x2), (3, pp b51), (7, pp b53), (4294967295, vi (D67 : Nat))] ∧ St w s71 (pt D67 (.deferred (some [])) :: pc b53 #[.map (some b52)] 261 :: mapSC keyI.f 95 3 b52 l74 :: pc b51 #[.slice a0_0 x0.Day.Trains.length c0_0, .slice a0_1 x0.Day.Turns.length c0_1, vi x0.least] 91 :: R)) ?_ ?_
 ·refine W.rangeFunc (l := q54) (ps := [22]) [] rfl hE rfl hS rfl h57 bd100 (fun _ => rfl) rfl (fun pre64 s71 Q_ => ∃ (rest63 : List GuideRide), ∃ (q73 : List (Int × (List GuideRide))), ∃ (l74 : List (Int × In)), q54 = pre64 ++ rest63 ∧ GuideNetpoints.loop1 x0 rest63 q73 = some q61 ∧ s58.Le s71 ∧ MEv 3 RGuideRide s71 l74 q73 ∧ Q_ = pc b53 #[.map (some b52)] 261 :: mapSC keyI.f 95 3 b52 l74 :: pc b51 #[.slice a0_0 x0.Day.Trains.length c0_0, .slice a0_1 x0.Day.Turns.length c0_1, vi x0.least] 91 :: R) (fun _ _ _ => False) (fun _ _ _ h => (by obtain ⟨rest63, q73, l74, _, _, hle_, _⟩ := h; exact hle_)) ⟨q54, [], ([] : List (Int × In)), rfl, hq60, Sg.Le.refl _, (show MEv 3 RGuideRide s ([] : List (Int × In)) ([] : List (Int × List GuideRide)) from trivial), rfl⟩ (fun x62 (b76 : Nat) => [(3, pp b51), (7, pp b53), (8, pp b76)]) (fun x62 (b76 : Nat) => [pc b76 (GuideRide.cells x62).toArray 95]) ?_ ?_ ?_ ?_
  ·intro x62 a w t70 R L68 hE hS
   refine W.region ?_
   refine WL.alloc hE hS (runs_plain rfl) zr95 rfl ?_; clear hE hS a w; intro b76 a w hE hS
   refine WL.storeI hE hS 0 rfl (GuideRide.cells x62) (runs_plain rfl) rfl rfl rfl ty95 rfl rfl rfl rfl ?_; clear hE hS a w; intro a w hE hS
   refine WL.nil ?_
   exact ⟨b76, hE.pick _ ⟨rfl, rfl, rfl, trivial⟩, hS⟩
  ·intro pre64 x62 b76 s71 Q_ T_ L68 a w hpre_ hI_ hE hS
   obtain ⟨rest63, q73, l74, hl65, hq60, hle72, h75, rfl⟩ := hI_
   obtain ⟨rest63, rfl⟩ := pre_next hl65 hpre_
   rw [GuideNetpoints.loop1] at hq60
   replace hS : St w s71 (pc b76 (GuideRide.cells x62).toArray 95 :: pc b53 #[.map (some b52)] 261 :: mapSC keyI.f 95 3 b52 l74 :: pc b51 #[.slice a0_0 x0.Day.Trains.length c0_0, .slice a0_1 x0.Day.Turns.length c0_1, vi x0.least] 91 :: (R ++ T_)) := hS
   generalize hT77 : R ++ T_ = R at hS
   refine W.gen fun K78 hK78 => ?_
   replace h0_0 := Sl.mono RApiTrain.mono hle72 h0_0
   replace h0_1 := Sl.mono (RL.mono RI.mono) hle72 h0_1
   replace h57 := Iter.mono hle72 h57
   refine W.block ?_
   refine W.gen fun K79 hK79 => ?_
   refine W.regionE (sel (fun w => St w s71 (pc b76 (GuideRide.cells x62).toArray 95 :: pc b53 #[.map (some b52)] 261 :: mapSC keyI.f 95 3 b52 l74 :: pc b51 #[.slice a0_0 x0.Day.Trains.length c0_0, .slice a0_1 x0.Day.Turns.length c0_1, vi x0.least] 91 :: R)) (fun w => St w s71 (pc b76 (GuideRide.cells x62).toArray 95 :: pc b53 #[.map (some b52)] 261 :: pc b51 #[.slice a0_0 x0.Day.Trains.length c0_0, .slice a0_1 x0.Day.Turns.length c0_1, vi x0.least] 91 :: R))) (fun b i => cond b ([0, 1, 2, 3, 4, 5, 6, 7, 8, 9, 10, 11, 12].contains i) ([0, 1, 2, 3, 4, 5, 6, 7, 8, 9, 10, 11, 12, 13, 14].contains i)) mixed ?_
   replace hS := hS.drew
   have hT := tw_sel (A := fun w => St w s71 _) (B := fun w => St w s71 _) (w := _) (x := true) (y := true) (fun _ => hS) (fun _ => (hS.dropAt 2))
   have hF := hS; replace hS := (hS.dropAt 2)
   refine Rg.take (i := 0) false rfl hE rfl (by kernel_rfl) (runs_plain rfl) (Gives.loadB hE 1 rfl rfl rfl ty261) rfl hT fun a hE => ?_
   replace hS := hF; clear hF hT
   have hT := tw_sel (A := fun w => St w s71 _) (B := fun w => St w s71 _) (w := _) (x := true) (y := true) (fun _ => hS) (fun _ => (hS.dropAt 2))
   have hF := hS; replace hS := (hS.dropAt 2)
   refine Rg.take (i := 1) false rfl hE rfl (by kernel_rfl) (runs_plain rfl) (Gives.loadBA hE 2 rfl rfl ty91) rfl hT fun a hE => ?_
   replace hS := hF; clear hF hT
   have hT := tw_sel (A := fun w => St w s71 _) (B := fun w => St w s71 _) (w := _) (x := true) (y := true) (fun _ => hS) (fun _ => (hS.dropAt 2))
   have hF := hS; replace hS := (hS.dropAt 2)
   refine Rg.take (i := 2) false rfl hE rfl (by kernel_rfl) (runs_plain rfl) (Gives.loadBA hE 0 rfl rfl ty95) rfl hT fun a hE => ?_
   replace hS := hF; clear hF hT
   have hT := tw_sel (A := fun w => St w s71 _) (B := fun w => St w s71 _) (w := _) (x := true) (y := true) (fun _ => hS) (fun _ => (hS.dropAt 2))
   have hF := hS; replace hS := (hS.dropAt 2)
   refine Rg.take (i := 5) false rfl hE rfl (by kernel_rfl) (runs_plain rfl) (Gives.loadB hE 1 rfl rfl rfl ty261) rfl hT fun a hE => ?_
   replace hS := hF; clear hF hT
   have hT := tw_sel (A := fun w => St w s71 _) (B := fun w => St w s71 _) (w := _) (x := true) (y := true) (fun _ => hS) (fun _ => (hS.dropAt 2))
   have hF := hS; replace hS := (hS.dropAt 2)
   refine Rg.take (i := 6) false rfl hE rfl (by kernel_rfl) (runs_plain rfl) (Gives.loadBA hE 2 rfl rfl ty91) rfl hT fun a hE => ?_
   replace hS := hF; clear hF hT
   have hT := tw_sel (A := fun w => St w s71 _) (B := fun w => St w s71 _) (w := _) (x := true) (y := true) (fun _ => hS) (fun _ => (hS.dropAt 2))
   have hF := hS; replace hS := (hS.dropAt 2)
   refine Rg.take (i := 7) false rfl hE rfl (by kernel_rfl) (runs_plain rfl) (Gives.loadBA hE 0 rfl rfl ty95) rfl hT fun a hE => ?_
   replace hS := hF; clear hF hT
   have hT := tw_sel (A := fun w => St w s71 _) (B := fun w => St w s71 _) (w := _) (x := true) (y := true) (fun _ => hS) (fun _ => (hS.dropAt 2))
   have hF := hS; replace hS := (hS.dropAt 2)
   refine Rg.take (i := 11) false rfl hE rfl (by kernel_rfl) (runs_plain rfl) (Gives.loadBA hE 0 rfl rfl ty95) rfl hT fun a hE => ?_
   replace hS := hF; clear hF hT
   obtain ⟨q80, hq81, hq60⟩ := bindS hq60
   obtain ⟨q86, hq87, hq60⟩ := bindS hq60
   obtain rfl := Option.some.inj (hq81.symm.trans hq87)
   obtain ⟨x92, hx93, hq60⟩ := bndS hq60
   obtain ⟨x101, hx102, hq60⟩ := bindS hq60
   suffices key : ∀ s90 a103 c104 cs105 (a : Act) (w : World), s71.Le s90 → MEv 3 RGuideRide s90 (mput l74 q80.Dep ⟨a103, c104, x101.length, cs105⟩) (mput q73 q80.Dep x101) → Sl 4 RApiTrain s90 a0_0 c0_0 x0.Day.Trains → Sl 1 (RL 1 (RI .i64)) s90 a0_1 c0_1 x0.Day.Turns → Rep a 96 [] → St w s90 (pc b76 (GuideRide.cells x62).toArray 95 :: pc b53 #[.map (some b52)] 261 :: mapSC keyI.f 95 3 b52 (mput l74 q80.Dep ⟨a103, c104, x101.length, cs105⟩) :: pc b51 #[.slice a0_0 x0.Day.Trains.length c0_0, .slice a0_1 x0.Day.Turns.length c0_1, vi x0.least] 91 :: R) → K79.nor a w by
    refine Rg.many 3 [12] (by kernel_rfl) ⟨?_, ?_, trivial⟩
    ·refine Br.mk (i := 3) true true rfl (by kernel_rfl) (by kernel_rfl) ?_
     have hc_ := GuideNeton_ok hS h0_0 h0_1 hq81
     refine WL.fnq hE (hc_) (runs_plain rfl) bd44 rfl rfl rfl ?_
     clear hE hS hc_; rintro e w ⟨cs82, s84, rfl, hle85, h83, hS⟩; refine ⟨_, rfl, ?_⟩; clear a; intro a hE
     replace h0_0 := Sl.mono RApiTrain.mono hle85 h0_0
     replace h0_1 := Sl.mono (RL.mono RI.mono) hle85 h0_1
     replace h75 := MEv.mono RGuideRide.mono hle85 h75
     subst h83
     refine WL.nil ?_
     refine ⟨⟨fun _ => (St.down hle85 hS), fun _ => (St.down hle85 (hS.dropAt 2))⟩, ?_⟩
     refine tP (i := 4) hE rfl (by kernel_rfl) (Gives.field1 hE rfl fd99_3 ty3 rfl) rfl (St.down hle85 hS) (St.down hle85 (hS.dropAt 2)) fun a hE => ?_
     refine Rg.many 8 [12] (by kernel_rfl) ⟨?_, ?_, trivial⟩
     ·refine Br.mk (i := 8) true true rfl (by kernel_rfl) (by kernel_rfl) ?_
      have hc_ := GuideNeton_ok hS h0_0 h0_1 hq87
      refine WL.fnq hE (hc_) (runs_plain rfl) bd44 rfl rfl rfl ?_
      clear hE hS hc_; rintro e w ⟨cs88, s90, rfl, hle91, h89, hS⟩; refine ⟨_, rfl, ?_⟩; clear a; intro a hE
      replace h0_0 := Sl.mono RApiTrain.mono hle91 h0_0
      replace h0_1 := Sl.mono (RL.mono RI.mono) hle91 h0_1
      replace h75 := MEv.mono RGuideRide.mono hle91 h75
      subst h89
      refine WL.nil ?_
      refine ⟨⟨fun _ => (St.down (Sg.Le.trans hle85 hle91) hS), fun _ => (St.down (Sg.Le.trans hle85 hle91) (hS.dropAt 2))⟩, ?_⟩
      refine tP (i := 9) hE rfl (by kernel_rfl) (Gives.field1 hE rfl fd99_3 ty3 rfl) rfl (St.down (Sg.Le.trans hle85 hle91) hS) (St.down (Sg.Le.trans hle85 hle91) (hS.dropAt 2)) fun a hE => ?_
      have hT := tw_sel (A := fun w => St w s71 _) (B := fun w => St w s71 _) (w := _) (x := true) (y := true) (fun _ => (St.down (Sg.Le.trans hle85 hle91) hS)) (fun _ => (St.down (Sg.Le.trans hle85 hle91) (hS.dropAt 2)))
      have hF := hS; replace hS := (St.down (Sg.Le.trans hle85 hle91) hS)
      obtain ⟨a94, c95, cs96, e97, hev98⟩ := MEv.at h75 q80.Dep
      rw [hx93] at e97 hev98
      refine Rg.take (i := 10) true rfl hE rfl (by kernel_rfl) (runs_plain rfl) (Gives.msGet keyI hE 2 (k := q80.Dep) rfl rfl rfl mp261 zs27 e97) rfl hT fun a hE => ?_
      replace hS := hF; clear hF hT
      refine Rg.one (i := 12) true true rfl (by kernel_rfl) (by kernel_rfl) (by kernel_rfl) ?_
      refine WL.lit hE hS (e := 95) (es := 3) (vs := [(0, .agg (GuideRide.cells x62).toArray)]) (cs := [vi x62.Train, vi x62.On, vi x62.Off]) (runs_plain rfl) rfl (by kernel_rfl) rfl ?_; clear hE hS a w; intro b99 a w hE hS
      refine WL.nil ?_
      refine ⟨⟨fun _ => (St.down (Sg.Le.trans hle85 hle91) (hS.tail)), fun _ => (St.down (Sg.Le.trans hle85 hle91) ((hS.tail).dropAt 2))⟩, ?_⟩
      refine Rg.one (i := 13) false true rfl (by kernel_rfl) (by kernel_rfl) (by kernel_rfl) ?_
      replace hS := hS.msOpen 3 rfl e97
      replace hS : St w s90 (vecC 95 3 a94 c95 x92.length cs96 :: pc b99 #[vi x62.Train, vi x62.On, vi x62.Off] 95 :: pc b76 (GuideRide.cells x62).toArray 95 :: pc b53 #[.map (some b52)] 261 :: mapSH keyI.f 95 3 b52 l74 q80.Dep :: pc b51 #[.slice a0_0 x0.Day.Trains.length c0_0, .slice a0_1 x0.Day.Turns.length c0_1, vi x0.least] 91 :: R) := hS
      replace hS := hS.front 1 rfl
      refine WL.appD hE hS 0 (m := 1) (runs_plain rfl) rfl rfl rfl ap27 rfl hev98 (rfl) (xs := [x62]) (Ev.cons (c1 := [vi x62.Train, vi x62.On, vi x62.Off]) rfl rfl (Ev.nil)) rfl rfl hx102 rfl ?_; clear hE hS a w; intro a103 c104 cs105 a w h106 hE hS
      refine WL.nil ?_
      refine ⟨⟨fun h => absurd h (by decide), fun _ => (St.down (Sg.Le.trans hle85 hle91) ((hS.tail).dropAt 2))⟩, ?_⟩
      refine Rg.one (i := 14) false true rfl (by kernel_rfl) (by kernel_rfl) (by kernel_rfl) ?_
      refine WL.msSet keyI hE hS 2 (k := q80.Dep) (.inl rfl) (runs_plain rfl) rfl rfl rfl rfl mp261 rfl ?_; clear hE hS a w; intro a w hE hS
      refine WL.nil ?_
      refine ⟨⟨fun h => absurd h (by decide), fun _ => (St.down (Sg.Le.trans hle85 hle91) (hS.dropAt 2))⟩, ?_⟩
      refine Rg.done (by kernel_rfl) ?_
      exact key _ _ _ _ _ _ (Sg.Le.trans hle85 hle91) (MEv.put h106 (rfl) h75 q80.Dep) h0_0 h0_1 (hE.pick _ trivial) hS
     refine Br.mk (i := 12) true true rfl (by kernel_rfl) (by kernel_rfl) ?_
     refine WL.lit hE hS (e := 95) (es := 3) (vs := [(0, .agg (GuideRide.cells x62).toArray)]) (cs := [vi x62.Train, vi x62.On, vi x62.Off]) (runs_plain rfl) rfl (by kernel_rfl) rfl ?_; clear hE hS a w; intro b99 a w hE hS
     refine WL.nil ?_
     refine ⟨⟨fun _ => (St.down hle85 (hS.tail)), fun _ => (St.down hle85 ((hS.tail).dropAt 2))⟩, ?_⟩
     refine Rg.one (i := 8) true true rfl (by kernel_rfl) (by kernel_rfl) (by kernel_rfl) ?_
     have hc_ := GuideNeton_ok hS h0_0 h0_1 hq87
     refine WL.fnq hE (hc_) (runs_plain rfl) bd44 rfl rfl rfl ?_
     clear hE hS hc_; rintro e w ⟨cs88, s90, rfl, hle91, h89, hS⟩; refine ⟨_, rfl, ?_⟩; clear a; intro a hE
     replace h0_0 := Sl.mono RApiTrain.mono hle91 h0_0
     replace h0_1 := Sl.mono (RL.mono RI.mono) hle91 h0_1
     replace h75 := MEv.mono RGuideRide.mono hle91 h75
     subst h89
     refine WL.nil ?_
     refine ⟨⟨fun _ => (St.down (Sg.Le.trans hle85 hle91) (hS.tail)), fun _ => (St.down (Sg.Le.trans hle85 hle91) ((hS.tail).dropAt 2))⟩, ?_⟩
     refine tP (i := 9) hE rfl (by kernel_rfl) (Gives.field1 hE rfl fd99_3 ty3 rfl) rfl (St.down (Sg.Le.trans hle85 hle91) (hS.tail)) (St.down (Sg.Le.trans hle85 hle91) ((hS.tail).dropAt 2)) fun a hE => ?_
     have hT := tw_sel (A := fun w => St w s71 _) (B := fun w => St w s71 _) (w := _) (x := true) (y := true) (fun _ => (St.down (Sg.Le.trans hle85 hle91) (hS.tail))) (fun _ => (St.down (Sg.Le.trans hle85 hle91) ((hS.tail).dropAt 2)))
     have hF := hS; replace hS := (St.down (Sg.Le.trans hle85 hle91) (hS.tail))
     obtain ⟨a94, c95, cs96, e97, hev98⟩ := MEv.at h75 q80.Dep
     rw [hx93] at e97 hev98
     refine Rg.take (i := 10) true rfl hE rfl (by kernel_rfl) (runs_plain rfl) (Gives.msGet keyI hE 2 (k := q80.Dep) rfl rfl rfl mp261 zs27 e97) rfl hT fun a hE => ?_
     replace hS := hF; clear hF hT
     refine Rg.one (i := 13) false true rfl (by kernel_rfl) (by kernel_rfl) (by kernel_rfl) ?_
     replace hS := hS.msOpen 3 rfl e97
     replace hS : St w s90 (vecC 95 3 a94 c95 x92.length cs96 :: pc b99 #[vi x62.Train, vi x62.On, vi x62.Off] 95 :: pc b76 (GuideRide.cells x62).toArray 95 :: pc b53 #[.map (some b52)] 261 :: mapSH keyI.f 95 3 b52 l74 q80.Dep :: pc b51 #[.slice a0_0 x0.Day.Trains.length c0_0, .slice a0_1 x0.Day.Turns.length c0_1, vi x0.least] 91 :: R) := hS
     replace hS := hS.front 1 rfl
     refine WL.appD hE hS 0 (m := 1) (runs_plain rfl) rfl rfl rfl ap27 rfl hev98 (rfl) (xs := [x62]) (Ev.cons (c1 := [vi x62.Train, vi x62.On, vi x62.Off]) rfl rfl (Ev.nil)) rfl rfl hx102 rfl ?_; clear hE hS a w; intro a103 c104 cs105 a w h106 hE hS
     refine WL.nil ?_
     refine ⟨⟨fun h => absurd h (by decide), fun _ => (St.down (Sg.Le.trans hle85 hle91) ((hS.tail).dropAt 2))⟩, ?_⟩
     refine Rg.one (i := 14) false true rfl (by kernel_rfl) (by kernel_rfl) (by kernel_rfl) ?_
     refine WL.msSet keyI hE hS 2 (k := q80.Dep) (.inl rfl) (runs_plain rfl) rfl rfl rfl rfl mp261 rfl ?_; clear hE hS a w; intro a w hE hS
     refine WL.nil ?_
     refine ⟨⟨fun h => absurd h (by decide), fun _ => (St.down (Sg.Le.trans hle85 hle91) (hS.dropAt 2))⟩, ?_⟩
     refine Rg.done (by kernel_rfl) ?_
     exact key _ _ _ _ _ _ (Sg.Le.trans hle85 hle91) (MEv.put h106 (rfl) h75 q80.Dep) h0_0 h0_1 (hE.pick _ trivial) hS
    refine Br.mk (i := 12) true true rfl (by kernel_rfl) (by kernel_rfl) ?_
    refine WL.lit hE hS (e := 95) (es := 3) (vs := [(0, .agg (GuideRide.cells x62).toArray)]) (cs := [vi x62.Train, vi x62.On, vi x62.Off]) (runs_plain rfl) rfl (by kernel_rfl) rfl ?_; clear hE hS a w; intro b99 a w hE hS
    refine WL.nil ?_
    refine ⟨⟨fun _ => (hS.tail), fun _ => ((hS.tail).dropAt 2)⟩, ?_⟩
    refine Rg.one (i := 3) true true rfl (by kernel_rfl) (by kernel_rfl) (by kernel_rfl) ?_
    have hc_ := GuideNeton_ok hS h0_0 h0_1 hq81
    refine WL.fnq hE (hc_) (runs_plain rfl) bd44 rfl rfl rfl ?_
    clear hE hS hc_; rintro e w ⟨cs82, s84, rfl, hle85, h83, hS⟩; refine ⟨_, rfl, ?_⟩; clear a; intro a hE
    replace h0_0 := Sl.mono RApiTrain.mono hle85 h0_0
    replace h0_1 := Sl.mono (RL.mono RI.mono) hle85 h0_1
    replace h75 := MEv.mono RGuideRide.mono hle85 h75
    subst h83
    refine WL.nil ?_
    refine ⟨⟨fun _ => (St.down hle85 (hS.tail)), fun _ => (St.down hle85 ((hS.tail).dropAt 2))⟩, ?_⟩
    refine tP (i := 4) hE rfl (by kernel_rfl) (Gives.field1 hE rfl fd99_3 ty3 rfl) rfl (St.down hle85 (hS.tail)) (St.down hle85 ((hS.tail).dropAt 2)) fun a hE => ?_
    refine Rg.one (i := 8) true true rfl (by kernel_rfl) (by kernel_rfl) (by kernel_rfl) ?_
    have hc_ := GuideNeton_ok hS h0_0 h0_1 hq87
    refine WL.fnq hE (hc_) (runs_plain rfl) bd44 rfl rfl rfl ?_
    clear hE hS hc_; rintro e w ⟨cs88, s90, rfl, hle91, h89, hS⟩; refine ⟨_, rfl, ?_⟩; clear a; intro a hE
    replace h0_0 := Sl.mono RApiTrain.mono hle91 h0_0
    replace h0_1 := Sl.mono (RL.mono RI.mono) hle91 h0_1
    replace h75 := MEv.mono RGuideRide.mono hle91 h75
    subst h89
    refine WL.nil ?_
    refine ⟨⟨fun _ => (St.down (Sg.Le.trans hle85 hle91) (hS.tail)), fun _ => (St.down (Sg.Le.trans hle85 hle91) ((hS.tail).dropAt 2))⟩, ?_⟩
    refine tP (i := 9) hE rfl (by kernel_rfl) (Gives.field1 hE rfl fd99_3 ty3 rfl) rfl (St.down (Sg.Le.trans hle85 hle91) (hS.tail)) (St.down (Sg.Le.trans hle85 hle91) ((hS.tail).dropAt 2)) fun a hE => ?_
    have hT := tw_sel (A := fun w => St w s71 _) (B := fun w => St w s71 _) (w := _) (x := true) (y := true) (fun _ => (St.down (Sg.Le.trans hle85 hle91) (hS.tail))) (fun _ => (St.down (Sg.Le.trans hle85 hle91) ((hS.tail).dropAt 2)))
    have hF := hS; replace hS := (St.down (Sg.Le.trans hle85 hle91) (hS.tail))
    obtain ⟨a94, c95, cs96, e97, hev98⟩ := MEv.at h75 q80.Dep
    rw [hx93] at e97 hev98
    refine Rg.take (i := 10) true rfl hE rfl (by kernel_rfl) (runs_plain rfl) (Gives.msGet keyI hE 2 (k := q80.Dep) rfl rfl rfl mp261 zs27 e97) rfl hT fun a hE => ?_
    replace hS := hF; clear hF hT
    refine Rg.one (i := 13) false true rfl (by kernel_rfl) (by kernel_rfl) (by kernel_rfl) ?_
    replace hS := hS.msOpen 3 rfl e97
    replace hS : St w s90 (vecC 95 3 a94 c95 x92.length cs96 :: pc b99 #[vi x62.Train, vi x62.On, vi x62.Off] 95 :: pc b76 (GuideRide.cells x62).toArray 95 :: pc b53 #[.map (some b52)] 261 :: mapSH keyI.f 95 3 b52 l74 q80.Dep :: pc b51 #[.slice a0_0 x0.Day.Trains.length c0_0, .slice a0_1 x0.Day.Turns.length c0_1, vi x0.least] 91 :: R) := hS
    replace hS := hS.front 1 rfl
    refine WL.appD hE hS 0 (m := 1) (runs_plain rfl) rfl rfl rfl ap27 rfl hev98 (rfl) (xs := [x62]) (Ev.cons (c1 := [vi x62.Train, vi x62.On, vi x62.Off]) rfl rfl (Ev.nil)) rfl rfl hx102 rfl ?_; clear hE hS a w; intro a103 c104 cs105 a w h106 hE hS
    refine WL.nil ?_
    refine ⟨⟨fun h => absurd h (by decide), fun _ => (St.down (Sg.Le.trans hle85 hle91) ((hS.tail).dropAt 2))⟩, ?_⟩
    refine Rg.one (i := 14) false true rfl (by kernel_rfl) (by kernel_rfl) (by kernel_rfl) ?_
    refine WL.msSet keyI hE hS 2 (k := q80.Dep) (.inl rfl) (runs_plain rfl) rfl rfl rfl rfl mp261 rfl ?_; clear hE hS a w; intro a w hE hS
    refine WL.nil ?_
    refine ⟨⟨fun h => absurd h (by decide), fun _ => (St.down (Sg.Le.trans hle85 hle91) (hS.dropAt 2))⟩, ?_⟩
    refine Rg.done (by kernel_rfl) ?_
    exact key _ _ _ _ _ _ (Sg.Le.trans hle85 hle91) (MEv.put h106 (rfl) h75 q80.Dep) h0_0 h0_1 (hE.pick _ trivial) hS
   clear hE hS a w; intro s90 a103 c104 cs105 a w hle108 h107 h0_0 h0_1 hE hS
   subst hK79
   replace hS := hS.tail
   subst hK78
   subst hT77
   exact ⟨s90, _, ⟨rest63, (mput q73 q80.Dep x101), (mput l74 q80.Dep ⟨a103, c104, x101.length, cs105⟩), hl65.trans (by simp), hq60, (Sg.Le.trans hle72 hle108), h107, rfl⟩, hS⟩
  ·intro s71 Q_ D67 a w hI_ hE hS
   obtain ⟨rest63, q73, l74, hl65, hq60, hle72, h75, rfl⟩ := hI_
   obtain rfl := pre_end hl65
   rw [GuideNetpoints.loop1] at hq60
   exact ⟨q73, _, D67, s71, hle72, Option.some.inj hq60, h75, hE.pick _ ⟨rfl, rfl, rfl, rfl, trivial⟩, hS⟩
  exact fun _ _ _ _ _ _ _ h => h.elim
 clear hE hS a w; rintro a w ⟨q73, l74, D67, s71, hle72, rfl, h75, hE, hS⟩
 replace h0_0 := Sl.mono RApiTrain.mono hle72 h0_0
 replace h0_1 := Sl.mono (RL.mono RI.mono) hle72 h0_1
 replace h57 := Iter.mono hle72 h57
 refine W.seq (W.region ?_)
 refine WL.mkMap (fk := keyGuidePoint.f) (fv := Value.bool) hE hS (runs_plain rfl) rfl ?_; clear hE hS a w; intro b109 a w hE hS
 refine vp hS hE rfl rfl fun a hE => WL.nil ?_
 refine W.seq (W.region ?_)
 replace hS := hS.vecNil 216 3
 refine vp hS hE rfl rfl fun a hE => WL.nil ?_
 refine W.seq ?_
 refine W.seq (W.region (vP hS hE (Gives.loadB hE 3 rfl rfl rfl ty261) rfl fun a hE => ?_))
 have hF := hS.msFix RGuideRide.mono 4 rfl h75; clear hS; obtain ⟨s113, hle114, hS, h115⟩ := hF
 replace h0_0 := Sl.mono RApiTrain.mono hle114 h0_0
 replace h0_1 := Sl.mono (RL.mono RI.mono) hle114 h0_1
 refine WL.rangeI hE hS 4 rfl rfl um261 (runs_plain rfl) rfl ?_; clear hE hS a w; intro r112 a w hE hS
 refine WL.nil ?_
 obtain ⟨Q118, hO116, hr⟩ := AllO.bindP hr
 refine W.cut (fun a w => ∃ (q132 : List GuidePoint), ∃ (q139 : List (GuidePoint × Bool)), ∃ (a133 : Option Addr), ∃ (c134 : Nat), ∃ (n136 : Nat), ∃ (cs137 : List Value), ∃ (s120 : Sg), s113.Le s120 ∧ Q118 (q132, q139) ∧ Ev 3 RGuidePoint s120 cs137 q132 ∧ q132.length = n136 ∧ Rep a 96 [(10, .slice a133 n136 c134), (4294967295, vi (D67 : Nat))] ∧ St w s120 (vecC 216 3 a133 c134 n136 cs137 :: mapC keyGuidePoint.f Value.bool b109 q139 :: pt D67 (.deferred (some [])) :: pc b53 #[.map (some b52)] 261 :: mapC keyI.f In.cell b52 l74 :: pc b51 #[.slice a0_0 x0.Day.Trains.length c0_0, .slice a0_1 x0.Day.Turns.length c0_1, vi x0.least] 91 :: R)) ?_ ?_
 ·unfold GuideNetpoints.loop2 at hO116
  refine W.block ?_
  refine W.loop (fun m a w => ∃ (rest122 : List (Int × (List GuideRide))) (ix123 : List Nat) (nn124 : Nat), ∃ (q132 : List GuidePoint), ∃ (q139 : List (GuidePoint × Bool)), ∃ (a133 : Option Addr), ∃ (c134 : Nat), ∃ (n136 : Nat), ∃ (cs137 : List Value), ∃ (s120 : Sg), rest122.length = m ∧ rest122.Perm (remI ix123 q73) ∧ rest122.length ≤ nn124 ∧ s113.Le s120 ∧ AllO (rngO (fun x st => GuideNetpoints.loop2.step x0 x2 x.1 x.2 st.1 st.2) nn124 rest122 (q132, q139)) Q118 ∧ Ev 3 RGuidePoint s120 cs137 q132 ∧ q132.length = n136 ∧ Rep a 96 [(2, vi x2), (3, pp b51), (9, .map (some b109)), (10, .slice a133 n136 c134), (39, pp r112), (4294967295, vi (D67 : Nat))] ∧ St w s120 (vecC 216 3 a133 c134 n136 cs137 :: mapC keyGuidePoint.f Value.bool b109 q139 :: pt D67 (.deferred (some [])) :: pc b53 #[.map (some b52)] 261 :: iterI keyI.f In.cell b52 r112 l74 ix123 :: pc b51 #[.slice a0_0 x0.Day.Trains.length c0_0, .slice a0_1 x0.Day.Turns.length c0_1, vi x0.least] 91 :: R)) (m := (q73).length) ⟨q73, [], (q73).length, [], [], none, 0, 0, [], s113, rfl, by rw [remI_nil], Nat.le_refl _, (Sg.Le.refl _), hO116, (Ev.nil), (rfl), hE.pick _ ⟨rfl, rfl, rfl, rfl, rfl, rfl, trivial⟩, hS⟩ ?_
  clear hE hS a w hO116; rintro m119 a w ⟨rest122, ix123, nn124, q132, q139, a133, c134, n136, cs137, s120, rfl, hp125, hn126, hle121, hO116, h135, rfl, hE, hS⟩
  refine W.gen fun K140 hK140 => ?_
  replace h115 := MSl.mono RGuideRide.mono hle121 h115
  replace h0_0 := Sl.mono RApiTrain.mono hle121 h0_0
  replace h0_1 := Sl.mono (RL.mono RI.mono) hle121 h0_1
  refine W.seq (W.region ?_)
  refine WL.nextI hE hS 4 rfl rfl (runs_plain rfl) rfl ?_ ?_
  ·intro hall149; clear hE a; intro a hE
   replace hall149 := fun j hj => hall149 j (by rw [MSl.len h115]; exact hj)
   have hz151 := hp125; rw [remI_end hall149] at hz151; obtain rfl := hz151.eq_nil; replace hO116 := rngO_end hO116
   refine vp hS hE rfl rfl fun a hE => WL.nil ?_
   refine W.seq ?_
   refine W.condF hE rfl rfl ?_
   subst hK140
   refine W.exit rfl ?_
   replace hS := hS.iDone 4 rfl
   exact ⟨q132, q139, a133, c134, q132.length, cs137, s120, hle121, hO116, h135, rfl, hE.pick _ ⟨rfl, rfl, trivial⟩, hS⟩
  clear hE hS a w; intro j129 x128 a w hp130 hn131 hE hS
  obtain ⟨k127, a152, c153, n154, cs155⟩ := x128
  obtain ⟨x128, hy150, h156, hn157⟩ := MSl.at h115 hp130; dsimp only at hy150 h156 hn157; subst hn157
  obtain ⟨nn144, rest145, Q142, hp146, hn147, hlt148, hO141, hQ143⟩ := rngO_step hn126 (hp125.trans (remI_next hy150 hn131)) hO116
  (try dsimp only at hO141); unfold GuideNetpoints.loop2.step at hO141
  refine vp hS hE rfl rfl fun a hE => WL.nil ?_
  refine W.seq ?_
  refine W.condT hE rfl rfl ?_
  refine W.skip ?_
  refine W.block ?_
  refine W.seq (W.region (vP hS hE (show Gives _ _ _ _ (Value.tuple #[vi k127, .slice a152 x128.length c153]) from Gives.entryI (fk := keyI.f) (fv := In.cell) hE 4 (p := (k127, (⟨a152, c153, x128.length, cs155⟩ : In))) rfl hp130 rfl) rfl fun a hE => ?_))
  refine v2 hS hE rfl rfl rfl rfl fun a hE => ?_
  refine v2 hS hE rfl rfl rfl rfl fun a hE => WL.nil ?_
  refine W.seq (W.region (vP hS hE (Gives.loadBA hE 5 rfl rfl ty91) rfl fun a hE => ?_))
  refine vp hS hE rfl rfl fun a hE => ?_
  obtain ⟨q159, hq160, hO141⟩ := AllO.bind hO141
  have hc_ := GuideNetends_ok hS h0_0 h0_1 h156 hq160
  refine WL.fnq hE (hc_) (runs_plain rfl) bd167 rfl rfl rfl ?_
  clear hE hS hc_; rintro e w ⟨bs161, s164, rfl, hle165, h162, hS⟩; refine ⟨_, rfl, ?_⟩; clear a; intro a hE
  replace h156 := Sl.mono RGuideRide.mono hle165 h156
  replace h0_0 := Sl.mono RApiTrain.mono hle165 h0_0
  replace h0_1 := Sl.mono (RL.mono RI.mono) hle165 h0_1
  replace h135 := Ev.mono RGuidePoint.mono hle165 h135
  replace h115 := MSl.mono RGuideRide.mono hle165 h115
  refine vp hS hE rfl rfl fun a hE => WL.nil ?_
  obtain ⟨Q168, hO166, hO141⟩ := AllO.bindP hO141
  refine W.cut (fun a w => ∃ (q182 : List GuidePoint), ∃ (q189 : List (GuidePoint × Bool)), ∃ (a183 : Option Addr), ∃ (c184 : Nat), ∃ (n186 : Nat), ∃ (cs187 : List Value), Q168 (q182, q189) ∧ Ev 3 RGuidePoint s164 cs187 q182 ∧ q182.length = n186 ∧ Rep a 96 [(2, vi x2), (3, pp b51), (9, .map (some b109)), (10, .slice a183 n186 c184), (39, pp r112), (4294967295, vi (D67 : Nat))] ∧ St w s164 (mapsV keyGuidePlace.f Value.bool bs161 q159 :: vecC 216 3 a183 c184 n186 cs187 :: mapC keyGuidePoint.f Value.bool b109 q189 :: pt D67 (.deferred (some [])) :: pc b53 #[.map (some b52)] 261 :: iterI keyI.f In.cell b52 r112 l74 (ix123 ++ [j129]) :: pc b51 #[.slice a0_0 x0.Day.Trains.length c0_0, .slice a0_1 x0.Day.Turns.length c0_1, vi x0.least] 91 :: R)) ?_ ?_
  ·unfold GuideNetpoints.loop3 at hO166
   refine W.block ?_
   refine W.loop (fun m a w => ∃ (rest172 : Nat) (k177 : Nat), ∃ (q182 : List GuidePoint), ∃ (q189 : List (GuidePoint × Bool)), ∃ (a183 : Option Addr), ∃ (c184 : Nat), ∃ (n186 : Nat), ∃ (cs187 : List Value), rest172 = m ∧ k177 + rest172 = 4 ∧ AllO (cntO (fun x st => GuideNetpoints.loop3.step x0 x2 k127 q159 x st.1 st.2) rest172 k177 (q182, q189)) Q168 ∧ Ev 3 RGuidePoint s164 cs187 q182 ∧ q182.length = n186 ∧ Rep a 96 [(2, vi x2), (3, pp b51), (9, .map (some b109)), (10, .slice a183 n186 c184), (11, vi k127), (39, pp r112), (47, .agg (mcells 4 bs161).toArray), (48, vi ((k177 : Nat) : Int)), (4294967295, vi (D67 : Nat))] ∧ St w s164 (mapsV keyGuidePlace.f Value.bool bs161 q159 :: vecC 216 3 a183 c184 n186 cs187 :: mapC keyGuidePoint.f Value.bool b109 q189 :: pt D67 (.deferred (some [])) :: pc b53 #[.map (some b52)] 261 :: iterI keyI.f In.cell b52 r112 l74 (ix123 ++ [j129]) :: pc b51 #[.slice a0_0 x0.Day.Trains.length c0_0, .slice a0_1 x0.Day.Turns.length c0_1, vi x0.least] 91 :: R)) (m := 4) ⟨4, 0, q132, q139, a133, c134, q132.length, cs137, rfl, by omega, hO166, h135, rfl, hE.pick _ ⟨rfl, rfl, rfl, rfl, rfl, rfl, rfl, rfl, rfl, trivial⟩, hS⟩ ?_
   clear hE hS a w hO166; rintro m169 a w ⟨rest172, k177, q182, q189, a183, c184, n186, cs187, rfl, hp175, hO166, h185, rfl, hE, hS⟩
   refine W.gen fun K190 hK190 => ?_
   rcases rest172 with _ | rest172
   ·replace hO166 := cntO_end hO166
    refine W.seq (W.region (vp hS hE rfl rfl fun a hE => WL.nil ?_))
    refine W.seq ?_
    refine W.condF hE rfl (decide_eq_false (by omega)) ?_
    subst hK190
    refine W.exit rfl ?_
    exact ⟨q182, q189, a183, c184, q182.length, cs187, hO166, h185, rfl, hE.pick _ ⟨rfl, rfl, rfl, rfl, rfl, rfl, trivial⟩, hS⟩
   have hlt198 : k177 < 4 := by omega
   obtain ⟨Q192, hO191, hQ193⟩ := cntO_step hO166
   (try dsimp only at hO191); unfold GuideNetpoints.loop3.step at hO191
   refine W.seq (W.region (vp hS hE rfl rfl fun a hE => WL.nil ?_))
   refine W.seq ?_
   refine W.condT hE rfl (decide_eq_true (by omega)) ?_
   refine W.skip ?_
   refine W.seq ?_
   refine W.block ?_
   refine W.seq (W.region (vp hS hE rfl rfl fun a hE => ?_))
   obtain ⟨x199, hx200, hO191⟩ := AllO.bind hO191
   obtain ⟨hi201, hlt202, hy203⟩ := gx_some hx200
   obtain ⟨b204, hb205⟩ := hS.mapsAt 0 rfl hy203
   refine vP hS hE (show Gives _ _ _ _ (Value.map (some b204)) from Gives.indexMi hE (f := fun b => Value.map (some b)) (l := bs161) ar264 rfl rfl (mcells_all h162) h162 hi201 hb205) rfl fun a hE => ?_
   refine v2 hS hE rfl rfl rfl rfl fun a hE => WL.nil ?_
   refine W.seq (W.region (vp hS hE rfl rfl fun a hE => ?_))
   replace hS := hS.mapsTake 0 rfl hy203 hb205
   refine WL.rangeI hE hS 0 rfl rfl um263 (runs_plain rfl) rfl ?_; clear hE hS a w; intro r207 a w hE hS
   refine WL.nil ?_
   obtain ⟨Q210, hO208, hO191⟩ := AllO.bindP hO191
   refine W.cut (fun a w => ∃ (q224 : List GuidePoint), ∃ (q231 : List (GuidePoint × Bool)), ∃ (a225 : Option Addr), ∃ (c226 : Nat), ∃ (n228 : Nat), ∃ (cs229 : List Value), Q210 (q224, q231) ∧ Ev 3 RGuidePoint s164 cs229 q224 ∧ q224.length = n228 ∧ Rep a 96 [(2, vi x2), (3, pp b51), (9, .map (some b109)), (10, .slice a225 n228 c226), (11, vi k127), (39, pp r112), (47, .agg (mcells 4 bs161).toArray), (48, vi ((k177 : Nat) : Int)), (4294967295, vi (D67 : Nat))] ∧ St w s164 (mapsV keyGuidePlace.f Value.bool bs161 q159 :: vecC 216 3 a225 c226 n228 cs229 :: mapC keyGuidePoint.f Value.bool b109 q231 :: pt D67 (.deferred (some [])) :: pc b53 #[.map (some b52)] 261 :: iterI keyI.f In.cell b52 r112 l74 (ix123 ++ [j129]) :: pc b51 #[.slice a0_0 x0.Day.Trains.length c0_0, .slice a0_1 x0.Day.Turns.length c0_1, vi x0.least] 91 :: R)) ?_ ?_
   ·unfold GuideNetpoints.loop4 at hO208
    refine W.block ?_
    refine W.loop (fun m a w => ∃ (rest214 : List (GuidePlace × Bool)) (ix215 : List Nat) (nn216 : Nat), ∃ (q224 : List GuidePoint), ∃ (q231 : List (GuidePoint × Bool)), ∃ (a225 : Option Addr), ∃ (c226 : Nat), ∃ (n228 : Nat), ∃ (cs229 : List Value), rest214.length = m ∧ rest214.Perm (remI ix215 x199) ∧ rest214.length ≤ nn216 ∧ AllO (rngO (fun x st => GuideNetpoints.loop4.step x0 x2 k127 k177 x.1 x.2 st.1 st.2) nn216 rest214 (q224, q231)) Q210 ∧ Ev 3 RGuidePoint s164 cs229 q224 ∧ q224.length = n228 ∧ Rep a 96 [(2, vi x2), (3, pp b51), (9, .map (some b109)), (10, .slice a225 n228 c226), (11, vi k127), (13, vi ((k177 : Nat) : Int)), (39, pp r112), (47, .agg (mcells 4 bs161).toArray), (48, vi ((k177 : Nat) : Int)), (53, pp r207), (4294967295, vi (D67 : Nat))] ∧ St w s164 (iterI keyGuidePlace.f Value.bool b204 r207 x199 ix215 :: mapsV keyGuidePlace.f Value.bool (List.eraseIdx bs161 ((((k177 : Nat) : Int)).toNat)) (List.eraseIdx q159 ((((k177 : Nat) : Int)).toNat)) :: vecC 216 3 a225 c226 n228 cs229 :: mapC keyGuidePoint.f Value.bool b109 q231 :: pt D67 (.deferred (some [])) :: pc b53 #[.map (some b52)] 261 :: iterI keyI.f In.cell b52 r112 l74 (ix123 ++ [j129]) :: pc b51 #[.slice a0_0 x0.Day.Trains.length c0_0, .slice a0_1 x0.Day.Turns.length c0_1, vi x0.least] 91 :: R)) (m := (x199).length) ⟨x199, [], (x199).length, q182, q189, a183, c184, q182.length, cs187, rfl, by rw [remI_nil], Nat.le_refl _, hO208, h185, rfl, hE.pick _ ⟨rfl, rfl, rfl, rfl, rfl, rfl, rfl, rfl, rfl, rfl, rfl, trivial⟩, hS⟩ ?_
    clear hE hS a w hO208; rintro m211 a w ⟨rest214, ix215, nn216, q224, q231, a225, c226, n228, cs229, rfl, hp217, hn218, hO208, h227, rfl, hE, hS⟩
    refine W.gen fun K232 hK232 => ?_
    refine W.seq (W.region ?_)
    refine WL.nextI hE hS 0 rfl rfl (runs_plain rfl) rfl ?_ ?_
    ·intro hall241; clear hE a; intro a hE
     have hz243 := hp217; rw [remI_end hall241] at hz243; obtain rfl := hz243.eq_nil; replace hO208 := rngO_end hO208
     refine vp hS hE rfl rfl fun a hE => WL.nil ?_
     refine W.seq ?_
     refine W.condF hE rfl rfl ?_
     subst hK232
     refine W.exit rfl ?_
     replace hS := hS.iDone 0 rfl
     replace hS := St.mapsBack hS hy203 hb205
     exact ⟨q224, q231, a225, c226, q224.length, cs229, hO208, h227, rfl, hE.pick _ ⟨rfl, rfl, rfl, rfl, rfl, rfl, rfl, rfl, rfl, trivial⟩, hS⟩
    clear hE hS a w; intro j221 x220 a w hp222 hn223 hE hS
    obtain ⟨k219, x220⟩ := x220
    have hy242 := hp222
    obtain ⟨nn236, rest237, Q234, hp238, hn239, hlt240, hO233, hQ235⟩ := rngO_step hn218 (hp217.trans (remI_next hy242 hn223)) hO208
    (try dsimp only at hO233); unfold GuideNetpoints.loop4.step at hO233
    refine vp hS hE rfl rfl fun a hE => WL.nil ?_
    refine W.seq ?_
    refine W.condT hE rfl rfl ?_
    refine W.skip ?_
    refine W.block ?_
    refine W.seq (W.region (vP hS hE (show Gives _ _ _ _ (Value.tuple #[.agg (GuidePlace.cells k219).toArray, .bool x220]) from Gives.entryI (fk := keyGuidePlace.f) (fv := Value.bool) hE 0 (p := (k219, x220)) rfl hp222 rfl) rfl fun a hE => ?_))
    refine vp hS hE rfl rfl fun a hE => ?_
    refine WL.alloc hE hS (runs_plain rfl) zr267 rfl ?_; clear hE hS a w; intro b244 a w hE hS
    refine WL.storeI hE hS 0 rfl (GuidePlace.cells k219) (runs_plain rfl) rfl rfl rfl ty267 rfl rfl rfl rfl ?_; clear hE hS a w; intro a w hE hS
    refine WL.nil ?_
    refine W.seq ?_
    refine W.gen fun K245 hK245 => ?_
    refine W.regionE (dup (fun w => St w s164 (pc b244 (GuidePlace.cells k219).toArray 267 :: iterI keyGuidePlace.f Value.bool b204 r207 x199 (ix215 ++ [j221]) :: mapsV keyGuidePlace.f Value.bool (List.eraseIdx bs161 ((((k177 : Nat) : Int)).toNat)) (List.eraseIdx q159 ((((k177 : Nat) : Int)).toNat)) :: vecC 216 3 a225 c226 q224.length cs229 :: mapC keyGuidePoint.f Value.bool b109 q231 :: pt D67 (.deferred (some [])) :: pc b53 #[.map (some b52)] 261 :: iterI keyI.f In.cell b52 r112 l74 (ix123 ++ [j129]) :: pc b51 #[.slice a0_0 x0.Day.Trains.length c0_0, .slice a0_1 x0.Day.Turns.length c0_1, vi x0.least] 91 :: R))) (fun b i => cond b ([0, 1, 2, 3, 4, 5, 6, 7, 8, 9, 10, 11, 12, 13].contains i) ([0, 1, 2, 3, 4, 5, 6, 7, 8, 9, 10, 11, 12, 13].contains i)) mixed ?_
    replace hS := hS.drew
    refine tP (i := 0) hE rfl (by kernel_rfl) (Gives.fld hE rfl fl91_0) rfl hS hS fun a hE => ?_
    refine tP (i := 1) hE rfl (by kernel_rfl) (Gives.fld hE rfl fl25_0) rfl hS hS fun a hE => ?_
    refine tT (i := 2) true rfl hE rfl (by kernel_rfl) (Gives.loadB hE 8 rfl rfl rfl ty22) rfl hS hS fun a hE => ?_
    refine tP (i := 3) hE rfl (by kernel_rfl) (Gives.fld hE rfl fl267_0) rfl hS hS fun a hE => ?_
    refine tT (i := 4) true rfl hE rfl (by kernel_rfl) (Gives.loadB hE 0 rfl rfl rfl ty3) rfl hS hS fun a hE => ?_
    obtain ⟨x246, hx247, hO233⟩ := AllO.bind hO233
    obtain ⟨hi248, hlt249, hy250⟩ := gx_some hx247
    obtain ⟨cs251, hl252, hR253, hat254⟩ := h0_0.at hy250
    obtain ⟨a255, c256, a258, c259, rfl, h257, h260⟩ := hR253
    refine tP (i := 5) hE rfl (by kernel_rfl) (Gives.idx hE (k219.train).toNat rfl rfl sl22 hi248 hlt249 (h0_0.aok hlt249)) rfl hS hS fun a hE => ?_
    refine tP (i := 6) hE rfl (by kernel_rfl) (Gives.fld hE rfl fl111_2) rfl hS hS fun a hE => ?_
    refine tT (i := 7) true rfl hE rfl (by kernel_rfl) (Gives.load1 hE rfl (fun w h => (hat254 w _ h).one rfl) ty109) rfl hS hS fun a hE => ?_
    refine tP (i := 8) hE rfl (by kernel_rfl) (Gives.fld hE rfl fl267_1) rfl hS hS fun a hE => ?_
    refine tT (i := 9) true rfl hE rfl (by kernel_rfl) (Gives.loadB hE 0 rfl rfl rfl ty3) rfl hS hS fun a hE => ?_
    obtain ⟨x261, hx262, hO233⟩ := AllO.bind hO233
    obtain ⟨hi263, hlt264, hy265⟩ := gx_some hx262
    obtain ⟨cs266, hl267, hR268, hat269⟩ := h257.at hy265
    subst hR268
    refine tP (i := 10) hE rfl (by kernel_rfl) (Gives.idx hE (k219.off).toNat rfl rfl sl109 hi263 hlt264 (h257.aok hlt264)) rfl hS hS fun a hE => ?_
    refine tT (i := 11) true rfl hE rfl (by kernel_rfl) (Gives.loadA hE rfl (fun w h => hat269 w _ h) ty99) rfl hS hS fun a hE => ?_
    refine Rg.one (i := 12) true true rfl (by kernel_rfl) (by kernel_rfl) (by kernel_rfl) ?_
    refine WL.alloc hE hS (runs_plain rfl) zr99 rfl ?_; clear hE hS a w; intro b270 a w hE hS
    refine WL.nil ?_
    refine ⟨⟨fun _ => (hS.tail), fun _ => (hS.tail)⟩, ?_⟩
    refine Rg.one (i := 13) true true rfl (by kernel_rfl) (by kernel_rfl) (by kernel_rfl) ?_
    refine WL.storeI hE hS 0 rfl (ApiStop.cells x261) (runs_plain rfl) rfl rfl rfl ty99 rfl rfl rfl rfl ?_; clear hE hS a w; intro a w hE hS
    refine WL.nil ?_
    refine ⟨⟨fun _ => (hS.tail), fun _ => (hS.tail)⟩, ?_⟩
    refine Rg.done (by kernel_rfl) ?_
    subst hK245
    refine W.seq (W.region (vp hS hE rfl rfl fun a hE => ?_))
    refine vP hS hE (Gives.fld hE rfl fl99_2) rfl fun a hE => ?_
    refine vP hS hE (Gives.loadB hE 0 rfl rfl rfl ty3) rfl fun a hE => ?_
    refine vp hS hE rfl rfl fun a hE => ?_
    refine vP hS hE (Gives.inc hE rfl (by omega)) rfl fun a hE => ?_
    refine vP hS hE (Gives.build hE (vs := [(0, vi k127), (1, vi x261.Arr), (2, vi ((k177 + 1 : Nat) : Int))]) [vi k127, vi x261.Arr, vi ((k177 + 1 : Nat) : Int)] rfl (by kernel_rfl)) rfl fun a hE => ?_
    refine WL.alloc hE hS (runs_plain rfl) zr216 rfl ?_; clear hE hS a w; intro b271 a w hE hS
    refine WL.storeI hE hS 0 rfl [vi k127, vi x261.Arr, vi ((k177 + 1 : Nat) : Int)] (runs_plain rfl) rfl rfl rfl ty216 rfl rfl rfl rfl ?_; clear hE hS a w; intro a w hE hS
    refine WL.nil ?_
    refine W.seq ?_
    obtain ⟨q273, hq272, hO233⟩ := AllO.bnd hO233
    refine W.cut (fun a w => ∃ (q276 : Bool), q276 = q273 ∧ Rep a 96 [(2, vi x2), (3, pp b51), (9, .map (some b109)), (10, .slice a225 q224.length c226), (11, vi k127), (13, vi ((k177 : Nat) : Int)), (17, pp b271), (39, pp r112), (47, .agg (mcells 4 bs161).toArray), (48, vi ((k177 : Nat) : Int)), (53, pp r207), (85, .bool q276), (4294967295, vi (D67 : Nat))] ∧ St w s164 (pc b271 #[vi k127, vi x261.Arr, vi ((k177 + 1 : Nat) : Int)] 216 :: pc b270 (ApiStop.cells x261).toArray 99 :: pc b244 (GuidePlace.cells k219).toArray 267 :: iterI keyGuidePlace.f Value.bool b204 r207 x199 (ix215 ++ [j221]) :: mapsV keyGuidePlace.f Value.bool (List.eraseIdx bs161 ((((k177 : Nat) : Int)).toNat)) (List.eraseIdx q159 ((((k177 : Nat) : Int)).toNat)) :: vecC 216 3 a225 c226 q224.length cs229 :: mapC keyGuidePoint.f Value.bool b109 q231 :: pt D67 (.deferred (some [])) :: pc b53 #[.map (some b52)] 261 :: iterI keyI.f In.cell b52 r112 l74 (ix123 ++ [j129]) :: pc b51 #[.slice a0_0 x0.Day.Trains.length c0_0, .slice a0_1 x0.Day.Turns.length c0_1, vi x0.least] 91 :: R)) ?_ ?_
    ·refine W.gen fun K277 hK277 => ?_
     refine W.region ?_
     refine vP hS hE (Gives.fld hE rfl fl99_0) rfl fun a hE => ?_
     refine vP hS hE (Gives.loadB hE 1 rfl rfl rfl ty3) rfl fun a hE => ?_
     refine v2 hS hE rfl rfl rfl rfl fun a hE => ?_
     refine vp hS hE rfl rfl fun a hE => ?_
     rcases Bool.eq_false_or_eq_true (x261.Station == x2) with hg278 | hg278
     ·replace hq272 := iteT hg278 hq272
      refine WL.vS hS hE (runs_if hE rfl rfl rfl hg278) (Gives.p hE rfl) rfl fun a hE => ?_
      refine WL.vS hS hE (runs_if hE rfl rfl rfl hg278) (Gives.loadBA hE 0 rfl rfl ty216) rfl fun a hE => ?_
      refine WL.vS hS hE (runs_if hE rfl rfl rfl hg278) (Gives.mapGetS keyGuidePoint hE 6 (k := (GuidePoint.mk k127 x261.Arr ((k177 + 1 : Nat) : Int))) (z := false) rfl rfl rfl mp262 zm4) rfl fun a hE => ?_
      refine WL.vS hS hE (runs_if hE rfl rfl rfl hg278) (Gives.p hE rfl) rfl fun a hE => ?_
      refine vP hS hE (Gives.pickT hE rfl hg278 rfl) rfl fun a hE => WL.nil ?_
      subst hK277
      exact ⟨!((mget q231 (GuidePoint.mk k127 x261.Arr ((k177 + 1 : Nat) : Int))).getD false), hq272, hE.pick _ ⟨rfl, rfl, rfl, rfl, rfl, rfl, rfl, rfl, rfl, rfl, rfl, rfl, rfl, trivial⟩, hS⟩
     replace hq272 := iteF hg278 hq272
     refine nO hE rfl rfl rfl (by rw [hg278]; decide) rfl fun a hE => ?_
     refine nO hE rfl rfl rfl (by rw [hg278]; decide) rfl fun a hE => ?_
     refine nO hE rfl rfl rfl (by rw [hg278]; decide) rfl fun a hE => ?_
     refine nO hE rfl rfl rfl (by rw [hg278]; decide) rfl fun a hE => ?_
     refine vP hS hE (Gives.pickF hE rfl hg278 rfl) rfl fun a hE => WL.nil ?_
     subst hK277
     exact ⟨false, hq272, hE.pick _ ⟨rfl, rfl, rfl, rfl, rfl, rfl, rfl, rfl, rfl, rfl, rfl, rfl, rfl, trivial⟩, hS⟩
    clear hE hS a w; rintro a w ⟨q276, rfl, hE, hS⟩
    obtain ⟨q280, hq279, hO233⟩ := AllO.bind hO233
    refine W.cut (fun a w => ∃ (q283 : List GuidePoint), ∃ (q290 : List (GuidePoint × Bool)), ∃ (a284 : Option Addr), ∃ (c285 : Nat), ∃ (n287 : Nat), ∃ (cs288 : List Value), (q283, q290) = q280 ∧ Ev 3 RGuidePoint s164 cs288 q283 ∧ q283.length = n287 ∧ Rep a 96 [(2, vi x2), (3, pp b51), (9, .map (some b109)), (10, .slice a284 n287 c285), (11, vi k127), (13, vi ((k177 : Nat) : Int)), (39, pp r112), (47, .agg (mcells 4 bs161).toArray), (48, vi ((k177 : Nat) : Int)), (53, pp r207), (4294967295, vi (D67 : Nat))] ∧ St w s164 (pc b271 #[vi k127, vi x261.Arr, vi ((k177 + 1 : Nat) : Int)] 216 :: pc b270 (ApiStop.cells x261).toArray 99 :: pc b244 (GuidePlace.cells k219).toArray 267 :: iterI keyGuidePlace.f Value.bool b204 r207 x199 (ix215 ++ [j221]) :: mapsV keyGuidePlace.f Value.bool (List.eraseIdx bs161 ((((k177 : Nat) : Int)).toNat)) (List.eraseIdx q159 ((((k177 : Nat) : Int)).toNat)) :: vecC 216 3 a284 c285 n287 cs288 :: mapC keyGuidePoint.f Value.bool b109 q290 :: pt D67 (.deferred (some [])) :: pc b53 #[.map (some b52)] 261 :: iterI keyI.f In.cell b52 r112 l74 (ix123 ++ [j129]) :: pc b51 #[.slice a0_0 x0.Day.Trains.length c0_0, .slice a0_1 x0.Day.Turns.length c0_1, vi x0.least] 91 :: R)) ?_ ?_
    ·refine W.gen fun K291 hK291 => ?_
     refine W.cond hE rfl (fun hc292 => ?_) (fun hc292 => ?_)
     ·replace hq279 := iteT hc292 hq279
      refine W.seq (W.region (vp hS hE rfl rfl fun a hE => ?_))
      refine vP hS hE (Gives.loadBA hE 0 rfl rfl ty216) rfl fun a hE => ?_
      refine WL.mapSetS keyGuidePoint hE hS 6 (k := (GuidePoint.mk k127 x261.Arr ((k177 + 1 : Nat) : Int))) (v := true) (.inl rfl) (runs_plain rfl) rfl rfl rfl rfl mp262 rfl ?_; clear hE hS a w; intro a w hE hS
      refine WL.nil ?_
      refine W.region ?_
      refine vp hS hE rfl rfl fun a hE => ?_
      refine vP hS hE (Gives.loadBA hE 0 rfl rfl ty216) rfl fun a hE => ?_
      refine WL.lit hE hS (e := 216) (es := 3) (vs := [(0, .agg (List.toArray [vi k127, vi x261.Arr, vi ((k177 + 1 : Nat) : Int)]))]) (cs := [vi k127, vi x261.Arr, vi ((k177 + 1 : Nat) : Int)]) (runs_plain rfl) rfl (by kernel_rfl) rfl ?_; clear hE hS a w; intro b293 a w hE hS
      obtain ⟨x294, hx295, hq279⟩ := bindS hq279
      refine WL.appD hE hS 5 (m := 1) (runs_plain rfl) rfl rfl rfl ap213 rfl h227 rfl (xs := [(GuidePoint.mk k127 x261.Arr ((k177 + 1 : Nat) : Int))]) (Ev.cons (c1 := [vi k127, vi x261.Arr, vi ((k177 + 1 : Nat) : Int)]) rfl rfl (Ev.nil)) rfl rfl hx295 rfl ?_; clear hE hS a w; intro a296 c297 cs298 a w h299 hE hS
      refine vp hS hE rfl rfl fun a hE => WL.nil ?_
      subst hK291
      exact ⟨x294, (mput q231 (GuidePoint.mk k127 x261.Arr ((k177 + 1 : Nat) : Int)) true), a296, c297, x294.length, cs298, Option.some.inj hq279, h299, (rfl), hE.pick _ ⟨rfl, rfl, rfl, rfl, rfl, rfl, rfl, rfl, rfl, rfl, rfl, trivial⟩, hS⟩
     replace hq279 := iteF hc292 hq279
     refine W.skip ?_
     subst hK291
     exact ⟨q224, q231, a225, c226, q224.length, cs229, Option.some.inj hq279, h227, rfl, hE.pick _ ⟨rfl, rfl, rfl, rfl, rfl, rfl, rfl, rfl, rfl, rfl, rfl, trivial⟩, hS⟩
    clear hE hS a w; rintro a w ⟨q283, q290, a284, c285, n287, cs288, rfl, h286, rfl, hE, hS⟩
    dsimp only at hO233
    replace hS := hS.tail
    replace hS := hS.tail
    replace hS := hS.tail
    subst hK232
    exact ⟨rest237.length, hlt240, rest237, ix215 ++ [j221], nn236, q283, q290, a284, c285, q283.length, cs288, rfl, hp238, hn239, hQ235 _ (AllO.done hO233), h286, rfl, hE.pick _ ⟨rfl, rfl, rfl, rfl, rfl, rfl, rfl, rfl, rfl, rfl, rfl, trivial⟩, hS⟩
   clear hE hS a w; rintro a w ⟨q224, q231, a225, c226, n228, cs229, hO208, h227, rfl, hE, hS⟩
   replace hO191 := hO191 _ hO208
   dsimp only at hO191
   refine W.region ?_
   refine vP hS hE (Gives.inc hE rfl (by omega)) rfl fun a hE => ?_
   refine vp hS hE rfl rfl fun a hE => WL.nil ?_
   subst hK190
   exact ⟨rest172, Nat.lt_succ_self _, rest172, k177 + 1, q224, q231, a225, c226, q224.length, cs229, rfl, by omega, hQ193 _ (AllO.done hO191), h227, rfl, hE.pick _ ⟨rfl, rfl, rfl, rfl, rfl, rfl, rfl, rfl, rfl, trivial⟩, hS⟩
  clear hE hS a w; rintro a w ⟨q182, q189, a183, c184, n186, cs187, hO166, h185, rfl, hE, hS⟩
  replace hO141 := hO141 _ hO166
  dsimp only at hO141
  replace hS := hS.tail
  subst hK140
  exact ⟨rest145.length, hlt148, rest145, ix123 ++ [j129], nn144, q182, q189, a183, c184, q182.length, cs187, s164, rfl, hp146, hn147, (Sg.Le.trans hle121 hle165), hQ143 _ (AllO.done hO141), h185, rfl, hE.pick _ ⟨rfl, rfl, rfl, rfl, rfl, rfl, trivial⟩, hS⟩
 clear hE hS a w; rintro a w ⟨q132, q139, a133, c134, n136, cs137, s120, hle121, hO116, h135, rfl, hE, hS⟩
 replace hr := hr _ hO116
 dsimp only at hr
 replace h115 := MSl.mono RGuideRide.mono hle121 h115
 replace h0_0 := Sl.mono RApiTrain.mono hle121 h0_0
 replace h0_1 := Sl.mono (RL.mono RI.mono) hle121 h0_1
 refine W.seq (W.region (vp hS hE rfl rfl fun a hE => ?_))
 obtain ⟨q303, hq304, hr⟩ := AllO.bind hr
 refine WL.fnq hE (itSortF168_169_ok hS h135 rfl hq304) (runs_plain rfl) bd168 rfl rfl rfl ?_
 clear hE hS; rintro e w ⟨cs301, rfl, h302, hn305, hS⟩; refine ⟨_, rfl, ?_⟩; clear a; intro a hE
 refine WL.nil ?_
 refine W.seq (W.region (v2 hS hE rfl rfl rfl rfl fun a hE => WL.nil ?_))
 refine W.ret ?_
 refine finGM (fn := Tryz.f129) (rs := [.tmp 6]) (vs := [.slice a133 q132.length c134]) hE hS 2 rfl rfl ?_
 clear hS; intro w hS
 refine ⟨⟨rfl, trivial⟩, ?_⟩
 obtain rfl := AllO.done hr
 replace hS := hS.dropAt 1
 replace hS := hS.dropAt 1
 replace hS := hS.dropAt 1
 replace hS := hS.dropAt 1
 exact ⟨a133, c134, q132.length, cs301, s120, rfl, (Sg.Le.trans (Sg.Le.trans (Sg.Le.trans hle59 hle72) hle114) hle121), h302, hn305, hS⟩
set_option maxHeartbeats 8000000 in
theorem GuideNetearliest_1_v1_ok  {w : World} {s : Sg} {R : List HP} {pb0 : Nat} {x0 : GuidePoint} {y0 : Int} (hS : St w s (pc pb0 #[vi y0] 3 :: R))  {r : Bool} (hr : GuideNetearliest_1_v1 x0 y0 = r) :
  Calls Tryz.prog 130 [.agg (GuidePoint.cells x0).toArray, pp pb0].toArray w (fun e w => e = .returned (.bool r) ∧ St w s (pc pb0 #[vi y0] 3 :: R)) := by
 refine enter Tryz.func130 rfl rfl rfl fun a hE => ?_
 rw [GuideNetearliest_1_v1] at hr
 refine W.seq (W.region ?_)
 refine WL.box hE hS (runs_plain rfl) rfl rfl rfl ?_; clear hE hS a w; intro b51 a w hE hS
 refine vp hS hE rfl rfl fun a hE => WL.nil ?_
 refine W.seq (W.region (vP hS hE (Gives.fld hE rfl fl216_0) rfl fun a hE => ?_))
 refine vP hS hE (Gives.loadB hE 0 rfl rfl rfl ty3) rfl fun a hE => ?_
 refine vP hS hE (Gives.loadB hE 1 rfl rfl rfl ty3) rfl fun a hE => ?_
 refine v2 hS hE rfl rfl rfl rfl fun a hE => WL.nil ?_
 refine W.ret ?_
 refine finG (fn := Tryz.f130) (rs := [.tmp 3]) (vs := [_]) hE rfl ⟨rfl, trivial⟩ ?_
 subst hr
 replace hS := hS.tail
 exact ⟨rfl, hS⟩
set_option maxHeartbeats 8000000 in
theorem SlicesIndexFuncLguidePoint_v1_ok  {w : World} {s : Sg} {R : List HP} {pb0 : Nat} {x0 : List GuidePoint} {a0 : Option Addr} {c0 : Nat} {y0 : Int} (hS : St w s (pc pb0 #[vi y0] 3 :: R)) (h0 : Sl 3 RGuidePoint s a0 c0 x0) {r : Int} (hr : SlicesIndexFuncLguidePoint_v1 x0 y0 = r) :
  Calls Tryz.prog 166 [.slice a0 x0.length c0, .func (.func 130) #[] #[pp pb0]].toArray w (fun e w => e = .returned (vi r) ∧ St w s (pc pb0 #[vi y0] 3 :: R)) := by
 refine enter Tryz.func166 rfl rfl rfl fun a hE => ?_
 rw [SlicesIndexFuncLguidePoint_v1] at hr
 refine W.seq (W.region (vp hS hE rfl rfl fun a hE => WL.nil ?_))
 refine W.seq ?_
 refine W.seq (W.region (vp hS hE rfl rfl fun a hE => ?_))
 refine vP hS hE (Gives.len hE rfl sl213) rfl fun a hE => ?_
 refine vp hS hE rfl rfl fun a hE => WL.nil ?_
 obtain ⟨q52, hq51, hr⟩ := bndS hr
 refine W.cut (fun a w => (.next ()) = q52 ∧ Rep a 19 [] ∧ St w s (pc pb0 #[vi y0] 3 :: R)) ?_ ?_
 ·refine W.block ?_
  refine W.loop (fun m a w => ∃ (rest55 : List GuidePoint) (k53 : Nat), rest55.length = m ∧ x0.drop k53 = rest55 ∧ SlicesIndexFuncLguidePoint_v1.loop1 y0 rest55 k53 = q52 ∧ Rep a 19 [(0, .slice a0 x0.length c0), (1, .func (.func 130) #[] #[pp pb0]), (7, vi ((x0).length : Int)), (8, vi ((k53 : Nat) : Int))] ∧ St w s (pc pb0 #[vi y0] 3 :: R)) (m := x0.length) ⟨x0, 0, rfl, rfl, hq51, hE.pick _ ⟨rfl, rfl, rfl, rfl, trivial⟩, hS⟩ ?_
  clear hE hS a w hq51; rintro m59 a w ⟨rest55, k53, rfl, hd56, hq51, hE, hS⟩
  refine W.gen fun K62 hK62 => ?_
  rcases rest55 with _ | ⟨x54, rest55⟩
  ·have hlt57 := drop_nil hd56
   refine W.seq (W.region (vp hS hE rfl rfl fun a hE => WL.nil ?_))
   refine W.seq ?_
   refine W.condF hE rfl (decide_eq_false (by omega)) ?_
   subst hK62
   refine W.exit rfl ?_
   exact ⟨hq51, hE.pick _ trivial, hS⟩
  obtain ⟨hlt57, hx58, hd56⟩ := drop_cons hd56
  rw [SlicesIndexFuncLguidePoint_v1.loop1] at hq51
  refine W.seq (W.region (vp hS hE rfl rfl fun a hE => WL.nil ?_))
  refine W.seq ?_
  refine W.condT hE rfl (decide_eq_true (by omega)) ?_
  refine W.skip ?_
  refine W.seq ?_
  refine W.block ?_
  refine W.seq (W.region (v2 hS hE rfl rfl rfl rfl fun a hE => WL.nil ?_))
  refine W.seq (W.region (v2 hS hE rfl rfl rfl rfl fun a hE => ?_))
  refine vp hS hE rfl rfl fun a hE => ?_
  obtain ⟨cs63, hl64, hR65, hat66⟩ := h0.at hx58
  subst hR65
  refine vP hS hE (Gives.idx hE k53 rfl rfl sl213 rfl hlt57 (h0.aok hlt57)) rfl fun a hE => ?_
  refine vP hS hE (Gives.loadA hE rfl (fun w h => hat66 w _ h) ty216) rfl fun a hE => ?_
  refine WL.fnw hE (GuideNetearliest_1_v1_ok hS  rfl (r := GuideNetearliest_1_v1 x54 y0)) rfl (runs_plain rfl) bd130 rfl rfl rfl ?_
  clear hE hS; rintro e w ⟨rfl, hS⟩; refine ⟨_, rfl, ?_⟩; clear a; intro a hE
  refine WL.nil ?_
  refine W.cond hE rfl (fun hc67 => ?_) (fun hc67 => ?_)
  ·replace hq51 := iteT hc67 hq51
   refine W.seq (W.region (v2 hS hE rfl rfl rfl rfl fun a hE => WL.nil ?_))
   refine W.ret ?_
   subst hK62
   rw [← hq51] at hr
   dsimp only at hr
   refine finG (fn := Tryz.f166) (rs := [.tmp 4]) (vs := [_]) hE rfl ⟨rfl, trivial⟩ ?_
   subst hr
   exact ⟨rfl, hS⟩
  replace hq51 := iteF hc67 hq51
  refine W.skip ?_
  refine W.region ?_
  refine vP hS hE (Gives.inc hE rfl (by have := h0.small; omega)) rfl fun a hE => ?_
  refine vp hS hE rfl rfl fun a hE => WL.nil ?_
  subst hK62
  exact ⟨rest55.length, Nat.lt_succ_self _, rest55, k53 + 1, rfl, hd56, hq51, hE.pick _ ⟨rfl, rfl, rfl, rfl, trivial⟩, hS⟩
 clear hE hS a w; rintro a w ⟨rfl, hE, hS⟩
 dsimp only at hr
 refine W.seq (W.region (vp hS hE rfl rfl fun a hE => WL.nil ?_))
 refine W.ret ?_
 refine finG (fn := Tryz.f166) (rs := [.tmp 4]) (vs := [_]) hE rfl ⟨rfl, trivial⟩ ?_
 subst hr
 exact ⟨rfl, hS⟩
set_option maxHeartbeats 8000000 in
theorem SlicesDeleteFuncLguidePoint_v1_ok {fu : Nat}  {w : World} {s : Sg} {R : List HP} {pb0 : Nat} {x0 : List GuidePoint} {a_v0 : Option Addr} {c_v0 n_v0 : Nat} {cs_v0 : List Value} {y0 : Int} (hS : St w s (pc pb0 #[vi y0] 3 :: vecC 216 3 a_v0 c_v0 n_v0 cs_v0 :: R)) (h_v0 : Ev 3 RGuidePoint s cs_v0 x0) (hn_v0 : x0.length = n_v0) {r : (List GuidePoint)} (hr : SlicesDeleteFuncLguidePoint_v1 fu x0 y0 = some r) :
  Calls Tryz.prog 128 [.slice a_v0 n_v0 c_v0, .func (.func 130) #[] #[pp pb0]].toArray w (fun e w => ∃ (a0 : Option Addr) (c0 n0 : Nat) (cs0 : List Value), e = .returned (.slice a0 n0 c0) ∧ Ev 3 RGuidePoint s cs0 r ∧ r.length = n0 ∧ St w s (vecC 216 3 a0 c0 n0 cs0 :: pc pb0 #[vi y0] 3 :: R)) := by
 refine enter Tryz.func128 rfl rfl rfl fun a hE => ?_
 rw [SlicesDeleteFuncLguidePoint_v1] at hr
 subst hn_v0
 refine W.seq (W.region (vp hS hE rfl rfl fun a hE => WL.nil ?_))
 refine W.seq (W.region (v2 hS hE rfl rfl rfl rfl fun a hE => ?_))
 have hF := hS.lendV RGuidePoint.mono 1 rfl h_v0 (rfl); clear hS; obtain ⟨t51, hle52, hS, hs53, bk54⟩ := hF
 refine WL.fnq hE (SlicesIndexFuncLguidePoint_v1_ok hS hs53 rfl (r := SlicesIndexFuncLguidePoint_v1 x0 y0)) (runs_plain rfl) bd166 rfl rfl rfl ?_
 clear hE hS; rintro e w ⟨rfl, hS⟩; refine ⟨_, rfl, ?_⟩; clear a; intro a hE
 replace hS := bk54 _ _ hS
 refine vp hS hE rfl rfl fun a hE => WL.nil ?_
 refine W.seq ?_
 refine W.seq (W.region (v2 hS hE rfl rfl rfl rfl fun a hE => WL.nil ?_))
 refine W.cond hE rfl (fun hc55 => ?_) (fun hc55 => ?_)
 ·replace hr := iteT hc55 hr
  refine W.seq (W.region (v2 hS hE rfl rfl rfl rfl fun a hE => WL.nil ?_))
  refine W.ret ?_
  refine finG (fn := Tryz.f128) (rs := [.tmp 4]) (vs := [_]) hE rfl ⟨rfl, trivial⟩ ?_
  obtain rfl := Option.some.inj hr
  exact ⟨a_v0, c_v0, x0.length, cs_v0, rfl, h_v0, (rfl), hS⟩
 replace hr := iteF hc55 hr
 refine W.skip ?_
 refine W.seq ?_
 refine W.seq (W.region (v2 hS hE rfl rfl rfl rfl fun a hE => ?_))
 refine vp hS hE rfl rfl fun a hE => WL.nil ?_
 obtain ⟨q57, hq56, hr⟩ := bindS hr
 refine W.cut (fun a w => ∃ (q62 : Int), ∃ (q63 : Int), ∃ (q64 : List GuidePoint), ∃ (cs68 : List Value), (q62, q63, q64) = q57 ∧ Ev 3 RGuidePoint s cs68 q64 ∧ q64.length = x0.length ∧ Rep a 42 [(0, .slice a_v0 x0.length c_v0), (5, vi q62)] ∧ St w s (vecC 216 3 a_v0 c_v0 x0.length cs68 :: pc pb0 #[vi y0] 3 :: R)) ?_ ?_
 ·refine W.block ?_
  refine W.loop (fun m a w => ∃ (n58 : Nat), ∃ (q62 : Int), ∃ (q63 : Int), ∃ (q64 : List GuidePoint), ∃ (cs68 : List Value), n58 = m ∧ SlicesDeleteFuncLguidePoint_v1.loop1 x0 y0 n58 q62 q63 q64 = some q57 ∧ Ev 3 RGuidePoint s cs68 q64 ∧ q64.length = x0.length ∧ Rep a 42 [(0, .slice a_v0 x0.length c_v0), (1, .func (.func 130) #[] #[pp pb0]), (5, vi q62), (6, vi q63)] ∧ St w s (vecC 216 3 a_v0 c_v0 x0.length cs68 :: pc pb0 #[vi y0] 3 :: R)) (m := fu) ⟨fu, (SlicesIndexFuncLguidePoint_v1 x0 y0), (w64 ((SlicesIndexFuncLguidePoint_v1 x0 y0) + 1)), x0, cs_v0, rfl, hq56, h_v0, (rfl), hE.pick _ ⟨rfl, rfl, rfl, rfl, trivial⟩, hS⟩ ?_
  clear hE hS a w hq56; rintro m59 a w ⟨n58, q62, q63, q64, cs68, rfl, hq56, h67, hn69, hE, hS⟩
  refine W.gen fun K70 hK70 => ?_
  rcases n58 with _ | n58
  ·rw [SlicesDeleteFuncLguidePoint_v1.loop1] at hq56; exact absurd hq56 (by simp)
  rw [SlicesDeleteFuncLguidePoint_v1.loop1] at hq56
  refine W.seq ?_
  refine W.seq (W.region (v2 hS hE rfl rfl rfl rfl fun a hE => ?_))
  refine vP hS hE (Gives.len hE rfl sl213) rfl fun a hE => ?_
  refine vp hS hE rfl rfl fun a hE => WL.nil ?_
  refine W.cond hE rfl (fun hc71 => ?_) (fun hc71 => ?_)
  ·replace hq56 := iteT hc71 hq56
   refine W.skip ?_
   refine W.seq ?_
   refine W.block ?_
   refine W.seq (W.region (v2 hS hE rfl rfl rfl rfl fun a hE => ?_))
   obtain ⟨x72, hx73, hq56⟩ := bindS hq56
   obtain ⟨hi74, hlt75, hy76⟩ := gx_some hx73
   obtain ⟨vs77, hl78, hR79, hd80, hget81⟩ := h67.at hy76
   subst hR79
   refine vP hS hE (Gives.idx hE ((q63).toNat) rfl rfl sl213 hi74 (by have := hn69; omega) (hS.vecAok 0 rfl (by have := hn69; omega : (q63).toNat < x0.length))) rfl fun a hE => ?_
   refine vP hS hE (Gives.loadA hE rfl (fun w h => St.vecSees h 0 rfl ((q63).toNat * 3) _ hget81) ty216) rfl fun a hE => ?_
   refine WL.alloc hE hS (runs_plain rfl) zr216 rfl ?_; clear hE hS a w; intro b82 a w hE hS
   refine WL.storeI hE hS 0 rfl (GuidePoint.cells x72) (runs_plain rfl) rfl rfl rfl ty216 rfl rfl rfl rfl ?_; clear hE hS a w; intro a w hE hS
   refine WL.nil ?_
   refine W.seq (W.region (vp hS hE rfl rfl fun a hE => ?_))
   refine vP hS hE (Gives.loadBA hE 0 rfl rfl ty216) rfl fun a hE => ?_
   replace hS := hS.front 2 rfl
   refine WL.fnw hE (GuideNetearliest_1_v1_ok hS  rfl (r := GuideNetearliest_1_v1 x72 y0)) rfl (runs_plain rfl) bd130 rfl rfl rfl ?_
   clear hE hS; rintro e w ⟨rfl, hS⟩; refine ⟨_, rfl, ?_⟩; clear a; intro a hE
   refine vp hS hE rfl rfl fun a hE => WL.nil ?_
   obtain ⟨q84, hq83, hq56⟩ := bindS hq56
   refine W.cut (fun a w => ∃ (q87 : Int), ∃ (q88 : List GuidePoint), ∃ (cs92 : List Value), (q87, q88) = q84 ∧ Ev 3 RGuidePoint s cs92 q88 ∧ q88.length = x0.length ∧ Rep a 42 [(0, .slice a_v0 x0.length c_v0), (1, .func (.func 130) #[] #[pp pb0]), (5, vi q87), (6, vi q63)] ∧ St w s (pc pb0 #[vi y0] 3 :: pc b82 (GuidePoint.cells x72).toArray 216 :: vecC 216 3 a_v0 c_v0 x0.length cs92 :: R)) ?_ ?_
   ·refine W.gen fun K94 hK94 => ?_
    refine W.cond hE rfl (fun hc95 => ?_) (fun hc95 => ?_)
    ·replace hq83 := iteT hc95 hq83
     refine W.seq (W.region (v2 hS hE rfl rfl rfl rfl fun a hE => ?_))
     refine vP hS hE (Gives.loadBA hE 1 rfl rfl ty216) rfl fun a hE => ?_
     obtain ⟨_, hx97, hq83⟩ := bindS hq83
     obtain ⟨h98, h99⟩ := ix_some hx97
     refine vP hS hE (Gives.idx hE ((q62).toNat) rfl rfl sl213 h98 (by have := hn69; omega) (hS.vecAok 2 rfl (by have := hn69; omega : (q62).toNat < x0.length))) rfl fun a hE => ?_
     obtain ⟨x101, hx102, hq83⟩ := bindS hq83
     refine WL.setD hE hS 2 rfl (runs_plain rfl) rfl rfl (vs := [vi x72.Dep, vi x72.Arr, vi x72.Rides]) rfl ty216 rfl rfl rfl h67 hn69 (sx_some hx102).1 hx102 rfl rfl ?_; clear hE hS a w; intro cs103 a w h104 hn105 hE hS
     refine WL.nil ?_
     refine W.region ?_
     refine v2 hS hE rfl rfl rfl rfl fun a hE => ?_
     refine vp hS hE rfl rfl fun a hE => WL.nil ?_
     subst hK94
     exact ⟨w64 (q62 + 1), x101, cs103, Option.some.inj hq83, h104, hn105, hE.pick _ ⟨rfl, rfl, rfl, rfl, trivial⟩, hS⟩
    replace hq83 := iteF hc95 hq83
    refine W.skip ?_
    subst hK94
    exact ⟨q62, q64, cs68, Option.some.inj hq83, h67, hn69, hE.pick _ ⟨rfl, rfl, rfl, rfl, trivial⟩, hS⟩
   clear hE hS a w; rintro a w ⟨q87, q88, cs92, rfl, h91, hn93, hE, hS⟩
   dsimp only at hq56
   refine W.region ?_
   refine v2 hS hE rfl rfl rfl rfl fun a hE => ?_
   refine vp hS hE rfl rfl fun a hE => WL.nil ?_
   replace hS := hS.dropAt 1
   replace hS := hS.front 1 rfl
   subst hK70
   exact ⟨n58, Nat.lt_succ_self _, n58, q87, (w64 (q63 + 1)), q88, cs92, rfl, hq56, h91, hn93, hE.pick _ ⟨rfl, rfl, rfl, rfl, trivial⟩, hS⟩
  replace hq56 := iteF hc71 hq56
  subst hK70
  refine W.exit rfl ?_
  exact ⟨q62, q63, q64, cs68, Option.some.inj hq56, h67, hn69, hE.pick _ ⟨rfl, rfl, trivial⟩, hS⟩
 clear hE hS a w; rintro a w ⟨q62, q63, q64, cs68, rfl, h67, hn69, hE, hS⟩
 dsimp only at hr
 refine W.seq (W.region (v2 hS hE rfl rfl rfl rfl fun a hE => ?_))
 obtain ⟨x106, hx107, hr⟩ := bindS hr
 obtain ⟨_, h108, h109, h110, h111, _⟩ := cutl_some hx107
 have h112 := (hS.vecCap 0 rfl).1
 have h113 : (q62).toNat ≤ x0.length := by have := hn69; omega
 have h114 : Ev 3 RGuidePoint s (cs68.take ((q62).toNat * 3)) x106 := by rw [h110]; exact h67.take _
 have hn115 : x106.length = (q62).toNat := by rw [h110]; simp; omega
 replace hS := hS.vecTake 0 rfl (by have := hn69; omega)
 refine vP hS hE (Gives.slL hE sl213 rfl rfl h108 (by omega) rfl) rfl fun a hE => ?_
 refine WL.clrS hE hS 0 (lo := (q62).toNat) (hi := x0.length) (runs_plain rfl) cl213 rfl rfl (by omega) (by omega) (by omega) rfl ?_; clear hE hS a w; intro a w hE hS
 refine WL.nil ?_
 refine W.seq (W.region (v2 hS hE rfl rfl rfl rfl fun a hE => ?_))
 refine vP hS hE (Gives.slH hE sl213 rfl rfl (by omega) (by omega) (sliced_zero _ _ _ _)) rfl fun a hE => ?_
 refine vp hS hE rfl rfl fun a hE => WL.nil ?_
 refine W.ret ?_
 refine finG (fn := Tryz.f128) (rs := [.tmp 4]) (vs := [_]) hE rfl ⟨rfl, trivial⟩ ?_
 obtain rfl := Option.some.inj hr
 exact ⟨a_v0, c_v0, (q62).toNat, (cs68.take ((q62).toNat * 3)), rfl, h114, hn115, hS⟩
set_option maxHeartbeats 8000000 in
theorem GuideNetearliest_2_ok  {w : World} {s : Sg} {R : List HP} {x0 : GuidePoint} {x1 : GuidePoint} (hS : St w s (R))  {r : Int} (hr : GuideNetearliest_2 x0 x1 = r) :
  Calls Tryz.prog 132 [.agg (GuidePoint.cells x0).toArray, .agg (GuidePoint.cells x1).toArray].toArray w (fun e w => e = .returned (vi r) ∧ St w s (R)) := by
 refine enter Tryz.func132 rfl rfl rfl fun a hE => ?_
 rw [GuideNetearliest_2] at hr
 refine W.seq (W.region ?_)
 refine WL.box hE hS (runs_plain rfl) rfl rfl rfl ?_; clear hE hS a w; intro b51 a w hE hS
 refine WL.box hE hS (runs_plain rfl) rfl rfl rfl ?_; clear hE hS a w; intro b52 a w hE hS
 refine vp hS hE rfl rfl fun a hE => WL.nil ?_
 refine W.seq ?_
 refine W.gen fun K53 hK53 => ?_
 refine W.regionE (dup (fun w => St w s (pc b52 (GuidePoint.cells x1).toArray 216 :: pc b51 (GuidePoint.cells x0).toArray 216 :: R))) (fun b i => cond b ([0, 1, 2, 3, 4, 5, 6, 7, 8, 9, 10, 11, 12, 13, 14, 15, 16, 17].contains i) ([0, 1, 2, 3, 4, 5, 6, 7, 8, 9, 10, 11, 12, 13, 14, 15, 16, 17].contains i)) mixed ?_
 replace hS := hS.drew
 refine tP (i := 0) hE rfl (by kernel_rfl) (Gives.fld hE rfl fl216_1) rfl hS hS fun a hE => ?_
 refine tT (i := 1) true rfl hE rfl (by kernel_rfl) (Gives.loadB hE 1 rfl rfl rfl ty3) rfl hS hS fun a hE => ?_
 refine tP (i := 2) hE rfl (by kernel_rfl) (Gives.fld hE rfl fl216_1) rfl hS hS fun a hE => ?_
 refine tT (i := 3) true rfl hE rfl (by kernel_rfl) (Gives.loadB hE 0 rfl rfl rfl ty3) rfl hS hS fun a hE => ?_
 refine tP (i := 5) hE rfl (by kernel_rfl) (Gives.fld hE rfl fl216_2) rfl hS hS fun a hE => ?_
 refine tT (i := 6) true rfl hE rfl (by kernel_rfl) (Gives.loadB hE 1 rfl rfl rfl ty3) rfl hS hS fun a hE => ?_
 refine tP (i := 7) hE rfl (by kernel_rfl) (Gives.fld hE rfl fl216_2) rfl hS hS fun a hE => ?_
 refine tT (i := 8) true rfl hE rfl (by kernel_rfl) (Gives.loadB hE 0 rfl rfl rfl ty3) rfl hS hS fun a hE => ?_
 refine tP (i := 10) hE rfl (by kernel_rfl) (Gives.fld hE rfl fl216_0) rfl hS hS fun a hE => ?_
 refine tT (i := 11) true rfl hE rfl (by kernel_rfl) (Gives.loadB hE 0 rfl rfl rfl ty3) rfl hS hS fun a hE => ?_
 refine tP (i := 12) hE rfl (by kernel_rfl) (Gives.fld hE rfl fl216_0) rfl hS hS fun a hE => ?_
 refine tT (i := 13) true rfl hE rfl (by kernel_rfl) (Gives.loadB hE 1 rfl rfl rfl ty3) rfl hS hS fun a hE => ?_
 refine Rg.one (i := 4) true true rfl (by kernel_rfl) (by kernel_rfl) (by kernel_rfl) ?_
 refine WL.fnq hE (CmpCompareint_ok hS  rfl (r := CmpCompareint x0.Arr x1.Arr)) (runs_plain rfl) bd42 rfl rfl rfl ?_
 clear hE hS; rintro e w ⟨rfl, hS⟩; refine ⟨_, rfl, ?_⟩; clear a; intro a hE
 refine WL.nil ?_
 refine ⟨⟨fun _ => hS, fun _ => hS⟩, ?_⟩
 refine Rg.one (i := 9) true true rfl (by kernel_rfl) (by kernel_rfl) (by kernel_rfl) ?_
 refine WL.fnq hE (CmpCompareint_ok hS  rfl (r := CmpCompareint x0.Rides x1.Rides)) (runs_plain rfl) bd42 rfl rfl rfl ?_
 clear hE hS; rintro e w ⟨rfl, hS⟩; refine ⟨_, rfl, ?_⟩; clear a; intro a hE
 refine WL.nil ?_
 refine ⟨⟨fun _ => hS, fun _ => hS⟩, ?_⟩
 refine Rg.one (i := 14) true true rfl (by kernel_rfl) (by kernel_rfl) (by kernel_rfl) ?_
 refine WL.fnq hE (CmpCompareint_ok hS  rfl (r := CmpCompareint x1.Dep x0.Dep)) (runs_plain rfl) bd42 rfl rfl rfl ?_
 clear hE hS; rintro e w ⟨rfl, hS⟩; refine ⟨_, rfl, ?_⟩; clear a; intro a hE
 refine WL.nil ?_
 refine ⟨⟨fun _ => hS, fun _ => hS⟩, ?_⟩
 refine Rg.one (i := 15) true true rfl (by kernel_rfl) (by kernel_rfl) (by kernel_rfl) ?_
 refine WL.lit hE hS (e := 3) (es := 1) (vs := [(0, vi (CmpCompareint x0.Arr x1.Arr)), (1, vi (CmpCompareint x0.Rides x1.Rides)), (2, vi (CmpCompareint x1.Dep x0.Dep))]) (cs := [vi (CmpCompareint x0.Arr x1.Arr), vi (CmpCompareint x0.Rides x1.Rides), vi (CmpCompareint x1.Dep x0.Dep)]) (runs_plain rfl) rfl (by kernel_rfl) rfl ?_; clear hE hS a w; intro b54 a w hE hS
 replace hS := hS.ptVec (es := 1) (m := 3) rfl (by decide)
 have h56 : Ev 1 (RI .i64) s [vi (CmpCompareint x0.Arr x1.Arr), vi (CmpCompareint x0.Rides x1.Rides), vi (CmpCompareint x1.Dep x0.Dep)] [(CmpCompareint x0.Arr x1.Arr), (CmpCompareint x0.Rides x1.Rides), (CmpCompareint x1.Dep x0.Dep)] := (Ev.cons (c1 := [vi (CmpCompareint x0.Arr x1.Arr)]) rfl rfl (Ev.cons (c1 := [vi (CmpCompareint x0.Rides x1.Rides)]) rfl rfl (Ev.cons (c1 := [vi (CmpCompareint x1.Dep x0.Dep)]) rfl rfl (Ev.nil))))
 have hF := hS.fixD RI.mono 0 rfl h56 (rfl); clear hS; obtain ⟨s57, hle58, hS, h59⟩ := hF
 refine WL.nil ?_
 refine ⟨⟨fun _ => (St.down hle58 hS), fun _ => (St.down hle58 hS)⟩, ?_⟩
 refine Rg.one (i := 16) true true rfl (by kernel_rfl) (by kernel_rfl) (by kernel_rfl) ?_
 refine WL.fnq hE (CmpOrint_ok hS h59 rfl (r := CmpOrint [(CmpCompareint x0.Arr x1.Arr), (CmpCompareint x0.Rides x1.Rides), (CmpCompareint x1.Dep x0.Dep)])) (runs_plain rfl) bd41 rfl rfl rfl ?_
 clear hE hS; rintro e w ⟨rfl, hS⟩; refine ⟨_, rfl, ?_⟩; clear a; intro a hE
 refine WL.nil ?_
 refine ⟨⟨fun _ => (St.down hle58 hS), fun _ => (St.down hle58 hS)⟩, ?_⟩
 refine tP (i := 17) hE rfl (by kernel_rfl) (Gives.p hE rfl) rfl (St.down hle58 hS) (St.down hle58 hS) fun a hE => ?_
 refine Rg.done (by kernel_rfl) ?_
 subst hK53
 refine W.ret ?_
 refine finG (fn := Tryz.f132) (rs := [.tmp 4]) (vs := [_]) hE rfl ⟨rfl, trivial⟩ ?_
 subst hr
 replace hS := hS.tail
 replace hS := hS.tail
 exact ⟨rfl, (hS.down hle58)⟩
set_option maxHeartbeats 8000000 in
theorem SlicesMinFuncLguidePoint_v1_ok {fu : Nat}  {w : World} {s : Sg} {R : List HP} {x0 : List GuidePoint} {a0 : Option Addr} {c0 : Nat} (hS : St w s (R)) (h0 : Sl 3 RGuidePoint s a0 c0 x0) {r : GuidePoint} (hr : SlicesMinFuncLguidePoint_v1 fu x0 = some r) :
  Calls Tryz.prog 131 [.slice a0 x0.length c0, .func (.func 132) #[] #[]].toArray w (fun e w => ∃ (cs0 : List Value) (t : Sg), e = .returned (.agg cs0.toArray) ∧ s.Le t ∧ RGuidePoint t cs0 r ∧ St w t (R)) := by
 refine enter Tryz.func131 rfl rfl rfl fun a hE => ?_
 rw [SlicesMinFuncLguidePoint_v1] at hr
 refine W.seq (W.region ?_)
 refine WL.alloc hE hS (runs_plain rfl) zr216 rfl ?_; clear hE hS a w; intro b51 a w hE hS
 refine WL.nil ?_
 refine W.seq ?_
 refine W.seq (W.region (vp hS hE rfl rfl fun a hE => ?_))
 refine vP hS hE (Gives.len hE rfl sl213) rfl fun a hE => ?_
 refine vp hS hE rfl rfl fun a hE => WL.nil ?_
 refine W.cond hE rfl (fun hc52 => ?_) (fun hc52 => ?_)
 ·replace hr := iteT hc52 hr
  refine W.region ?_
  exact absurd hr (by simp)
 replace hr := iteF hc52 hr
 refine W.skip ?_
 refine W.seq (W.region (vp hS hE rfl rfl fun a hE => ?_))
 obtain ⟨x53, hx54, hr⟩ := bindS hr
 obtain ⟨hi55, hlt56, hy57⟩ := gx_some hx54
 obtain ⟨cs58, hl59, hR60, hat61⟩ := h0.at hy57
 subst hR60
 refine vP hS hE (Gives.idx hE ((0 : Int)).toNat rfl rfl sl213 hi55 hlt56 (h0.aok hlt56)) rfl fun a hE => ?_
 refine vP hS hE (Gives.loadA hE rfl (fun w h => hat61 w _ h) ty216) rfl fun a hE => ?_
 refine WL.alloc hE hS (runs_plain rfl) zr216 rfl ?_; clear hE hS a w; intro b62 a w hE hS
 refine WL.storeI hE hS 0 rfl (GuidePoint.cells x53) (runs_plain rfl) rfl rfl rfl ty216 rfl rfl rfl rfl ?_; clear hE hS a w; intro a w hE hS
 refine WL.nil ?_
 refine W.seq ?_
 refine W.seq (W.region (vp hS hE rfl rfl fun a hE => WL.nil ?_))
 obtain ⟨q64, hq63, hr⟩ := bindS hr
 refine W.cut (fun a w => ∃ (q69 : Int), ∃ (q70 : Int), ∃ (q71 : Int), ∃ (q72 : Int), (q69, q70, q71, q72) = q64 ∧ Rep a 33 [(4, pp b51), (5, pp b62)] ∧ St w s (pc b62 #[vi q70, vi q71, vi q72] 216 :: pc b51 #[vi 0, vi 0, vi 0] 216 :: R)) ?_ ?_
 ·refine W.block ?_
  refine W.loop (fun m a w => ∃ (n65 : Nat), ∃ (q69 : Int), ∃ (q70 : Int), ∃ (q71 : Int), ∃ (q72 : Int), n65 = m ∧ SlicesMinFuncLguidePoint_v1.loop1 x0 n65 q69 q70 q71 q72 = some q64 ∧ Rep a 33 [(0, .slice a0 x0.length c0), (1, .func (.func 132) #[] #[]), (4, pp b51), (5, pp b62), (6, vi q69)] ∧ St w s (pc b62 #[vi q70, vi q71, vi q72] 216 :: pc b51 #[vi 0, vi 0, vi 0] 216 :: R)) (m := fu) ⟨fu, 1, x53.Dep, x53.Arr, x53.Rides, rfl, hq63, hE.pick _ ⟨rfl, rfl, rfl, rfl, rfl, trivial⟩, hS⟩ ?_
  clear hE hS a w hq63; rintro m66 a w ⟨n65, q69, q70, q71, q72, rfl, hq63, hE, hS⟩
  refine W.gen fun K73 hK73 => ?_
  rcases n65 with _ | n65
  ·rw [SlicesMinFuncLguidePoint_v1.loop1] at hq63; exact absurd hq63 (by simp)
  rw [SlicesMinFuncLguidePoint_v1.loop1] at hq63
  refine W.seq ?_
  refine W.seq (W.region (v2 hS hE rfl rfl rfl rfl fun a hE => ?_))
  refine vP hS hE (Gives.len hE rfl sl213) rfl fun a hE => ?_
  refine vp hS hE rfl rfl fun a hE => WL.nil ?_
  refine W.cond hE rfl (fun hc74 => ?_) (fun hc74 => ?_)
  ·replace hq63 := iteT hc74 hq63
   refine W.skip ?_
   refine W.seq ?_
   refine W.block ?_
   refine W.seq ?_
   refine W.regionQ (C := fun w => St w s (pc b62 #[vi q70, vi q71, vi q72] 216 :: pc b51 #[vi 0, vi 0, vi 0] 216 :: R)) mixed (by kernel_rfl) hS.drew ?_
   refine qP hE (Gives.p hE rfl) rfl fun a hE => ?_
   refine qP hE (Gives.p hE rfl) rfl fun a hE => ?_
   refine qP hE (Gives.p hE rfl) rfl fun a hE => ?_
   obtain ⟨x75, hx76, hq63⟩ := bindS hq63
   obtain ⟨hi77, hlt78, hy79⟩ := gx_some hx76
   obtain ⟨cs80, hl81, hR82, hat83⟩ := h0.at hy79
   subst hR82
   refine qP hE (Gives.idx hE (q69).toNat rfl rfl sl213 hi77 hlt78 (h0.aok hlt78)) rfl fun a hE => ?_
   refine qP hE (Gives.loadA hE rfl (fun w h => hat83 w _ h) ty216) rfl fun a hE => ?_
   refine qP hE (Gives.loadBA hE 0 rfl rfl ty216) rfl fun a hE => ?_
   refine QL.fnw hE (fun w hS => GuideNetearliest_2_ok hS  rfl (r := GuideNetearliest_2 x75 (GuidePoint.mk q70 q71 q72))) rfl (runs_plain rfl) bd132 rfl rfl rfl fun a hE => ?_
   refine qP hE (Gives.p hE rfl) rfl fun a hE => ?_
   refine QL.nil ?_; clear hS w; intro w hS
   obtain ⟨q85, hq84, hq63⟩ := bindS hq63
   refine W.cut (fun a w => ∃ (q88 : Int), ∃ (q89 : Int), ∃ (q90 : Int), (q88, q89, q90) = q85 ∧ Rep a 33 [(0, .slice a0 x0.length c0), (1, .func (.func 132) #[] #[]), (4, pp b51), (5, pp b62), (6, vi q69)] ∧ St w s (pc b62 #[vi q88, vi q89, vi q90] 216 :: pc b51 #[vi 0, vi 0, vi 0] 216 :: R)) ?_ ?_
   ·refine W.gen fun K91 hK91 => ?_
    refine W.cond hE rfl (fun hc92 => ?_) (fun hc92 => ?_)
    ·replace hq84 := iteT hc92 hq84
     refine W.region ?_
     refine v2 hS hE rfl rfl rfl rfl fun a hE => ?_
     obtain ⟨x93, hx94, hq84⟩ := bindS hq84
     obtain ⟨hi95, hlt96, hy97⟩ := gx_some hx94
     obtain ⟨cs98, hl99, hR100, hat101⟩ := h0.at hy97
     subst hR100
     refine vP hS hE (Gives.idx hE (q69).toNat rfl rfl sl213 hi95 hlt96 (h0.aok hlt96)) rfl fun a hE => ?_
     refine vP hS hE (Gives.loadA hE rfl (fun w h => hat101 w _ h) ty216) rfl fun a hE => ?_
     refine WL.storeI hE hS 0 rfl (GuidePoint.cells x93) (runs_plain rfl) rfl rfl rfl ty216 rfl rfl rfl rfl ?_; clear hE hS a w; intro a w hE hS
     refine WL.nil ?_
     subst hK91
     exact ⟨x93.Dep, x93.Arr, x93.Rides, Option.some.inj hq84, hE.pick _ ⟨rfl, rfl, rfl, rfl, rfl, trivial⟩, hS⟩
    replace hq84 := iteF hc92 hq84
    refine W.skip ?_
    subst hK91
    exact ⟨q70, q71, q72, Option.some.inj hq84, hE.pick _ ⟨rfl, rfl, rfl, rfl, rfl, trivial⟩, hS⟩
   clear hE hS a w; rintro a w ⟨q88, q89, q90, rfl, hE, hS⟩
   dsimp only at hq63
   refine W.region ?_
   refine v2 hS hE rfl rfl rfl rfl fun a hE => ?_
   refine vp hS hE rfl rfl fun a hE => WL.nil ?_
   subst hK73
   exact ⟨n65, Nat.lt_succ_self _, n65, (w64 (q69 + 1)), q88, q89, q90, rfl, hq63, hE.pick _ ⟨rfl, rfl, rfl, rfl, rfl, trivial⟩, hS⟩
  replace hq63 := iteF hc74 hq63
  subst hK73
  refine W.exit rfl ?_
  exact ⟨q69, q70, q71, q72, Option.some.inj hq63, hE.pick _ ⟨rfl, rfl, trivial⟩, hS⟩
 clear hE hS a w; rintro a w ⟨q69, q70, q71, q72, rfl, hE, hS⟩
 dsimp only at hr
 refine W.seq (W.region (vP hS hE (Gives.loadBA hE 0 rfl rfl ty216) rfl fun a hE => ?_))
 refine WL.storeI hE hS 1 rfl [vi q70, vi q71, vi q72] (runs_plain rfl) rfl rfl rfl ty216 rfl rfl rfl rfl ?_; clear hE hS a w; intro a w hE hS
 refine WL.nil ?_
 refine W.ret ?_
 refine finG (fn := Tryz.f131) (rs := [.cell 4 216]) (vs := [_]) hE rfl ⟨⟨_, rfl, .inl ⟨_, rfl, hS.seesAt 1 rfl, ty216⟩⟩, trivial⟩ ?_
 obtain rfl := Option.some.inj hr
 replace hS := hS.tail
 replace hS := hS.tail
 exact ⟨_, s, rfl, (Sg.Le.refl _), rfl, hS⟩
set_option maxHeartbeats 8000000 in
theorem SlicesCloneLguideRide_ok  {w : World} {s : Sg} {R : List HP} {x0 : List GuideRide} {a0 : Option Addr} {c0 : Nat} (hS : St w s (R)) (h0 : Sl 3 RGuideRide s a0 c0 x0) {r : (List GuideRide)} (hr : SlicesCloneLguideRide x0 = some r) :
  Calls Tryz.prog 48 [.slice a0 x0.length c0].toArray w (fun e w => ∃ (a0 : Option Addr) (c0 n0 : Nat) (cs0 : List Value), e = .returned (.slice a0 n0 c0) ∧ Ev 3 RGuideRide s cs0 r ∧ r.length = n0 ∧ St w s (vecC 95 3 a0 c0 n0 cs0 :: R)) := by
 refine enter Tryz.func48 rfl rfl rfl fun a hE => ?_
 rw [SlicesCloneLguideRide] at hr
 refine W.seq (W.region (vp hS hE rfl rfl fun a hE => WL.nil ?_))
 refine W.seq ?_
 refine W.seq (W.region (vp hS hE rfl rfl fun a hE => ?_))
 refine vP hS hE (Gives.isNil hE rfl rfl isl27) rfl fun a hE => WL.nil ?_
 rcases a0 with _ | g51
 ·obtain rfl := h0.none_nil
  replace hr : some [] = _ := hr
  refine W.condT hE rfl rfl ?_
  refine W.seq (W.region (vp hS hE rfl rfl fun a hE => WL.nil ?_))
  refine W.ret ?_
  replace hS := hS.vecNil 95 3
  refine finG (fn := Tryz.f48) (rs := [.tmp 2]) (vs := [_]) hE rfl ⟨rfl, trivial⟩ ?_
  obtain rfl := Option.some.inj hr
  exact ⟨none, 0, 0, [], rfl, (Ev.nil), (rfl), hS⟩
 skip
 refine W.condF hE rfl rfl ?_
 refine W.skip ?_
 refine W.seq (W.region ?_)
 refine WL.lit hE hS (e := 95) (es := 3) (vs := []) (cs := []) (runs_plain rfl) rfl (by kernel_rfl) rfl ?_; clear hE hS a w; intro b53 a w hE hS
 replace hS := hS.ptVec (es := 3) (m := 0) rfl (by decide)
 have h55 : Ev 3 RGuideRide s [] [] := (Ev.nil)
 refine vp hS hE rfl rfl fun a hE => ?_
 obtain ⟨x56, hx57, hr⟩ := bindS hr
 refine WL.appS hE hS 0 (runs_plain rfl) rfl rfl (xs := x0) rfl rfl ap27 RGuideRide.one h55 (rfl) h0 hx57 rfl ?_; clear hE hS a w; intro a58 c59 cs60 a w h61 hE hS
 refine vp hS hE rfl rfl fun a hE => WL.nil ?_
 refine W.ret ?_
 refine finG (fn := Tryz.f48) (rs := [.tmp 2]) (vs := [_]) hE rfl ⟨rfl, trivial⟩ ?_
 obtain rfl := Option.some.inj hr
 exact ⟨a58, c59, x56.length, cs60, rfl, h61, (rfl), hS⟩
set_option maxHeartbeats 8000000 in
theorem GuideNetleastOf_1_v1_ok : ∀ {fu : Nat} {w : World} {s : Sg} {R : List HP} {pb0 : Nat} {pb1 : Nat} {pb2 : Nat} {pb3 : Nat} {pb4 : Nat} {x0 : List GuideRide} {a0 : Option Addr} {c0 : Nat} {y0 : GuideNet} {a_y0_0 : Option Addr} {c_y0_0 : Nat} {a_y0_1 : Option Addr} {c_y0_1 : Nat} {y1 : GuidePoint} {y2 : Int} {y3_0 : List (Ar3i64 × Bool)} {b_v0 : Nat} (_hS : St w s (pc pb0 #[.slice a_y0_0 y0.Day.Trains.length c_y0_0, .slice a_y0_1 y0.Day.Turns.length c_y0_1, vi y0.least] 91 :: pc pb1 #[vi y1.Dep, vi y1.Arr, vi y1.Rides] 216 :: pc pb2 #[vi y2] 3 :: pc pb3 #[.map (some b_v0)] 269 :: pc pb4 #[.func (.func 170) #[] #[pp pb0, pp pb1, pp pb2, pp pb3, pp pb4]] 107 :: mapC keyAr3i64.f Value.bool b_v0 y3_0 :: R)) (_h0 : Sl 3 RGuideRide s a0 c0 x0) (_h_y0_0 : Sl 4 RApiTrain s a_y0_0 c_y0_0 y0.Day.Trains) (_h_y0_1 : Sl 1 (RL 1 (RI .i64)) s a_y0_1 c_y0_1 y0.Day.Turns) {r : (List GuideRide) × (List (Ar3i64 × Bool))} (_hr : GuideNetleastOf_1_v1 fu x0 y0 y1 y2 y3_0 = some r),
  Calls Tryz.prog 170 [.slice a0 x0.length c0, pp pb0, pp pb1, pp pb2, pp pb3, pp pb4].toArray w (fun e w => ∃ (a0 : Option Addr) (c0 : Nat) (t : Sg), e = .returned (.slice a0 r.1.length c0) ∧ s.Le t ∧ Sl 3 RGuideRide t a0 c0 r.1 ∧ (r.1 = [] → a0 = none) ∧ St w t (pc pb0 #[.slice a_y0_0 y0.Day.Trains.length c_y0_0, .slice a_y0_1 y0.Day.Turns.length c_y0_1, vi y0.least] 91 :: pc pb1 #[vi y1.Dep, vi y1.Arr, vi y1.Rides] 216 :: pc pb2 #[vi y2] 3 :: pc pb3 #[.map (some b_v0)] 269 :: pc pb4 #[.func (.func 170) #[] #[pp pb0, pp pb1, pp pb2, pp pb3, pp pb4]] 107 :: mapC keyAr3i64.f Value.bool b_v0 r.2 :: R)) := by
 intro fu
 induction fu with
 | zero => intro w s R pb0 pb1 pb2 pb3 pb4 x0 a0 c0 y0 a_y0_0 c_y0_0 a_y0_1 c_y0_1 y1 y2 y3_0 b_v0 hS h0 h_y0_0 h_y0_1 r hr; rw [GuideNetleastOf_1_v1] at hr; exact absurd hr (by simp)
 | succ fu ih_GuideNetleastOf_1_v1 =>
  intro w s R pb0 pb1 pb2 pb3 pb4 x0 a0 c0 y0 a_y0_0 c_y0_0 a_y0_1 c_y0_1 y1 y2 y3_0 b_v0 hS h0 h_y0_0 h_y0_1 r hr
  rw [GuideNetleastOf_1_v1] at hr
  generalize GuideNetleastOf_1_v1 fu = self_GuideNetleastOf_1_v1 at hr ih_GuideNetleastOf_1_v1
  refine enter Tryz.func170 rfl rfl rfl fun a hE => ?_
  refine W.seq (W.region ?_)
  refine WL.box hE hS (runs_plain rfl) rfl rfl rfl ?_; clear hE hS a w; intro b53 a w hE hS
  refine WL.alloc hE hS (runs_plain rfl) zr27 rfl ?_; clear hE hS a w; intro b54 a w hE hS
  refine WL.nil ?_
  refine W.seq (W.region (vP hS hE (Gives.loadB hE 1 rfl rfl rfl ty27) rfl fun a hE => ?_))
  refine vP hS hE (Gives.loadB hE 1 rfl rfl rfl ty27) rfl fun a hE => ?_
  refine vP hS hE (Gives.len hE rfl sl27) rfl fun a hE => ?_
  refine vp hS hE rfl rfl fun a hE => ?_
  obtain ⟨x55, hx56, hr⟩ := bindS hr
  obtain ⟨hi57, hlt58, hy59⟩ := gx_some hx56
  obtain ⟨cs60, hl61, hR62, hat63⟩ := h0.at hy59
  subst hR62
  refine vP hS hE (Gives.idx hE (w64 (((x0).length : Int) - 1)).toNat rfl rfl sl27 hi57 hlt58 (h0.aok hlt58)) rfl fun a hE => ?_
  refine vP hS hE (Gives.loadA hE rfl (fun w h => hat63 w _ h) ty95) rfl fun a hE => ?_
  refine WL.alloc hE hS (runs_plain rfl) zr95 rfl ?_; clear hE hS a w; intro b64 a w hE hS
  refine WL.storeI hE hS 0 rfl (GuideRide.cells x55) (runs_plain rfl) rfl rfl rfl ty95 rfl rfl rfl rfl ?_; clear hE hS a w; intro a w hE hS
  refine WL.nil ?_
  refine W.seq (W.region (vP hS hE (Gives.loadBA hE 3 rfl rfl ty91) rfl fun a hE => ?_))
  refine vP hS hE (Gives.loadBA hE 0 rfl rfl ty95) rfl fun a hE => ?_
  obtain ⟨q65, hq66, hr⟩ := bindS hr
  have hc_ := GuideNetoff_ok hS h_y0_0 h_y0_1 hq66
  refine WL.fnq hE (hc_) (runs_plain rfl) bd43 rfl rfl rfl ?_
  clear hE hS hc_; rintro e w ⟨cs67, s69, rfl, hle70, h68, hS⟩; refine ⟨_, rfl, ?_⟩; clear a; intro a hE
  replace h0 := Sl.mono RGuideRide.mono hle70 h0
  replace h_y0_0 := Sl.mono RApiTrain.mono hle70 h_y0_0
  replace h_y0_1 := Sl.mono (RL.mono RI.mono) hle70 h_y0_1
  subst h68
  refine WL.alloc hE hS (runs_plain rfl) zr99 rfl ?_; clear hE hS a w; intro b71 a w hE hS
  refine WL.storeI hE hS 0 rfl (ApiStop.cells q65) (runs_plain rfl) rfl rfl rfl ty99 rfl rfl rfl rfl ?_; clear hE hS a w; intro a w hE hS
  refine WL.nil ?_
  refine W.seq (W.region (vP hS hE (Gives.fld hE rfl fl216_2) rfl fun a hE => ?_))
  refine vP hS hE (Gives.loadB hE 5 rfl rfl rfl ty3) rfl fun a hE => ?_
  refine vP hS hE (Gives.loadB hE 3 rfl rfl rfl ty27) rfl fun a hE => ?_
  refine vP hS hE (Gives.len hE rfl sl27) rfl fun a hE => ?_
  refine v2 hS hE rfl rfl rfl rfl fun a hE => WL.nil ?_
  refine W.seq ?_
  refine W.seq (W.region (v2 hS hE rfl rfl rfl rfl fun a hE => WL.nil ?_))
  refine W.cond hE rfl (fun hc72 => ?_) (fun hc72 => ?_)
  ·replace hr := iteT hc72 hr
   refine W.seq ?_
   refine W.seq ?_
   obtain ⟨q74, hq73, hr⟩ := bndS hr
   refine W.cut (fun a w => ∃ (q77 : Bool), q77 = q74 ∧ Rep a 74 [(6, pp b53), (7, pp b54), (40, .bool q77)] ∧ St w s69 (pc b71 (ApiStop.cells q65).toArray 99 :: pc b64 (GuideRide.cells x55).toArray 95 :: pc b54 #[.slice none 0 0] 27 :: pc b53 #[.slice a0 x0.length c0] 27 :: pc pb0 #[.slice a_y0_0 y0.Day.Trains.length c_y0_0, .slice a_y0_1 y0.Day.Turns.length c_y0_1, vi y0.least] 91 :: pc pb1 #[vi y1.Dep, vi y1.Arr, vi y1.Rides] 216 :: pc pb2 #[vi y2] 3 :: pc pb3 #[.map (some b_v0)] 269 :: pc pb4 #[.func (.func 170) #[] #[pp pb0, pp pb1, pp pb2, pp pb3, pp pb4]] 107 :: mapC keyAr3i64.f Value.bool b_v0 y3_0 :: R)) ?_ ?_
   ·refine W.gen fun K78 hK78 => ?_
    refine W.region ?_
    refine vP hS hE (Gives.fld hE rfl fl99_0) rfl fun a hE => ?_
    refine vP hS hE (Gives.loadB hE 0 rfl rfl rfl ty3) rfl fun a hE => ?_
    refine vP hS hE (Gives.loadB hE 6 rfl rfl rfl ty3) rfl fun a hE => ?_
    refine v2 hS hE rfl rfl rfl rfl fun a hE => ?_
    rcases Bool.eq_false_or_eq_true (q65.Station == y2) with hg79 | hg79
    ·replace hq73 := iteT hg79 hq73
     refine WL.vS hS hE (runs_if hE rfl rfl rfl hg79) (Gives.fld hE rfl fl99_2) rfl fun a hE => ?_
     refine WL.vS hS hE (runs_if hE rfl rfl rfl hg79) (Gives.loadB hE 0 rfl rfl rfl ty3) rfl fun a hE => ?_
     refine WL.vS hS hE (runs_if hE rfl rfl rfl hg79) (Gives.fld hE rfl fl216_1) rfl fun a hE => ?_
     refine WL.vS hS hE (runs_if hE rfl rfl rfl hg79) (Gives.loadB hE 5 rfl rfl rfl ty3) rfl fun a hE => ?_
     refine WL.vS hS hE (runs_if hE rfl rfl rfl hg79) (Gives.p hE rfl) rfl fun a hE => ?_
     refine vP hS hE (Gives.pickT hE rfl hg79 rfl) rfl fun a hE => WL.nil ?_
     subst hK78
     exact ⟨(q65.Arr == y1.Arr), hq73, hE.pick _ ⟨rfl, rfl, rfl, trivial⟩, hS⟩
    replace hq73 := iteF hg79 hq73
    refine nO hE rfl rfl rfl (by rw [hg79]; decide) rfl fun a hE => ?_
    refine nO hE rfl rfl rfl (by rw [hg79]; decide) rfl fun a hE => ?_
    refine nO hE rfl rfl rfl (by rw [hg79]; decide) rfl fun a hE => ?_
    refine nO hE rfl rfl rfl (by rw [hg79]; decide) rfl fun a hE => ?_
    refine nO hE rfl rfl rfl (by rw [hg79]; decide) rfl fun a hE => ?_
    refine vP hS hE (Gives.pickF hE rfl hg79 rfl) rfl fun a hE => WL.nil ?_
    subst hK78
    exact ⟨false, hq73, hE.pick _ ⟨rfl, rfl, rfl, trivial⟩, hS⟩
   clear hE hS a w; rintro a w ⟨q77, rfl, hE, hS⟩
   refine W.cond hE rfl (fun hc80 => ?_) (fun hc80 => ?_)
   ·replace hr := iteT hc80 hr
    refine W.seq (W.region (vP hS hE (Gives.loadB hE 3 rfl rfl rfl ty27) rfl fun a hE => ?_))
    obtain ⟨_, hx81, hr⟩ := bindS hr
    refine WL.storeI hE hS 2 rfl [.slice a0 x0.length c0] (runs_plain rfl) rfl rfl rfl ty27 rfl rfl rfl rfl ?_; clear hE hS a w; intro a w hE hS
    refine WL.nil ?_
    refine W.ret ?_
    refine finG (fn := Tryz.f170) (rs := [.cell 7 27]) (vs := [_]) hE rfl ⟨⟨_, rfl, .inr ⟨hS.seesAt 2 rfl, ty27⟩⟩, trivial⟩ ?_
    obtain rfl := Option.some.inj hr
    replace hS := hS.tail
    replace hS := hS.tail
    replace hS := hS.tail
    replace hS := hS.tail
    exact ⟨a0, c0, s69, rfl, hle70, h0, (nz_some hx81), hS⟩
   replace hr := iteF hc80 hr
   refine W.skip ?_
   refine W.seq (W.region ?_)
   refine WL.storeI hE hS 2 rfl [.slice none 0 0] (runs_plain rfl) rfl rfl rfl ty27 rfl rfl rfl rfl ?_; clear hE hS a w; intro a w hE hS
   refine WL.nil ?_
   refine W.ret ?_
   refine finG (fn := Tryz.f170) (rs := [.cell 7 27]) (vs := [_]) hE rfl ⟨⟨_, rfl, .inr ⟨hS.seesAt 2 rfl, ty27⟩⟩, trivial⟩ ?_
   obtain rfl := Option.some.inj hr
   replace hS := hS.tail
   replace hS := hS.tail
   replace hS := hS.tail
   replace hS := hS.tail
   exact ⟨none, 0, s69, rfl, hle70, Sl.nil, (fun _ => rfl), hS⟩
  replace hr := iteF hc72 hr
  refine W.skip ?_
  refine W.seq (W.region (vP hS hE (Gives.fld hE rfl fl95_0) rfl fun a hE => ?_))
  refine vP hS hE (Gives.loadB hE 1 rfl rfl rfl ty3) rfl fun a hE => ?_
  refine vP hS hE (Gives.fld hE rfl fl95_2) rfl fun a hE => ?_
  refine vP hS hE (Gives.loadB hE 1 rfl rfl rfl ty3) rfl fun a hE => ?_
  refine vp hS hE rfl rfl fun a hE => ?_
  refine vP hS hE (Gives.build hE (vs := [(0, vi x55.Train), (1, vi x55.Off), (2, vi (w64 (y1.Rides - ((x0).length : Int))))]) [vi x55.Train, vi x55.Off, vi (w64 (y1.Rides - ((x0).length : Int)))] rfl (by kernel_rfl)) rfl fun a hE => ?_
  refine WL.alloc hE hS (runs_plain rfl) zr270 rfl ?_; clear hE hS a w; intro b82 a w hE hS
  refine WL.storeI hE hS 0 rfl [vi x55.Train, vi x55.Off, vi (w64 (y1.Rides - ((x0).length : Int)))] (runs_plain rfl) rfl rfl rfl ty270 rfl rfl rfl rfl ?_; clear hE hS a w; intro a w hE hS
  refine WL.nil ?_
  refine W.seq ?_
  refine W.seq ?_
  obtain ⟨q84, hq83, hr⟩ := bndS hr
  refine W.cut (fun a w => ∃ (q87 : Bool), q87 = q84 ∧ Rep a 74 [(1, pp pb0), (4, pp pb3), (5, pp pb4), (6, pp b53), (7, pp b54), (8, pp b64), (11, pp b82), (57, .bool q87)] ∧ St w s69 (pc b82 #[vi x55.Train, vi x55.Off, vi (w64 (y1.Rides - ((x0).length : Int)))] 270 :: pc b71 (ApiStop.cells q65).toArray 99 :: pc b64 (GuideRide.cells x55).toArray 95 :: pc b54 #[.slice none 0 0] 27 :: pc b53 #[.slice a0 x0.length c0] 27 :: pc pb0 #[.slice a_y0_0 y0.Day.Trains.length c_y0_0, .slice a_y0_1 y0.Day.Turns.length c_y0_1, vi y0.least] 91 :: pc pb1 #[vi y1.Dep, vi y1.Arr, vi y1.Rides] 216 :: pc pb2 #[vi y2] 3 :: pc pb3 #[.map (some b_v0)] 269 :: pc pb4 #[.func (.func 170) #[] #[pp pb0, pp pb1, pp pb2, pp pb3, pp pb4]] 107 :: mapC keyAr3i64.f Value.bool b_v0 y3_0 :: R)) ?_ ?_
  ·refine W.gen fun K88 hK88 => ?_
   refine W.region ?_
   refine vP hS hE (Gives.loadB hE 8 rfl rfl rfl ty269) rfl fun a hE => ?_
   refine vP hS hE (Gives.loadBA hE 0 rfl rfl ty270) rfl fun a hE => ?_
   refine vP hS hE (Gives.mapGetG (KeyS.arr keyAr3i64 rfl arS_270) hE 10 (k := (Ar3i64.mk x55.Train x55.Off (w64 (y1.Rides - ((x0).length : Int))))) (z := false) rfl rfl rfl um269 zm4) rfl fun a hE => ?_
   refine vp hS hE rfl rfl fun a hE => ?_
   rcases Bool.eq_false_or_eq_true ((mget y3_0 (Ar3i64.mk x55.Train x55.Off (w64 (y1.Rides - ((x0).length : Int))))).getD false) with hg89 | hg89
   ·replace hq83 := iteT hg89 hq83
    refine nO hE rfl rfl rfl (by rw [hg89]; decide) rfl fun a hE => ?_
    refine nO hE rfl rfl rfl (by rw [hg89]; decide) rfl fun a hE => ?_
    refine nO hE rfl rfl rfl (by rw [hg89]; decide) rfl fun a hE => ?_
    refine nO hE rfl rfl rfl (by rw [hg89]; decide) rfl fun a hE => ?_
    refine nO hE rfl rfl rfl (by rw [hg89]; decide) rfl fun a hE => ?_
    refine vP hS hE (Gives.pickT hE rfl hg89 rfl) rfl fun a hE => WL.nil ?_
    subst hK88
    exact ⟨true, hq83, hE.pick _ ⟨rfl, rfl, rfl, rfl, rfl, rfl, rfl, rfl, trivial⟩, hS⟩
   replace hq83 := iteF hg89 hq83
   refine WL.vS hS hE (runs_if hE rfl rfl rfl hg89) (Gives.fld hE rfl fl99_2) rfl fun a hE => ?_
   refine WL.vS hS hE (runs_if hE rfl rfl rfl hg89) (Gives.loadB hE 1 rfl rfl rfl ty3) rfl fun a hE => ?_
   refine WL.vS hS hE (runs_if hE rfl rfl rfl hg89) (Gives.fld hE rfl fl216_1) rfl fun a hE => ?_
   refine WL.vS hS hE (runs_if hE rfl rfl rfl hg89) (Gives.loadB hE 6 rfl rfl rfl ty3) rfl fun a hE => ?_
   refine WL.vS hS hE (runs_if hE rfl rfl rfl hg89) (Gives.p hE rfl) rfl fun a hE => ?_
   refine vP hS hE (Gives.pickF hE rfl hg89 rfl) rfl fun a hE => WL.nil ?_
   subst hK88
   exact ⟨decide (q65.Arr > y1.Arr), hq83, hE.pick _ ⟨rfl, rfl, rfl, rfl, rfl, rfl, rfl, rfl, trivial⟩, hS⟩
  clear hE hS a w; rintro a w ⟨q87, rfl, hE, hS⟩
  refine W.cond hE rfl (fun hc90 => ?_) (fun hc90 => ?_)
  ·replace hr := iteT hc90 hr
   refine W.seq (W.region ?_)
   refine WL.storeI hE hS 3 rfl [.slice none 0 0] (runs_plain rfl) rfl rfl rfl ty27 rfl rfl rfl rfl ?_; clear hE hS a w; intro a w hE hS
   refine WL.nil ?_
   refine W.ret ?_
   refine finG (fn := Tryz.f170) (rs := [.cell 7 27]) (vs := [_]) hE rfl ⟨⟨_, rfl, .inr ⟨hS.seesAt 3 rfl, ty27⟩⟩, trivial⟩ ?_
   obtain rfl := Option.some.inj hr
   replace hS := hS.tail
   replace hS := hS.tail
   replace hS := hS.tail
   replace hS := hS.tail
   replace hS := hS.tail
   exact ⟨none, 0, s69, rfl, hle70, Sl.nil, (fun _ => rfl), hS⟩
  replace hr := iteF hc90 hr
  refine W.skip ?_
  refine W.seq ?_
  refine W.seq (W.region (vP hS hE (Gives.loadBA hE 5 rfl rfl ty91) rfl fun a hE => ?_))
  refine vP hS hE (Gives.loadBA hE 2 rfl rfl ty95) rfl fun a hE => ?_
  obtain ⟨q91, hq92, hr⟩ := bindS hr
  have hc_ := GuideNetbehind_ok hS h_y0_0 h_y0_1 hq92
  refine WL.fnq hE (hc_) (runs_plain rfl) bd47 rfl rfl rfl ?_
  clear hE hS hc_; rintro e w ⟨lb93, s95, rfl, hle96, h94, hS⟩; refine ⟨_, rfl, ?_⟩; clear a; intro a hE
  replace h_y0_0 := Sl.mono RApiTrain.mono hle96 h_y0_0
  replace h_y0_1 := Sl.mono (RL.mono RI.mono) hle96 h_y0_1
  replace h0 := Sl.mono RGuideRide.mono hle96 h0
  refine WL.nil ?_
  refine W.block ?_
  obtain ⟨q98, hq97, hr⟩ := bindS hr
  refine W.cut (fun a w => ∃ (q110 : List GuideRide), ∃ (q115 : List (Ar3i64 × Bool)), ∃ (a111 : Option Addr), ∃ (c112 : Nat), ∃ (D104 : Nat) (s108 : Sg), s95.Le s108 ∧ (.next (q110, q115)) = q98 ∧ Sl 3 RGuideRide s108 a111 c112 q110 ∧ (q110 = [] → a111 = none) ∧ Rep a 74 [(4, pp pb3), (7, pp b54), (11, pp b82), (4294967295, vi (D104 : Nat))] ∧ St w s108 (pt D104 (.deferred (some [])) :: pc b82 #[vi x55.Train, vi x55.Off, vi (w64 (y1.Rides - ((x0).length : Int)))] 270 :: pc b71 (ApiStop.cells q65).toArray 99 :: pc b64 (GuideRide.cells x55).toArray 95 :: pc b54 #[.slice a111 q110.length c112] 27 :: pc b53 #[.slice a0 x0.length c0] 27 :: pc pb0 #[.slice a_y0_0 y0.Day.Trains.length c_y0_0, .slice a_y0_1 y0.Day.Turns.length c_y0_1, vi y0.least] 91 :: pc pb1 #[vi y1.Dep, vi y1.Arr, vi y1.Rides] 216 :: pc pb2 #[vi y2] 3 :: pc pb3 #[.map (some b_v0)] 269 :: pc pb4 #[.func (.func 170) #[] #[pp pb0, pp pb1, pp pb2, pp pb3, pp pb4]] 107 :: mapC keyAr3i64.f Value.bool b_v0 q115 :: R)) ?_ ?_
  ·refine W.rangeFunc (l := q91) (ps := [61]) [] rfl hE rfl hS rfl h94 bd100 (fun _ => rfl) rfl (fun pre101 s108 Q_ => ∃ (rest100 : List GuideRide), ∃ (q110 : List GuideRide), ∃ (q115 : List (Ar3i64 × Bool)), ∃ (a111 : Option Addr), ∃ (c112 : Nat), q91 = pre101 ++ rest100 ∧ GuideNetleastOf_1_v1.loop1 x0 y0 y1 y2 self_GuideNetleastOf_1_v1 rest100 q110 q115 = some q98 ∧ s95.Le s108 ∧ Sl 3 RGuideRide s108 a111 c112 q110 ∧ (q110 = [] → a111 = none) ∧ Q_ = pc b82 #[vi x55.Train, vi x55.Off, vi (w64 (y1.Rides - ((x0).length : Int)))] 270 :: pc b71 (ApiStop.cells q65).toArray 99 :: pc b64 (GuideRide.cells x55).toArray 95 :: pc b54 #[.slice a111 q110.length c112] 27 :: pc b53 #[.slice a0 x0.length c0] 27 :: pc pb0 #[.slice a_y0_0 y0.Day.Trains.length c_y0_0, .slice a_y0_1 y0.Day.Turns.length c_y0_1, vi y0.least] 91 :: pc pb1 #[vi y1.Dep, vi y1.Arr, vi y1.Rides] 216 :: pc pb2 #[vi y2] 3 :: pc pb3 #[.map (some b_v0)] 269 :: pc pb4 #[.func (.func 170) #[] #[pp pb0, pp pb1, pp pb2, pp pb3, pp pb4]] 107 :: mapC keyAr3i64.f Value.bool b_v0 q115 :: R) (fun _ s108 Q_ => ∃ (q110 : List GuideRide), ∃ (q115 : List (Ar3i64 × Bool)), ∃ (a111 : Option Addr), ∃ (c112 : Nat), (.ret (q110, q115)) = q98 ∧ s95.Le s108 ∧ Sl 3 RGuideRide s108 a111 c112 q110 ∧ (q110 = [] → a111 = none) ∧ Q_ = pc b82 #[vi x55.Train, vi x55.Off, vi (w64 (y1.Rides - ((x0).length : Int)))] 270 :: pc b71 (ApiStop.cells q65).toArray 99 :: pc b64 (GuideRide.cells x55).toArray 95 :: pc b54 #[.slice a111 q110.length c112] 27 :: pc b53 #[.slice a0 x0.length c0] 27 :: pc pb0 #[.slice a_y0_0 y0.Day.Trains.length c_y0_0, .slice a_y0_1 y0.Day.Turns.length c_y0_1, vi y0.least] 91 :: pc pb1 #[vi y1.Dep, vi y1.Arr, vi y1.Rides] 216 :: pc pb2 #[vi y2] 3 :: pc pb3 #[.map (some b_v0)] 269 :: pc pb4 #[.func (.func 170) #[] #[pp pb0, pp pb1, pp pb2, pp pb3, pp pb4]] 107 :: mapC keyAr3i64.f Value.bool b_v0 q115 :: R) (fun _ _ _ h => (by obtain ⟨rest100, q110, q115, a111, c112, _, _, hle_, _⟩ := h; exact hle_)) ⟨q91, [], y3_0, none, 0, rfl, hq97, Sg.Le.refl _, Sl.nil, (fun _ => rfl), rfl⟩ (fun x99 (b116 : Nat) => [(5, pp pb4), (6, pp b53), (7, pp b54), (12, pp b116)]) (fun x99 (b116 : Nat) => [pc b116 (GuideRide.cells x99).toArray 95]) ?_ ?_ ?_ ?_
   ·intro x99 a w t107 R L105 hE hS
    refine W.region ?_
    refine WL.alloc hE hS (runs_plain rfl) zr95 rfl ?_; clear hE hS a w; intro b116 a w hE hS
    refine WL.storeI hE hS 0 rfl (GuideRide.cells x99) (runs_plain rfl) rfl rfl rfl ty95 rfl rfl rfl rfl ?_; clear hE hS a w; intro a w hE hS
    refine WL.nil ?_
    exact ⟨b116, hE.pick _ ⟨rfl, rfl, rfl, rfl, trivial⟩, hS⟩
   ·intro pre101 x99 b116 s108 Q_ T_ L105 a w hpre_ hI_ hE hS
    obtain ⟨rest100, q110, q115, a111, c112, hl102, hq97, hle109, h113, hz114, rfl⟩ := hI_
    obtain ⟨rest100, rfl⟩ := pre_next hl102 hpre_
    rw [GuideNetleastOf_1_v1.loop1] at hq97
    replace hS : St w s108 (pc b116 (GuideRide.cells x99).toArray 95 :: pc b82 #[vi x55.Train, vi x55.Off, vi (w64 (y1.Rides - ((x0).length : Int)))] 270 :: pc b71 (ApiStop.cells q65).toArray 99 :: pc b64 (GuideRide.cells x55).toArray 95 :: pc b54 #[.slice a111 q110.length c112] 27 :: pc b53 #[.slice a0 x0.length c0] 27 :: pc pb0 #[.slice a_y0_0 y0.Day.Trains.length c_y0_0, .slice a_y0_1 y0.Day.Turns.length c_y0_1, vi y0.least] 91 :: pc pb1 #[vi y1.Dep, vi y1.Arr, vi y1.Rides] 216 :: pc pb2 #[vi y2] 3 :: pc pb3 #[.map (some b_v0)] 269 :: pc pb4 #[.func (.func 170) #[] #[pp pb0, pp pb1, pp pb2, pp pb3, pp pb4]] 107 :: mapC keyAr3i64.f Value.bool b_v0 q115 :: (R ++ T_)) := hS
    generalize hT117 : R ++ T_ = R at hS
    refine W.gen fun K118 hK118 => ?_
    replace h_y0_0 := Sl.mono RApiTrain.mono hle109 h_y0_0
    replace h_y0_1 := Sl.mono (RL.mono RI.mono) hle109 h_y0_1
    replace h94 := Iter.mono hle109 h94
    replace h0 := Sl.mono RGuideRide.mono hle109 h0
    refine W.block ?_
    refine W.seq ?_
    refine W.gen fun K119 hK119 => ?_
    refine W.regionE (sel (fun w => St w s108 (pc b116 (GuideRide.cells x99).toArray 95 :: pc b82 #[vi x55.Train, vi x55.Off, vi (w64 (y1.Rides - ((x0).length : Int)))] 270 :: pc b71 (ApiStop.cells q65).toArray 99 :: pc b64 (GuideRide.cells x55).toArray 95 :: pc b54 #[.slice a111 q110.length c112] 27 :: pc b53 #[.slice a0 x0.length c0] 27 :: pc pb0 #[.slice a_y0_0 y0.Day.Trains.length c_y0_0, .slice a_y0_1 y0.Day.Turns.length c_y0_1, vi y0.least] 91 :: pc pb1 #[vi y1.Dep, vi y1.Arr, vi y1.Rides] 216 :: pc pb2 #[vi y2] 3 :: pc pb3 #[.map (some b_v0)] 269 :: pc pb4 #[.func (.func 170) #[] #[pp pb0, pp pb1, pp pb2, pp pb3, pp pb4]] 107 :: mapC keyAr3i64.f Value.bool b_v0 q115 :: R)) (fun w => St w s108 (pc b116 (GuideRide.cells x99).toArray 95 :: pc b82 #[vi x55.Train, vi x55.Off, vi (w64 (y1.Rides - ((x0).length : Int)))] 270 :: pc b71 (ApiStop.cells q65).toArray 99 :: pc b64 (GuideRide.cells x55).toArray 95 :: pc b54 #[.slice a111 q110.length c112] 27 :: pc b53 #[.slice a0 x0.length c0] 27 :: pc pb0 #[.slice a_y0_0 y0.Day.Trains.length c_y0_0, .slice a_y0_1 y0.Day.Turns.length c_y0_1, vi y0.least] 91 :: pc pb1 #[vi y1.Dep, vi y1.Arr, vi y1.Rides] 216 :: pc pb2 #[vi y2] 3 :: pc pb3 #[.map (some b_v0)] 269 :: pc pb4 #[.func (.func 170) #[] #[pp pb0, pp pb1, pp pb2, pp pb3, pp pb4]] 107 :: R))) (fun b i => cond b ([0, 1, 2, 3, 4, 5, 7].contains i) ([0, 1, 2, 3, 4, 5, 6, 7].contains i)) mixed ?_
    replace hS := hS.drew
    refine tT (i := 0) true rfl hE rfl (by kernel_rfl) (Gives.loadB hE 10 rfl rfl rfl ty107) rfl hS (hS.dropAt 11) fun a hE => ?_
    have hT := tw_sel (A := fun w => St w s108 _) (B := fun w => St w s108 _) (w := _) (x := true) (y := true) (fun _ => hS) (fun _ => (hS.dropAt 11))
    have hF := hS; replace hS := (hS.dropAt 11)
    refine Rg.take (i := 1) false rfl hE rfl (by kernel_rfl) (runs_plain rfl) (Gives.loadB hE 5 rfl rfl rfl ty27) rfl hT fun a hE => ?_
    replace hS := hF; clear hF hT
    have hT := tw_sel (A := fun w => St w s108 _) (B := fun w => St w s108 _) (w := _) (x := true) (y := true) (fun _ => hS) (fun _ => (hS.dropAt 11))
    have hF := hS; replace hS := (hS.dropAt 11)
    refine Rg.take (i := 3) false rfl hE rfl (by kernel_rfl) (runs_plain rfl) (Gives.loadBA hE 0 rfl rfl ty95) rfl hT fun a hE => ?_
    replace hS := hF; clear hF hT
    obtain ⟨q120, hq121, hq97⟩ := bindS hq97
    obtain ⟨x129, hx130, hq97⟩ := bindS hq97
    obtain ⟨q141, hq142, hq97⟩ := bindS hq97
    suffices key : ∀ s147 a143 c144 F135 (a : Act) (w : World), s108.Le s147 → Sl 3 RGuideRide s147 a143 c144 q141.1 → (q141.1 = [] → a143 = none) → Sl 4 RApiTrain s147 a_y0_0 c_y0_0 y0.Day.Trains → Sl 1 (RL 1 (RI .i64)) s147 a_y0_1 c_y0_1 y0.Day.Turns → Sl 3 RGuideRide s147 a111 c112 q110 → (q110 = [] → a111 = none) → Sl 3 RGuideRide s147 a0 c0 x0 → Rep a 74 [(7, pp b54), (13, .slice a143 q141.1.length c144)] → St w s147 (pc pb0 #[.slice a_y0_0 y0.Day.Trains.length c_y0_0, .slice a_y0_1 y0.Day.Turns.length c_y0_1, vi y0.least] 91 :: pc pb1 #[vi y1.Dep, vi y1.Arr, vi y1.Rides] 216 :: pc pb2 #[vi y2] 3 :: pc pb3 #[.map (some b_v0)] 269 :: pc pb4 #[.func (.func 170) #[] #[pp pb0, pp pb1, pp pb2, pp pb3, pp pb4]] 107 :: mapC keyAr3i64.f Value.bool b_v0 q141.2 :: F135 :: pc b116 (GuideRide.cells x99).toArray 95 :: pc b82 #[vi x55.Train, vi x55.Off, vi (w64 (y1.Rides - ((x0).length : Int)))] 270 :: pc b71 (ApiStop.cells q65).toArray 99 :: pc b64 (GuideRide.cells x55).toArray 95 :: pc b54 #[.slice a111 q110.length c112] 27 :: pc b53 #[.slice a0 x0.length c0] 27 :: R) → K119.nor a w by
     refine Rg.many 2 [4] (by kernel_rfl) ⟨?_, ?_, trivial⟩
     ·refine Br.mk (i := 2) true true rfl (by kernel_rfl) (by kernel_rfl) ?_
      have hc_ := SlicesCloneLguideRide_ok hS h0 hq121
      refine WL.fnq hE (hc_) (runs_plain rfl) bd48 rfl rfl rfl ?_
      clear hE hS hc_; rintro e w ⟨a122, c123, n124, cs125, rfl, h126, rfl, hS⟩; refine ⟨_, rfl, ?_⟩; clear a; intro a hE
      refine WL.nil ?_
      refine ⟨⟨fun _ => (hS.tail), fun _ => ((hS.tail).dropAt 11)⟩, ?_⟩
      refine Rg.one (i := 4) true true rfl (by kernel_rfl) (by kernel_rfl) (by kernel_rfl) ?_
      refine WL.lit hE hS (e := 95) (es := 3) (vs := [(0, .agg (GuideRide.cells x99).toArray)]) (cs := [vi x99.Train, vi x99.On, vi x99.Off]) (runs_plain rfl) rfl (by kernel_rfl) rfl ?_; clear hE hS a w; intro b128 a w hE hS
      refine WL.nil ?_
      refine ⟨⟨fun _ => ((hS.tail).tail), fun _ => (((hS.tail).tail).dropAt 11)⟩, ?_⟩
      refine Rg.one (i := 5) true true rfl (by kernel_rfl) (by kernel_rfl) (by kernel_rfl) ?_
      refine WL.appB hE hS 0 (m := 1) (runs_plain rfl) rfl rfl rfl ap27 rfl h126 rfl (xs := [x99]) (Ev.cons (c1 := [vi x99.Train, vi x99.On, vi x99.Off]) rfl rfl (Ev.nil)) rfl rfl hx130 rfl ?_; clear hE hS a w; intro a131 c132 cs133 F135 a w h134 hb136 hE hS
      refine WL.nil ?_
      refine ⟨⟨fun _ => ((hS.tail).tail), fun _ => (((hS.tail).tail).dropAt 11)⟩, ?_⟩
      refine Rg.one (i := 6) false true rfl (by kernel_rfl) (by kernel_rfl) (by kernel_rfl) ?_
      have hF := hS.fixD RGuideRide.mono 0 rfl h134 (rfl); clear hS; obtain ⟨s138, hle139, hS, h140⟩ := hF
      replace h0 := Sl.mono RGuideRide.mono hle139 h0
      replace h113 := Sl.mono RGuideRide.mono hle139 h113
      replace h_y0_0 := Sl.mono RApiTrain.mono hle139 h_y0_0
      replace h_y0_1 := Sl.mono (RL.mono RI.mono) hle139 h_y0_1
      replace hS := hS.front 12 rfl
      replace hS := hS.front 12 rfl
      replace hS := hS.front 12 rfl
      replace hS := hS.front 12 rfl
      replace hS := hS.front 12 rfl
      replace hS := hS.front 12 rfl
      have hc_ := ih_GuideNetleastOf_1_v1 (y0 := y0) (y1 := y1) hS h140 h_y0_0 h_y0_1 hq142
      refine WL.fnw hE (hc_) rfl (runs_plain rfl) bd170 rfl rfl rfl ?_
      clear hE hS hc_; rintro e w ⟨a143, c144, s147, rfl, hle148, h145, hz146, hS⟩; refine ⟨_, rfl, ?_⟩; clear a; intro a hE
      replace h0 := Sl.mono RGuideRide.mono hle148 h0
      replace h140 := Sl.mono RGuideRide.mono hle148 h140
      replace h_y0_0 := Sl.mono RApiTrain.mono hle148 h_y0_0
      replace h_y0_1 := Sl.mono (RL.mono RI.mono) hle148 h_y0_1
      replace h113 := Sl.mono RGuideRide.mono hle148 h113
      refine WL.nil ?_
      refine ⟨⟨fun h => absurd h (by decide), fun _ => (St.down (Sg.Le.trans hle139 hle148) (St.order ((hS.dropAt 5).dropAt 5) [5, 5, 5, 5, 5, 5, 0, 0, 0, 0, 0] (by kernel_rfl)))⟩, ?_⟩
      refine Rg.takeP (i := 7) hE rfl (by kernel_rfl) (runs_plain rfl) (Gives.p hE rfl) rfl (tw_sel (fun h => absurd h (by decide)) (fun _ => (St.down (Sg.Le.trans hle139 hle148) (St.order ((hS.dropAt 5).dropAt 5) [5, 5, 5, 5, 5, 5, 0, 0, 0, 0, 0] (by kernel_rfl))))) fun a hE => ?_
      refine Rg.done (by kernel_rfl) ?_
      exact key _ _ _ _ _ _ (Sg.Le.trans hle139 hle148) h145 hz146 h_y0_0 h_y0_1 h113 hz114 h0 (hE.pick _ ⟨rfl, rfl, trivial⟩) hS
     refine Br.mk (i := 4) true true rfl (by kernel_rfl) (by kernel_rfl) ?_
     refine WL.lit hE hS (e := 95) (es := 3) (vs := [(0, .agg (GuideRide.cells x99).toArray)]) (cs := [vi x99.Train, vi x99.On, vi x99.Off]) (runs_plain rfl) rfl (by kernel_rfl) rfl ?_; clear hE hS a w; intro b128 a w hE hS
     refine WL.nil ?_
     refine ⟨⟨fun _ => (hS.tail), fun _ => ((hS.tail).dropAt 11)⟩, ?_⟩
     refine Rg.one (i := 2) true true rfl (by kernel_rfl) (by kernel_rfl) (by kernel_rfl) ?_
     have hc_ := SlicesCloneLguideRide_ok hS h0 hq121
     refine WL.fnq hE (hc_) (runs_plain rfl) bd48 rfl rfl rfl ?_
     clear hE hS hc_; rintro e w ⟨a122, c123, n124, cs125, rfl, h126, rfl, hS⟩; refine ⟨_, rfl, ?_⟩; clear a; intro a hE
     refine WL.nil ?_
     refine ⟨⟨fun _ => ((hS.tail).tail), fun _ => (((hS.tail).tail).dropAt 11)⟩, ?_⟩
     refine Rg.one (i := 5) true true rfl (by kernel_rfl) (by kernel_rfl) (by kernel_rfl) ?_
     replace hS := hS.front 1 rfl
     refine WL.appB hE hS 0 (m := 1) (runs_plain rfl) rfl rfl rfl ap27 rfl h126 rfl (xs := [x99]) (Ev.cons (c1 := [vi x99.Train, vi x99.On, vi x99.Off]) rfl rfl (Ev.nil)) rfl rfl hx130 rfl ?_; clear hE hS a w; intro a131 c132 cs133 F135 a w h134 hb136 hE hS
     refine WL.nil ?_
     refine ⟨⟨fun _ => ((hS.tail).tail), fun _ => (((hS.tail).tail).dropAt 11)⟩, ?_⟩
     refine Rg.one (i := 6) false true rfl (by kernel_rfl) (by kernel_rfl) (by kernel_rfl) ?_
     have hF := hS.fixD RGuideRide.mono 0 rfl h134 (rfl); clear hS; obtain ⟨s138, hle139, hS, h140⟩ := hF
     replace h0 := Sl.mono RGuideRide.mono hle139 h0
     replace h113 := Sl.mono RGuideRide.mono hle139 h113
     replace h_y0_0 := Sl.mono RApiTrain.mono hle139 h_y0_0
     replace h_y0_1 := Sl.mono (RL.mono RI.mono) hle139 h_y0_1
     replace hS := hS.front 12 rfl
     replace hS := hS.front 12 rfl
     replace hS := hS.front 12 rfl
     replace hS := hS.front 12 rfl
     replace hS := hS.front 12 rfl
     replace hS := hS.front 12 rfl
     have hc_ := ih_GuideNetleastOf_1_v1 (y0 := y0) (y1 := y1) hS h140 h_y0_0 h_y0_1 hq142
     refine WL.fnw hE (hc_) rfl (runs_plain rfl) bd170 rfl rfl rfl ?_
     clear hE hS hc_; rintro e w ⟨a143, c144, s147, rfl, hle148, h145, hz146, hS⟩; refine ⟨_, rfl, ?_⟩; clear a; intro a hE
     replace h0 := Sl.mono RGuideRide.mono hle148 h0
     replace h140 := Sl.mono RGuideRide.mono hle148 h140
     replace h_y0_0 := Sl.mono RApiTrain.mono hle148 h_y0_0
     replace h_y0_1 := Sl.mono (RL.mono RI.mono) hle148 h_y0_1
     replace h113 := Sl.mono RGuideRide.mono hle148 h113
     refine WL.nil ?_
     refine ⟨⟨fun h => absurd h (by decide), fun _ => (St.down (Sg.Le.trans hle139 hle148) (St.order ((hS.dropAt 5).dropAt 5) [5, 5, 5, 5, 5, 5, 0, 0, 0, 0, 0] (by kernel_rfl)))⟩, ?_⟩
     refine Rg.takeP (i := 7) hE rfl (by kernel_rfl) (runs_plain rfl) (Gives.p hE rfl) rfl (tw_sel (fun h => absurd h (by decide)) (fun _ => (St.down (Sg.Le.trans hle139 hle148) (St.order ((hS.dropAt 5).dropAt 5) [5, 5, 5, 5, 5, 5, 0, 0, 0, 0, 0] (by kernel_rfl))))) fun a hE => ?_
     refine Rg.done (by kernel_rfl) ?_
     exact key _ _ _ _ _ _ (Sg.Le.trans hle139 hle148) h145 hz146 h_y0_0 h_y0_1 h113 hz114 h0 (hE.pick _ ⟨rfl, rfl, trivial⟩) hS
    clear hE hS a w; intro s147 a143 c144 F135 a w hle149 h145 hz146 h_y0_0 h_y0_1 h113 hz114 h0 hE hS
    subst hK119
    refine W.seq (W.region (vp hS hE rfl rfl fun a hE => ?_))
    refine vP hS hE (Gives.notNilZ hE (isNone_eq h145 hz146) rfl rfl isl27) rfl fun a hE => WL.nil ?_
    refine W.cond hE rfl (fun hc150 => ?_) (fun hc150 => ?_)
    ·replace hq97 := iteT hc150 hq97
     refine W.seq (W.region (vp hS hE rfl rfl fun a hE => ?_))
     refine WL.storeI hE hS 11 rfl [.slice a143 q141.1.length c144] (runs_plain rfl) rfl rfl rfl ty27 rfl rfl rfl rfl ?_; clear hE hS a w; intro a w hE hS
     refine WL.nil ?_
     refine W.ret ?_
     subst hK118
     replace hS := hS.dropAt 6
     replace hS := hS.dropAt 6
     replace hS := hS.order [6, 6, 6, 6, 6, 0, 0, 0, 0, 0, 0] rfl
     subst hT117
     exact ⟨s147, _, ⟨q141.1, q141.2, a143, c144, Option.some.inj hq97, (Sg.Le.trans hle109 hle149), h145, hz146, rfl⟩, hS⟩
    replace hq97 := iteF hc150 hq97
    refine W.skip ?_
    replace hS := hS.dropAt 6
    replace hS := hS.dropAt 6
    replace hS := hS.order [6, 6, 6, 6, 6, 0, 0, 0, 0, 0, 0] rfl
    subst hK118
    subst hT117
    exact ⟨s147, _, ⟨rest100, q110, q141.2, a111, c112, hl102.trans (by simp), hq97, (Sg.Le.trans hle109 hle149), h113, hz114, rfl⟩, hS⟩
   ·intro s108 Q_ D104 a w hI_ hE hS
    obtain ⟨rest100, q110, q115, a111, c112, hl102, hq97, hle109, h113, hz114, rfl⟩ := hI_
    obtain rfl := pre_end hl102
    rw [GuideNetleastOf_1_v1.loop1] at hq97
    exact ⟨q110, q115, _, _, D104, s108, hle109, Option.some.inj hq97, h113, hz114, hE.pick _ ⟨rfl, rfl, rfl, rfl, trivial⟩, hS⟩
   intro c_ s108 Q_ D104 a w hc_ hX_ hE hS
   obtain rfl : c_ = .ret := hc_.elim id (fun h => (by obtain ⟨_, h, _⟩ := h; cases h))
   obtain ⟨q110, q115, a111, c112, rfl, hle109, h113, hz114, rfl⟩ := hX_
   dsimp only at hr
   replace h_y0_0 := Sl.mono RApiTrain.mono hle109 h_y0_0
   replace h_y0_1 := Sl.mono (RL.mono RI.mono) hle109 h_y0_1
   replace h94 := Iter.mono hle109 h94
   replace h0 := Sl.mono RGuideRide.mono hle109 h0
   refine W.ret ?_
   refine finGM (fn := Tryz.f170) (rs := [.cell 7 27]) (vs := [.slice a111 q110.length c112]) hE hS 0 rfl rfl ?_
   clear hS; intro w hS
   refine ⟨⟨⟨_, rfl, .inr ⟨hS.seesAt 3 rfl, ty27⟩⟩, trivial⟩, ?_⟩
   obtain rfl := Option.some.inj hr
   replace hS := hS.tail
   replace hS := hS.tail
   replace hS := hS.tail
   replace hS := hS.tail
   replace hS := hS.tail
   exact ⟨a111, c112, s108, rfl, (Sg.Le.trans (Sg.Le.trans hle70 hle96) hle109), h113, hz114, hS⟩
  clear hE hS a w; rintro a w ⟨q110, q115, a111, c112, D104, s108, hle109, rfl, h113, hz114, hE, hS⟩
  dsimp only at hr
  replace h_y0_0 := Sl.mono RApiTrain.mono hle109 h_y0_0
  replace h_y0_1 := Sl.mono (RL.mono RI.mono) hle109 h_y0_1
  replace h94 := Iter.mono hle109 h94
  replace h0 := Sl.mono RGuideRide.mono hle109 h0
  refine W.seq (W.region (vP hS hE (Gives.loadB hE 9 rfl rfl rfl ty269) rfl fun a hE => ?_))
  refine vP hS hE (Gives.loadBA hE 1 rfl rfl ty270) rfl fun a hE => ?_
  refine WL.mapSetG (KeyS.arr keyAr3i64 rfl arS_270) hE hS 11 (k := (Ar3i64.mk x55.Train x55.Off (w64 (y1.Rides - ((x0).length : Int))))) (v := true) (.inl rfl) (runs_plain rfl) rfl rfl rfl rfl um269 rfl ?_; clear hE hS a w; intro a w hE hS
  refine WL.nil ?_
  refine W.seq (W.region ?_)
  refine WL.storeI hE hS 4 rfl [.slice none 0 0] (runs_plain rfl) rfl rfl rfl ty27 rfl rfl rfl rfl ?_; clear hE hS a w; intro a w hE hS
  refine WL.nil ?_
  refine W.ret ?_
  refine finGM (fn := Tryz.f170) (rs := [.cell 7 27]) (vs := [.slice none 0 0]) hE hS 0 rfl rfl ?_
  clear hS; intro w hS
  refine ⟨⟨⟨_, rfl, .inr ⟨hS.seesAt 3 rfl, ty27⟩⟩, trivial⟩, ?_⟩
  obtain rfl := Option.some.inj hr
  replace hS := hS.tail
  replace hS := hS.tail
  replace hS := hS.tail
  replace hS := hS.tail
  replace hS := hS.tail
  exact ⟨none, 0, s108, rfl, (Sg.Le.trans (Sg.Le.trans hle70 hle96) hle109), Sl.nil, (fun _ => rfl), hS⟩
end Go.Proofs.YtpcebngchmgckaaGreatDoor
