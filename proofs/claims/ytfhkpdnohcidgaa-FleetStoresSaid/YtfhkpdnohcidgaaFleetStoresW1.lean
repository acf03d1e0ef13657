/- The walks of the functions that FleetStores reaches: each call comes to what its mirror says. The conditions are those of each contract. -/
import Derived.Test.YtfhkpdnohcidgaaProg
import Derived.Test.YtfhkpdnohcidgaaFleetStoresM
import Derived.Test.YtfhkpdnohcidgaaFpAllF
import Derived.Test.YtfhkpdnohcidgaaFleetStoresS
namespace Go.Proofs.Ytfhkpdnohcidgaa
open Go Go.Fp
theorem ap146 : apOk Try.prog 146 148 3 = true := by kernel_rfl
theorem ap152 : apOk Try.prog 152 154 3 = true := by kernel_rfl
theorem ap25 : apOk Try.prog 25 44 1 = true := by kernel_rfl
theorem ap44 : apOk Try.prog 44 3 1 = true := by kernel_rfl
theorem bd105 : bodied Try.prog 105 = true := by kernel_rfl
theorem bd114 : bodied Try.prog 114 = true := by kernel_rfl
theorem bd116 : bodied Try.prog 116 = true := by kernel_rfl
theorem bd118 : bodied Try.prog 118 = true := by kernel_rfl
theorem bd130 : bodied Try.prog 130 = true := by kernel_rfl
theorem bd24 : bodied Try.prog 24 = true := by kernel_rfl
theorem bd27 : bodied Try.prog 27 = true := by kernel_rfl
theorem bd28 : bodied Try.prog 28 = true := by kernel_rfl
theorem bd29 : bodied Try.prog 29 = true := by kernel_rfl
theorem bd30 : bodied Try.prog 30 = true := by kernel_rfl
theorem bd37 : bodied Try.prog 37 = true := by kernel_rfl
theorem bd41 : bodied Try.prog 41 = true := by kernel_rfl
theorem bd45 : bodied Try.prog 45 = true := by kernel_rfl
theorem bd46 : bodied Try.prog 46 = true := by kernel_rfl
theorem bd71 : bodied Try.prog 71 = true := by kernel_rfl
theorem bd73 : bodied Try.prog 73 = true := by kernel_rfl
theorem bd74 : bodied Try.prog 74 = true := by kernel_rfl
theorem bd75 : bodied Try.prog 75 = true := by kernel_rfl
theorem bd76 : bodied Try.prog 76 = true := by kernel_rfl
theorem bd77 : bodied Try.prog 77 = true := by kernel_rfl
theorem bd78 : bodied Try.prog 78 = true := by kernel_rfl
theorem fl105_0 : fldOk Try.prog 105 0 0 = true := by kernel_rfl
theorem fl105_1 : fldOk Try.prog 105 1 1 = true := by kernel_rfl
theorem fl109_0 : fldOk Try.prog 109 0 0 = true := by kernel_rfl
theorem fl109_1 : fldOk Try.prog 109 1 1 = true := by kernel_rfl
theorem fl148_0 : fldOk Try.prog 148 0 0 = true := by kernel_rfl
theorem fl148_1 : fldOk Try.prog 148 1 1 = true := by kernel_rfl
theorem fl148_2 : fldOk Try.prog 148 2 2 = true := by kernel_rfl
theorem fl154_0 : fldOk Try.prog 154 0 0 = true := by kernel_rfl
theorem fl154_1 : fldOk Try.prog 154 1 1 = true := by kernel_rfl
theorem fl154_2 : fldOk Try.prog 154 2 2 = true := by kernel_rfl
theorem isl44 : isSl Try.prog 44 = true := by kernel_rfl
theorem mixed : Try.prog.follows .mixedOrders = true := by kernel_rfl
theorem mp174 : mpOk Try.prog keyI.ok 174 3 4 = true := by kernel_rfl
theorem sl146 : slOk Try.prog 146 148 3 = true := by kernel_rfl
theorem sl152 : slOk Try.prog 152 154 3 = true := by kernel_rfl
theorem sl25 : slOk Try.prog 25 44 1 = true := by kernel_rfl
theorem sl44 : slOk Try.prog 44 3 1 = true := by kernel_rfl
theorem sl53 : slOk Try.prog 53 105 2 = true := by kernel_rfl
theorem ty105 : tyOk Try.prog 105 true 2 = true := by kernel_rfl
theorem ty109 : tyOk Try.prog 109 true 2 = true := by kernel_rfl
theorem ty148 : tyOk Try.prog 148 true 3 = true := by kernel_rfl
theorem ty154 : tyOk Try.prog 154 true 3 = true := by kernel_rfl
theorem ty25 : tyOk Try.prog 25 false 1 = true := by kernel_rfl
theorem ty3 : tyOk Try.prog 3 false 1 = true := by kernel_rfl
theorem ty4 : tyOk Try.prog 4 false 1 = true := by kernel_rfl
theorem ty44 : tyOk Try.prog 44 false 1 = true := by kernel_rfl
theorem ty51 : tyOk Try.prog 51 false 1 = true := by kernel_rfl
theorem ty53 : tyOk Try.prog 53 false 1 = true := by kernel_rfl
theorem zm4 : (Try.prog.info? 4).bind (fun i => i.zero) = some (Value.bool false) := by kernel_rfl
theorem zr105 : (Try.prog.info? 105).bind (fun i => i.zero.map fun z => z.cells.toList) = some [.int .i64 0, .int .i64 0] := by kernel_rfl
theorem zr109 : (Try.prog.info? 109).bind (fun i => i.zero.map fun z => z.cells.toList) = some [.slice none 0 0, .slice none 0 0] := by kernel_rfl
theorem zr148 : (Try.prog.info? 148).bind (fun i => i.zero.map fun z => z.cells.toList) = some [.int .i64 0, .int .i64 0, .bool false] := by kernel_rfl
theorem zr154 : (Try.prog.info? 154).bind (fun i => i.zero.map fun z => z.cells.toList) = some [.int .i64 0, .int .i64 0, .bool false] := by kernel_rfl
theorem zr3 : (Try.prog.info? 3).bind (fun i => i.zero.map fun z => z.cells.toList) = some [.int .i64 0] := by kernel_rfl
theorem zr44 : (Try.prog.info? 44).bind (fun i => i.zero.map fun z => z.cells.toList) = some [.slice none 0 0] := by kernel_rfl
theorem zr51 : (Try.prog.info? 51).bind (fun i => i.zero.map fun z => z.cells.toList) = some [.nilFunc] := by kernel_rfl
section
open Go.Sort
theorem cmpc_105 (x y : Int) : CmpCompareint x y = Lib.compareInt x y := by
  unfold CmpCompareint CmpisNaNint Lib.compareInt
  simp
set_option maxHeartbeats 1000000 in
theorem sfclo115 (x y : FleetEvent) (W : World) : Calls Try.prog 115 #[.agg (FleetEvent.cells x).toArray, .agg (FleetEvent.cells y).toArray] W fun e w' => e = .returned (.int .i64 (Fleetstored_1 x y)) ∧ ∃ q os', w' = Sort.grow (W.drewN q) os' := by
  have hcon := fun (a b : Int) W' => Try.cmp_Compare_int a b W'
  unfold FleetEvent.cells
  go_enter Try.func115, Try.ntmps115
  go_wp2_with (go_at_call 105; refine (hcon _ _ _).mono ?_; rintro e w' ⟨rfl, rfl⟩)
  go_ret
  exact ⟨congrArg (fun v => Ending.returned (Value.int .i64 v)) (cmpc_105 _ _).symm, 0, _, by rw [alloc_eq_grow, alloc_eq_grow, grow_grow]; rfl⟩
theorem sortC114_115 : SortC Try.prog 114 115 3 :=
  ⟨fun α _ enc hk h1 cf hO blk off cap d w hclo hH hb hsz => AnyQ.slices_SortFunc Try.laysSF114 3 Try.isAgg148 Try.sizeOf148 enc hk h1 cf hO 115 #[] blk off cap d w (enters_of Try.func115 (by kernel_rfl) rfl) (fun m os dk _ x y => hclo x y _) hH hb hsz,
    fun p cap fv w => AnyF.slices_SortFunc_none Try.laysSF114 p cap fv w⟩
theorem itSortF114_115_ok {w : World} {s : Sg} {R : List HP} {a : Option Addr} {c n : Nat} {cs : List Value} {l r : List FleetEvent} (hS : St w s (vecC 148 3 a c n cs :: R)) (h : Ev 3 RFleetEvent s cs l) (hn : l.length = n) (hr : srtF Fleetstored_1 l = some r) :
    Calls Try.prog 114 [.slice a n c, .func (.func 115) #[] #[]].toArray w (fun e w => ∃ (cs0 : List Value), e = .returned (.tuple #[]) ∧ Ev 3 RFleetEvent s cs0 r ∧ r.length = n ∧ St w s (vecC 148 3 a c n cs0 :: R)) :=
  sortF_ok sortC114_115 (cells := FleetEvent.cells) (fun _ => rfl) (fun x v hv => by simp [FleetEvent.cells] at hv; rcases hv with rfl | rfl | rfl <;> rfl) (fun x y W => sfclo115 x y W) (fun _ _ _ h => h) (fun _ _ => rfl) hS h hn hr
end
section
open Go.Sort
set_option maxHeartbeats 1000000 in
theorem sfclo117 (x y : Fishref2Event) (W : World) : Calls Try.prog 117 #[.agg (Fishref2Event.cells x).toArray, .agg (Fishref2Event.cells y).toArray] W fun e w' => e = .returned (.int .i64 (Fishref2Stands_1 x y)) ∧ ∃ q os', w' = Sort.grow (W.drewN q) os' := by
  unfold Fishref2Event.cells
  go_enter Try.func117, Try.ntmps117
  go_wp2
  go_ret
  have hw : ∀ n, w64 n = RowKit.wrap64 n := fun n => by unfold RowKit.wrap64; exact IntKind.wrap_i64 n
  refine ⟨?_, 0, _, by rw [alloc_eq_grow, alloc_eq_grow, grow_grow]; rfl⟩
  unfold Fishref2Stands_1
  try rw [hw]
  rfl
theorem sortC116_117 : SortC Try.prog 116 117 3 :=
  ⟨fun α _ enc hk h1 cf hO blk off cap d w hclo hH hb hsz => AnyQ.slices_SortFunc Try.laysSF116 3 Try.isAgg154 Try.sizeOf154 enc hk h1 cf hO 117 #[] blk off cap d w (enters_of Try.func117 (by kernel_rfl) rfl) (fun m os dk _ x y => hclo x y _) hH hb hsz,
    fun p cap fv w => AnyF.slices_SortFunc_none Try.laysSF116 p cap fv w⟩
theorem itSortF116_117_ok {w : World} {s : Sg} {R : List HP} {a : Option Addr} {c n : Nat} {cs : List Value} {l r : List Fishref2Event} (hS : St w s (vecC 154 3 a c n cs :: R)) (h : Ev 3 RFishref2Event s cs l) (hn : l.length = n) (hr : srtF Fishref2Stands_1 l = some r) :
    Calls Try.prog 116 [.slice a n c, .func (.func 117) #[] #[]].toArray w (fun e w => ∃ (cs0 : List Value), e = .returned (.tuple #[]) ∧ Ev 3 RFishref2Event s cs0 r ∧ r.length = n ∧ St w s (vecC 154 3 a c n cs0 :: R)) :=
  sortF_ok sortC116_117 (cells := Fishref2Event.cells) (fun _ => rfl) (fun x v hv => by simp [Fishref2Event.cells] at hv; rcases hv with rfl | rfl | rfl <;> rfl) (fun x y W => sfclo117 x y W) (fun _ _ _ h => h) (fun _ _ => rfl) hS h hn hr
end
set_option maxHeartbeats 8000000 in
theorem Fleetwithin_ok  {w : World} {s : Sg} {R : List HP} {x0 : Int} {x1 : Int} {x2 : Int} (hS : St w s (R))  {r : Bool} (hr : Fleetwithin x0 x1 x2 = r) :
    Calls Try.prog 37 [.int .i64 x0, .int .i64 x1, .int .i64 x2].toArray w (fun e w => e = .returned (.bool r) ∧ St w s (R)) := by
  refine enter Try.func37 rfl rfl rfl fun a hE => ?_
  rw [Fleetwithin] at hr
  refine W.seq ?_
  refine W.region ?_
  refine WL.vS hS hE (runs_plain rfl) (Gives.p hE rfl) rfl ?_; clear hE a; intro a hE
  refine WL.nil ?_
  refine W.seq ?_
  obtain ⟨q52, hq51, hr⟩ := bndS hr
  refine W.cut (fun a w => ∃ (q55 : Bool), q55 = q52 ∧ Rep a 15 [(6, .bool q55)] ∧ St w s (R)) ?_ ?_
  · refine W.gen fun K56 hK56 => ?_
    refine W.region ?_
    refine WL.vS hS hE (runs_plain rfl) (Gives.p hE rfl) rfl ?_; clear hE a; intro a hE
    refine WL.vS hS hE (runs_plain rfl) (Gives.p hE rfl) rfl ?_; clear hE a; intro a hE
    refine WL.vS hS hE (runs_plain rfl) (Gives.p hE rfl) rfl ?_; clear hE a; intro a hE
    refine WL.vS hS hE (runs_plain rfl) (Gives.p hE rfl) rfl ?_; clear hE a; intro a hE
    rcases Bool.eq_false_or_eq_true (decide (x0 ≥ x1)) with hg57 | hg57
    · replace hq51 := iteT hg57 hq51
      refine WL.vS hS hE (runs_if hE rfl rfl rfl hg57) (Gives.p hE rfl) rfl ?_; clear hE a; intro a hE
      refine WL.vS hS hE (runs_if hE rfl rfl rfl hg57) (Gives.p hE rfl) rfl ?_; clear hE a; intro a hE
      refine WL.vS hS hE (runs_if hE rfl rfl rfl hg57) (Gives.p hE rfl) rfl ?_; clear hE a; intro a hE
      refine WL.vS hS hE (runs_plain rfl) (Gives.pickT hE rfl hg57 rfl) rfl ?_; clear hE a; intro a hE
      refine WL.vS hS hE (runs_plain rfl) (Gives.p hE rfl) rfl ?_; clear hE a; intro a hE
      refine WL.nil ?_
      subst hK56
      exact ⟨decide (x0 ≤ x2), hq51, hE.pick _ ⟨rfl, trivial⟩, hS⟩
    · replace hq51 := iteF hg57 hq51
      refine WL.no hE (runs_not hE rfl rfl rfl (by rw [hg57]; decide)) rfl ?_; clear hE a; intro a hE
      refine WL.no hE (runs_not hE rfl rfl rfl (by rw [hg57]; decide)) rfl ?_; clear hE a; intro a hE
      refine WL.no hE (runs_not hE rfl rfl rfl (by rw [hg57]; decide)) rfl ?_; clear hE a; intro a hE
      refine WL.vS hS hE (runs_plain rfl) (Gives.pickF hE rfl hg57 rfl) rfl ?_; clear hE a; intro a hE
      refine WL.vS hS hE (runs_plain rfl) (Gives.p hE rfl) rfl ?_; clear hE a; intro a hE
      refine WL.nil ?_
      subst hK56
      exact ⟨false, hq51, hE.pick _ ⟨rfl, trivial⟩, hS⟩
  · clear hE hS a w; rintro a w ⟨q55, rfl, hE, hS⟩
    refine W.ret ?_
    refine finG (fn := Try.f37) (rs := [.tmp 6]) (vs := [_]) hE rfl ⟨rfl, trivial⟩ ?_
    subst hr
    exact ⟨rfl, hS⟩
set_option maxHeartbeats 8000000 in
theorem CmpisNaNint_ok  {w : World} {s : Sg} {R : List HP} {x0 : Int} (hS : St w s (R))  {r : Bool} (hr : CmpisNaNint x0 = r) :
    Calls Try.prog 130 [.int .i64 x0].toArray w (fun e w => e = .returned (.bool r) ∧ St w s (R)) := by
  refine enter Try.func130 rfl rfl rfl fun a hE => ?_
  rw [CmpisNaNint] at hr
  refine W.seq ?_
  refine W.region ?_
  refine WL.vS hS hE (runs_plain rfl) (Gives.p hE rfl) rfl ?_; clear hE a; intro a hE
  refine WL.nil ?_
  refine W.seq ?_
  refine W.region ?_
  refine WL.vS hS hE (runs_plain rfl) (Gives.p hE rfl) rfl ?_; clear hE a; intro a hE
  refine WL.vS hS hE (runs_plain rfl) (Gives.p hE rfl) rfl ?_; clear hE a; intro a hE
  refine WL.vS hS hE (runs_plain rfl) (Gives.p hE rfl) rfl ?_; clear hE a; intro a hE
  refine WL.vS hS hE (runs_plain rfl) (Gives.p hE rfl) rfl ?_; clear hE a; intro a hE
  refine WL.nil ?_
  refine W.ret ?_
  refine finG (fn := Try.f130) (rs := [.tmp 2]) (vs := [_]) hE rfl ⟨rfl, trivial⟩ ?_
  subst hr
  exact ⟨rfl, hS⟩
set_option maxHeartbeats 8000000 in
theorem CmpCompareint_ok  {w : World} {s : Sg} {R : List HP} {x0 : Int} {x1 : Int} (hS : St w s (R))  {r : Int} (hr : CmpCompareint x0 x1 = r) :
    Calls Try.prog 105 [.int .i64 x0, .int .i64 x1].toArray w (fun e w => e = .returned (.int .i64 r) ∧ St w s (R)) := by
  refine enter Try.func105 rfl rfl rfl fun a hE => ?_
  rw [CmpCompareint] at hr
  refine W.seq ?_
  refine W.region ?_
  refine WL.vS hS hE (runs_plain rfl) (Gives.p hE rfl) rfl ?_; clear hE a; intro a hE
  refine WL.nil ?_
  refine W.seq ?_
  refine W.region ?_
  refine WL.vS hS hE (runs_plain rfl) (Gives.p hE rfl) rfl ?_; clear hE a; intro a hE
  refine WL.fnq hE (CmpisNaNint_ok hS  rfl (r := CmpisNaNint x0)) (runs_plain rfl) bd130 rfl rfl rfl ?_
  clear hE hS; rintro e w ⟨rfl, hS⟩; refine ⟨_, rfl, ?_⟩; clear a; intro a hE
  refine WL.vS hS hE (runs_plain rfl) (Gives.p hE rfl) rfl ?_; clear hE a; intro a hE
  refine WL.nil ?_
  refine W.seq ?_
  refine W.region ?_
  refine WL.vS hS hE (runs_plain rfl) (Gives.p hE rfl) rfl ?_; clear hE a; intro a hE
  refine WL.fnq hE (CmpisNaNint_ok hS  rfl (r := CmpisNaNint x1)) (runs_plain rfl) bd130 rfl rfl rfl ?_
  clear hE hS; rintro e w ⟨rfl, hS⟩; refine ⟨_, rfl, ?_⟩; clear a; intro a hE
  refine WL.vS hS hE (runs_plain rfl) (Gives.p hE rfl) rfl ?_; clear hE a; intro a hE
  refine WL.nil ?_
  refine W.seq ?_
  refine W.seq ?_
  refine W.region ?_
  refine WL.vS hS hE (runs_plain rfl) (Gives.p hE rfl) rfl ?_; clear hE a; intro a hE
  refine WL.nil ?_
  refine W.cond hE rfl (fun hc51 => ?_) (fun hc51 => ?_)
  · replace hr := iteT hc51 hr
    refine W.seq ?_
    refine W.seq ?_
    refine W.region ?_
    refine WL.vS hS hE (runs_plain rfl) (Gives.p hE rfl) rfl ?_; clear hE a; intro a hE
    refine WL.nil ?_
    refine W.cond hE rfl (fun hc52 => ?_) (fun hc52 => ?_)
    · replace hr := iteT hc52 hr
      refine W.seq ?_
      refine W.region ?_
      refine WL.vS hS hE (runs_plain rfl) (Gives.p hE rfl) rfl ?_; clear hE a; intro a hE
      refine WL.nil ?_
      refine W.ret ?_
      refine finG (fn := Try.f105) (rs := [.tmp 4]) (vs := [_]) hE rfl ⟨rfl, trivial⟩ ?_
      subst hr
      exact ⟨rfl, hS⟩
    · replace hr := iteF hc52 hr
      refine W.skip ?_
      refine W.seq ?_
      refine W.region ?_
      refine WL.vS hS hE (runs_plain rfl) (Gives.p hE rfl) rfl ?_; clear hE a; intro a hE
      refine WL.nil ?_
      refine W.ret ?_
      refine finG (fn := Try.f105) (rs := [.tmp 4]) (vs := [_]) hE rfl ⟨rfl, trivial⟩ ?_
      subst hr
      exact ⟨rfl, hS⟩
  · replace hr := iteF hc51 hr
    refine W.skip ?_
    refine W.seq ?_
    refine W.seq ?_
    refine W.region ?_
    refine WL.vS hS hE (runs_plain rfl) (Gives.p hE rfl) rfl ?_; clear hE a; intro a hE
    refine WL.nil ?_
    refine W.cond hE rfl (fun hc53 => ?_) (fun hc53 => ?_)
    · replace hr := iteT hc53 hr
      refine W.seq ?_
      refine W.region ?_
      refine WL.vS hS hE (runs_plain rfl) (Gives.p hE rfl) rfl ?_; clear hE a; intro a hE
      refine WL.nil ?_
      refine W.ret ?_
      refine finG (fn := Try.f105) (rs := [.tmp 4]) (vs := [_]) hE rfl ⟨rfl, trivial⟩ ?_
      subst hr
      exact ⟨rfl, hS⟩
    · replace hr := iteF hc53 hr
      refine W.skip ?_
      refine W.seq ?_
      refine W.seq ?_
      refine W.region ?_
      refine WL.vS hS hE (runs_plain rfl) (Gives.p hE rfl) rfl ?_; clear hE a; intro a hE
      refine WL.vS hS hE (runs_plain rfl) (Gives.p hE rfl) rfl ?_; clear hE a; intro a hE
      refine WL.vS hS hE (runs_plain rfl) (Gives.p hE rfl) rfl ?_; clear hE a; intro a hE
      refine WL.nil ?_
      refine W.cond hE rfl (fun hc54 => ?_) (fun hc54 => ?_)
      · replace hr := iteT hc54 hr
        refine W.seq ?_
        refine W.region ?_
        refine WL.vS hS hE (runs_plain rfl) (Gives.p hE rfl) rfl ?_; clear hE a; intro a hE
        refine WL.nil ?_
        refine W.ret ?_
        refine finG (fn := Try.f105) (rs := [.tmp 4]) (vs := [_]) hE rfl ⟨rfl, trivial⟩ ?_
        subst hr
        exact ⟨rfl, hS⟩
      · replace hr := iteF hc54 hr
        refine W.skip ?_
        refine W.seq ?_
        refine W.seq ?_
        refine W.region ?_
        refine WL.vS hS hE (runs_plain rfl) (Gives.p hE rfl) rfl ?_; clear hE a; intro a hE
        refine WL.vS hS hE (runs_plain rfl) (Gives.p hE rfl) rfl ?_; clear hE a; intro a hE
        refine WL.vS hS hE (runs_plain rfl) (Gives.p hE rfl) rfl ?_; clear hE a; intro a hE
        refine WL.nil ?_
        refine W.cond hE rfl (fun hc55 => ?_) (fun hc55 => ?_)
        · replace hr := iteT hc55 hr
          refine W.seq ?_
          refine W.region ?_
          refine WL.vS hS hE (runs_plain rfl) (Gives.p hE rfl) rfl ?_; clear hE a; intro a hE
          refine WL.nil ?_
          refine W.ret ?_
          refine finG (fn := Try.f105) (rs := [.tmp 4]) (vs := [_]) hE rfl ⟨rfl, trivial⟩ ?_
          subst hr
          exact ⟨rfl, hS⟩
        · replace hr := iteF hc55 hr
          refine W.skip ?_
          refine W.seq ?_
          refine W.region ?_
          refine WL.vS hS hE (runs_plain rfl) (Gives.p hE rfl) rfl ?_; clear hE a; intro a hE
          refine WL.nil ?_
          refine W.ret ?_
          refine finG (fn := Try.f105) (rs := [.tmp 4]) (vs := [_]) hE rfl ⟨rfl, trivial⟩ ?_
          subst hr
          exact ⟨rfl, hS⟩
set_option maxHeartbeats 8000000 in
theorem Fleetstored_1_ok  {w : World} {s : Sg} {R : List HP} {x0 : FleetEvent} {x1 : FleetEvent} (hS : St w s (R))  {r : Int} (hr : Fleetstored_1 x0 x1 = r) :
    Calls Try.prog 115 [.agg (FleetEvent.cells x0).toArray, .agg (FleetEvent.cells x1).toArray].toArray w (fun e w => e = .returned (.int .i64 r) ∧ St w s (R)) := by
  refine enter Try.func115 rfl rfl rfl fun a hE => ?_
  rw [Fleetstored_1] at hr
  refine W.seq ?_
  refine W.region ?_
  refine WL.box hE hS (runs_plain rfl) rfl rfl rfl ?_; clear hE hS a w; intro b51 a w hE hS
  refine WL.box hE hS (runs_plain rfl) rfl rfl rfl ?_; clear hE hS a w; intro b52 a w hE hS
  refine WL.vS hS hE (runs_plain rfl) (Gives.p hE rfl) rfl ?_; clear hE a; intro a hE
  refine WL.nil ?_
  refine W.seq ?_
  refine W.region ?_
  refine WL.vS hS hE (runs_plain rfl) (Gives.fld hE rfl fl148_0) rfl ?_; clear hE a; intro a hE
  refine WL.vS hS hE (runs_plain rfl) (Gives.loadB hE 1 rfl rfl rfl ty3) rfl ?_; clear hE a; intro a hE
  refine WL.vS hS hE (runs_plain rfl) (Gives.fld hE rfl fl148_0) rfl ?_; clear hE a; intro a hE
  refine WL.vS hS hE (runs_plain rfl) (Gives.loadB hE 0 rfl rfl rfl ty3) rfl ?_; clear hE a; intro a hE
  refine WL.fnq hE (CmpCompareint_ok hS  rfl (r := CmpCompareint x0.at_ x1.at_)) (runs_plain rfl) bd105 rfl rfl rfl ?_
  clear hE hS; rintro e w ⟨rfl, hS⟩; refine ⟨_, rfl, ?_⟩; clear a; intro a hE
  refine WL.vS hS hE (runs_plain rfl) (Gives.p hE rfl) rfl ?_; clear hE a; intro a hE
  refine WL.nil ?_
  refine W.ret ?_
  refine finG (fn := Try.f115) (rs := [.tmp 4]) (vs := [_]) hE rfl ⟨rfl, trivial⟩ ?_
  subst hr
  replace hS := hS.tail
  replace hS := hS.tail
  exact ⟨rfl, hS⟩
set_option maxHeartbeats 8000000 in
theorem Fleetstored_ok  {w : World} {s : Sg} {R : List HP} {x0 : List Int} {a0 : Option Addr} {c0 : Nat} {x1 : List FleetStay} {a1 : Option Addr} {c1 : Nat} {x2 : List Int} {a2 : Option Addr} {c2 : Nat} (hS : St w s (R)) (h0 : Sl 1 (RI .i64) s a0 c0 x0) (h1 : Sl 2 RFleetStay s a1 c1 x1) (h2 : Sl 1 (RI .i64) s a2 c2 x2) {r : Bool} (hr : Fleetstored x0 x1 x2 = some r) :
    Calls Try.prog 74 [.slice a0 x0.length c0, .slice a1 x1.length c1, .slice a2 x2.length c2].toArray w (fun e w => e = .returned (.bool r) ∧ St w s (R)) := by
  refine enter Try.func74 rfl rfl rfl fun a hE => ?_
  rw [Fleetstored] at hr
  refine W.seq ?_
  refine W.region ?_
  refine WL.vS hS hE (runs_plain rfl) (Gives.p hE rfl) rfl ?_; clear hE a; intro a hE
  refine WL.nil ?_
  refine W.seq ?_
  refine W.region ?_
  replace hS := hS.vecNil 148 3
  refine WL.vS hS hE (runs_plain rfl) (Gives.p hE rfl) rfl ?_; clear hE a; intro a hE
  refine WL.nil ?_
  refine W.seq ?_
  refine W.seq ?_
  refine W.region ?_
  refine WL.vS hS hE (runs_plain rfl) (Gives.p hE rfl) rfl ?_; clear hE a; intro a hE
  refine WL.vS hS hE (runs_plain rfl) (Gives.len hE rfl sl44) rfl ?_; clear hE a; intro a hE
  refine WL.vS hS hE (runs_plain rfl) (Gives.p hE rfl) rfl ?_; clear hE a; intro a hE
  refine WL.nil ?_
  obtain ⟨q53, hq52, hr⟩ := bindS hr
  refine W.cut (fun a w => ∃ (q63 : List FleetEvent), ∃ (a64 : Option Addr), ∃ (c65 : Nat), ∃ (n67 : Nat), ∃ (cs68 : List Value), q63 = q53 ∧ Ev 3 RFleetEvent s cs68 q63 ∧ q63.length = n67 ∧ Rep a 103 [(0, .slice a0 x0.length c0), (2, .slice a2 x2.length c2), (7, .slice a64 n67 c65)] ∧ St w s (vecC 148 3 a64 c65 n67 cs68 :: R)) ?_ ?_
  · refine W.block ?_
    refine W.loop (fun m a w => ∃ (rest56 : List Int) (k54 : Nat), ∃ (q63 : List FleetEvent), ∃ (a64 : Option Addr), ∃ (c65 : Nat), ∃ (n67 : Nat), ∃ (cs68 : List Value), rest56.length = m ∧ x2.drop k54 = rest56 ∧ Fleetstored.loop1 x1 rest56 k54 q63 = some q53 ∧ Ev 3 RFleetEvent s cs68 q63 ∧ q63.length = n67 ∧ Rep a 103 [(0, .slice a0 x0.length c0), (1, .slice a1 x1.length c1), (2, .slice a2 x2.length c2), (7, .slice a64 n67 c65), (14, .int .i64 ((x2).length : Int)), (15, .int .i64 ((k54 : Nat) : Int))] ∧ St w s (vecC 148 3 a64 c65 n67 cs68 :: R)) (m := x2.length) ⟨x2, 0, [], none, 0, 0, [], rfl, rfl, hq52, (Ev.nil), (rfl), hE.pick _ ⟨rfl, rfl, rfl, rfl, rfl, rfl, trivial⟩, hS⟩ ?_
    clear hE hS a w hq52; rintro m60 a w ⟨rest56, k54, q63, a64, c65, n67, cs68, rfl, hd57, hq52, h66, rfl, hE, hS⟩
    refine W.gen fun K70 hK70 => ?_
    rcases rest56 with _ | ⟨x55, rest56⟩
    · have hlt58 := drop_nil hd57
      refine W.seq ?_
      refine W.region ?_
      refine WL.vS hS hE (runs_plain rfl) (Gives.p hE rfl) rfl ?_; clear hE a; intro a hE
      refine WL.nil ?_
      refine W.seq ?_
      refine W.condF hE rfl (decide_eq_false (by omega)) ?_
      subst hK70
      refine W.exit rfl ?_
      exact ⟨q63, a64, c65, q63.length, cs68, Option.some.inj hq52, h66, rfl, hE.pick _ ⟨rfl, rfl, rfl, trivial⟩, hS⟩
    · obtain ⟨hlt58, hx59, hd57⟩ := drop_cons hd57
      rw [Fleetstored.loop1] at hq52
      refine W.seq ?_
      refine W.region ?_
      refine WL.vS hS hE (runs_plain rfl) (Gives.p hE rfl) rfl ?_; clear hE a; intro a hE
      refine WL.nil ?_
      refine W.seq ?_
      refine W.condT hE rfl (decide_eq_true (by omega)) ?_
      refine W.skip ?_
      refine W.seq ?_
      refine W.block ?_
      refine W.seq ?_
      refine W.region ?_
      refine WL.vS hS hE (runs_plain rfl) (Gives.p hE rfl) rfl ?_; clear hE a; intro a hE
      refine WL.vS hS hE (runs_plain rfl) (Gives.p hE rfl) rfl ?_; clear hE a; intro a hE
      refine WL.nil ?_
      refine W.gen fun K71 hK71 => ?_
      refine W.regionE (sel (fun w => St w s (vecC 148 3 a64 c65 q63.length cs68 :: R)) (fun w => St w s (R))) (fun b i => cond b ([0, 1, 2, 3, 4, 5, 6, 7, 8, 9, 10, 11, 12, 13, 14, 15, 17].contains i) ([0, 1, 2, 3, 4, 5, 6, 7, 8, 9, 10, 11, 12, 13, 14, 15, 16, 17].contains i)) mixed ?_
      replace hS := hS.drew
      refine Rg.takeP (i := 0) hE rfl (by kernel_rfl) (runs_plain rfl) (Gives.p hE rfl) rfl (tw_sel (fun _ => hS) (fun _ => (hS.tail))) ?_; clear hE a; intro a hE
      refine Rg.takeP (i := 1) hE rfl (by kernel_rfl) (runs_plain rfl) (Gives.p hE rfl) rfl (tw_sel (fun _ => hS) (fun _ => (hS.tail))) ?_; clear hE a; intro a hE
      refine Rg.takeP (i := 2) hE rfl (by kernel_rfl) (runs_plain rfl) (Gives.p hE rfl) rfl (tw_sel (fun _ => hS) (fun _ => (hS.tail))) ?_; clear hE a; intro a hE
      obtain ⟨x72, hx73, hq52⟩ := bindS hq52
      obtain ⟨hi74, hlt75, hy76⟩ := gx_some hx73
      obtain ⟨cs77, hl78, hR79, hat80⟩ := h1.at hy76
      subst hR79
      refine Rg.takeP (i := 3) hE rfl (by kernel_rfl) (runs_plain rfl) (Gives.idx hE (((k54 : Nat) : Int)).toNat rfl rfl sl53 hi74 hlt75 (h1.aok hlt75)) rfl (tw_sel (fun _ => hS) (fun _ => (hS.tail))) ?_; clear hE a; intro a hE
      refine Rg.takeP (i := 4) hE rfl (by kernel_rfl) (runs_plain rfl) (Gives.fld hE rfl fl105_0) rfl (tw_sel (fun _ => hS) (fun _ => (hS.tail))) ?_; clear hE a; intro a hE
      have hT := tw_sel (A := fun w => St w s (vecC 148 3 a64 c65 q63.length cs68 :: R)) (B := fun w => St w s (R)) (w := _) (x := true) (y := true) (fun _ => hS) (fun _ => (hS.tail))
      have hF := hS; replace hS := (hS.tail)
      refine Rg.take (i := 5) false rfl hE rfl (by kernel_rfl) (runs_plain rfl) (Gives.load1 hE rfl (fun w h => (hat80 w _ h).one rfl) ty3) rfl hT ?_; clear hE a; intro a hE
      replace hS := hF; clear hF hT
      refine Rg.takeP (i := 6) hE rfl (by kernel_rfl) (runs_plain rfl) (Gives.p hE rfl) rfl (tw_sel (fun _ => hS) (fun _ => (hS.tail))) ?_; clear hE a; intro a hE
      refine Rg.takeP (i := 7) hE rfl (by kernel_rfl) (runs_plain rfl) (Gives.build hE (vs := [(0, .int .i64 x72.In), (1, .int .i64 ((k54 : Nat) : Int)), (2, .bool true)]) [.int .i64 x72.In, .int .i64 ((k54 : Nat) : Int), .bool true] rfl (by kernel_rfl)) rfl (tw_sel (fun _ => hS) (fun _ => (hS.tail))) ?_; clear hE a; intro a hE
      refine Rg.takeP (i := 8) hE rfl (by kernel_rfl) (runs_plain rfl) (Gives.p hE rfl) rfl (tw_sel (fun _ => hS) (fun _ => (hS.tail))) ?_; clear hE a; intro a hE
      refine Rg.takeP (i := 9) hE rfl (by kernel_rfl) (runs_plain rfl) (Gives.p hE rfl) rfl (tw_sel (fun _ => hS) (fun _ => (hS.tail))) ?_; clear hE a; intro a hE
      obtain ⟨x81, hx82, hq52⟩ := bindS hq52
      obtain ⟨hi83, hlt84, hy85⟩ := gx_some hx82
      obtain ⟨cs86, hl87, hR88, hat89⟩ := h1.at hy85
      subst hR88
      refine Rg.takeP (i := 10) hE rfl (by kernel_rfl) (runs_plain rfl) (Gives.idx hE (((k54 : Nat) : Int)).toNat rfl rfl sl53 hi83 hlt84 (h1.aok hlt84)) rfl (tw_sel (fun _ => hS) (fun _ => (hS.tail))) ?_; clear hE a; intro a hE
      refine Rg.takeP (i := 11) hE rfl (by kernel_rfl) (runs_plain rfl) (Gives.fld hE rfl fl105_1) rfl (tw_sel (fun _ => hS) (fun _ => (hS.tail))) ?_; clear hE a; intro a hE
      have hT := tw_sel (A := fun w => St w s (vecC 148 3 a64 c65 q63.length cs68 :: R)) (B := fun w => St w s (R)) (w := _) (x := true) (y := true) (fun _ => hS) (fun _ => (hS.tail))
      have hF := hS; replace hS := (hS.tail)
      refine Rg.take (i := 12) false rfl hE rfl (by kernel_rfl) (runs_plain rfl) (Gives.load1 hE rfl (fun w h => (hat89 w _ h).one rfl) ty3) rfl hT ?_; clear hE a; intro a hE
      replace hS := hF; clear hF hT
      refine Rg.takeP (i := 13) hE rfl (by kernel_rfl) (runs_plain rfl) (Gives.p hE rfl) rfl (tw_sel (fun _ => hS) (fun _ => (hS.tail))) ?_; clear hE a; intro a hE
      refine Rg.takeP (i := 14) hE rfl (by kernel_rfl) (runs_plain rfl) (Gives.build hE (vs := [(0, .int .i64 x81.Out), (1, .int .i64 ((k54 : Nat) : Int)), (2, .bool false)]) [.int .i64 x81.Out, .int .i64 ((k54 : Nat) : Int), .bool false] rfl (by kernel_rfl)) rfl (tw_sel (fun _ => hS) (fun _ => (hS.tail))) ?_; clear hE a; intro a hE
      refine Rg.one (i := 15) true true rfl (by kernel_rfl) (by kernel_rfl) (by kernel_rfl) ?_
      refine WL.lit hE hS (e := 148) (es := 3) (vs := [(0, .agg [.int .i64 x72.In, .int .i64 ((k54 : Nat) : Int), .bool true].toArray), (1, .agg [.int .i64 x81.Out, .int .i64 ((k54 : Nat) : Int), .bool false].toArray)]) (cs := [.int .i64 x72.In, .int .i64 ((k54 : Nat) : Int), .bool true, .int .i64 x81.Out, .int .i64 ((k54 : Nat) : Int), .bool false]) (runs_plain rfl) rfl (by kernel_rfl) rfl ?_; clear hE hS a w; intro b90 a w hE hS
      refine WL.nil ?_
      refine ⟨⟨fun _ => (hS.tail), fun _ => ((hS.tail).tail)⟩, ?_⟩
      refine Rg.one (i := 16) false true rfl (by kernel_rfl) (by kernel_rfl) (by kernel_rfl) ?_
      obtain ⟨x91, hx92, hq52⟩ := bindS hq52
      refine WL.appD hE hS 0 (m := 2) (runs_plain rfl) rfl rfl rfl ap146 rfl h66 rfl (xs := [(FleetEvent.mk x72.In ((k54 : Nat) : Int) true), (FleetEvent.mk x81.Out ((k54 : Nat) : Int) false)]) (Ev.cons (c1 := [.int .i64 x72.In, .int .i64 ((k54 : Nat) : Int), .bool true]) rfl rfl (Ev.cons (c1 := [.int .i64 x81.Out, .int .i64 ((k54 : Nat) : Int), .bool false]) rfl rfl (Ev.nil))) rfl rfl hx92 rfl ?_; clear hE hS a w; intro a93 c94 cs95 a w h96 hE hS
      refine WL.nil ?_
      refine ⟨⟨fun h => absurd h (by decide), fun _ => (hS.tail)⟩, ?_⟩
      refine Rg.takeP (i := 17) hE rfl (by kernel_rfl) (runs_plain rfl) (Gives.p hE rfl) rfl (tw_sel (fun h => absurd h (by decide)) (fun _ => (hS.tail))) ?_; clear hE a; intro a hE
      refine Rg.done (by kernel_rfl) ?_
      subst hK71
      refine W.region ?_
      refine WL.vS hS hE (runs_plain rfl) (Gives.inc hE rfl (by have := h2.small; omega)) rfl ?_; clear hE a; intro a hE
      refine WL.vS hS hE (runs_plain rfl) (Gives.p hE rfl) rfl ?_; clear hE a; intro a hE
      refine WL.nil ?_
      subst hK70
      exact ⟨rest56.length, Nat.lt_succ_self _, rest56, k54 + 1, x91, a93, c94, x91.length, cs95, rfl, hd57, hq52, h96, (rfl), hE.pick _ ⟨rfl, rfl, rfl, rfl, rfl, rfl, trivial⟩, hS⟩
  · clear hE hS a w; rintro a w ⟨q63, a64, c65, n67, cs68, rfl, h66, rfl, hE, hS⟩
    refine W.seq ?_
    refine W.region ?_
    refine WL.vS hS hE (runs_plain rfl) (Gives.p hE rfl) rfl ?_; clear hE a; intro a hE
    obtain ⟨q100, hq101, hr⟩ := bindS hr
    refine WL.fnq hE (itSortF114_115_ok hS h66 rfl hq101) (runs_plain rfl) bd114 rfl rfl rfl ?_
    clear hE hS; rintro e w ⟨cs98, rfl, h99, hn102, hS⟩; refine ⟨_, rfl, ?_⟩; clear a; intro a hE
    refine WL.nil ?_
    refine W.seq ?_
    refine W.region ?_
    refine WL.vS hS hE (runs_plain rfl) (Gives.p hE rfl) rfl ?_; clear hE a; intro a hE
    refine WL.vS hS hE (runs_plain rfl) (Gives.len hE rfl sl44) rfl ?_; clear hE a; intro a hE
    obtain ⟨x103, hx104, hr⟩ := bindS hr
    refine WL.mkND (Rr := RI .i64) (Ti := 3) (es := 1) hE hS (runs_plain rfl) rfl rfl ap25 zr44 hx104 rfl ?_; clear hE hS a w; intro b105 ds106 a w h107 hE hS
    refine WL.vS hS hE (runs_plain rfl) (Gives.p hE rfl) rfl ?_; clear hE a; intro a hE
    refine WL.nil ?_
    refine W.seq ?_
    refine W.seq ?_
    refine W.region ?_
    refine WL.vS hS hE (runs_plain rfl) (Gives.p hE rfl) rfl ?_; clear hE a; intro a hE
    refine WL.vS hS hE (runs_plain rfl) (Gives.len hE rfl sl146) rfl ?_; clear hE a; intro a hE
    refine WL.vS hS hE (runs_plain rfl) (Gives.p hE rfl) rfl ?_; clear hE a; intro a hE
    refine WL.nil ?_
    have hb120 : q63.length ≤ 9223372036854775807 := by have := hS.vecCap 1 rfl; unfold maxLen at this; omega
    obtain ⟨q110, hq109, hr⟩ := bindS hr
    refine W.cut (fun a w => ∃ (q121 : List (List Int)), ∃ (ds125 : List In), (.next q121) = q110 ∧ NEv 1 (RI .i64) s ds125 q121 ∧ q121.length = x103.length ∧ Rep a 103 [] ∧ St w s (nestC 44 3 1 (some ⟨b105, 0, none⟩) x103.length x103.length ds125 :: vecC 148 3 a64 c65 q63.length cs98 :: R)) ?_ ?_
    · refine W.block ?_
      refine W.loop (fun m a w => ∃ (rest113 : Nat) (k111 : Nat), ∃ (q121 : List (List Int)), ∃ (ds125 : List In), rest113 = m ∧ k111 + rest113 = q63.length ∧ Fleetstored.loop2 x0 x2 q100 rest113 k111 q121 = some q110 ∧ NEv 1 (RI .i64) s ds125 q121 ∧ q121.length = x103.length ∧ Rep a 103 [(0, .slice a0 x0.length c0), (2, .slice a2 x2.length c2), (9, .slice (some ⟨b105, 0, none⟩) x103.length x103.length), (41, .slice a64 q63.length c65), (42, .int .i64 ((q63.length : Nat) : Int)), (43, .int .i64 ((k111 : Nat) : Int))] ∧ St w s (nestC 44 3 1 (some ⟨b105, 0, none⟩) x103.length x103.length ds125 :: vecC 148 3 a64 c65 q63.length cs98 :: R)) (m := q63.length) ⟨q63.length, 0, x103, ds106, rfl, by omega, hq109, h107, (rfl), hE.pick _ ⟨rfl, rfl, rfl, rfl, rfl, rfl, trivial⟩, hS⟩ ?_
      clear hE hS a w hq109; rintro m117 a w ⟨rest113, k111, q121, ds125, rfl, hd114, hq109, h126, hn127, hE, hS⟩
      refine W.gen fun K128 hK128 => ?_
      rcases rest113 with _ | rest113
      · skip
        refine W.seq ?_
        refine W.region ?_
        refine WL.vS hS hE (runs_plain rfl) (Gives.p hE rfl) rfl ?_; clear hE a; intro a hE
        refine WL.nil ?_
        refine W.seq ?_
        refine W.condF hE rfl (decide_eq_false (by omega)) ?_
        subst hK128
        refine W.exit rfl ?_
        exact ⟨q121, ds125, Option.some.inj hq109, h126, hn127, hE.pick _ trivial, hS⟩
      · have hlt115 : k111 < q63.length := by omega
        rw [Fleetstored.loop2] at hq109
        refine W.seq ?_
        refine W.region ?_
        refine WL.vS hS hE (runs_plain rfl) (Gives.p hE rfl) rfl ?_; clear hE a; intro a hE
        refine WL.nil ?_
        refine W.seq ?_
        refine W.condT hE rfl (decide_eq_true (by omega)) ?_
        refine W.skip ?_
        refine W.seq ?_
        refine W.block ?_
        refine W.seq ?_
        refine W.region ?_
        obtain ⟨x129, hx130, hq109⟩ := bindS hq109
        obtain ⟨hi131, hlt132, hy133⟩ := gx_some hx130
        obtain ⟨vs134, hl135, hR136, hd137, hget138⟩ := h99.at hy133
        subst hR136
        refine WL.vS hS hE (runs_plain rfl) (Gives.idx hE ((((k111 : Nat) : Int)).toNat) rfl rfl sl146 hi131 (by have := hn102; omega) (hS.vecAok 1 rfl (by have := hn102; omega : (((k111 : Nat) : Int)).toNat < q63.length))) rfl ?_; clear hE a; intro a hE
        refine WL.vS hS hE (runs_plain rfl) (Gives.loadA hE rfl (fun w h => St.vecSees h 1 rfl ((((k111 : Nat) : Int)).toNat * 3) _ hget138) ty148) rfl ?_; clear hE a; intro a hE
        refine WL.alloc hE hS (runs_plain rfl) zr148 rfl ?_; clear hE hS a w; intro b139 a w hE hS
        refine WL.storeI hE hS 0 rfl (FleetEvent.cells x129) (runs_plain rfl) rfl rfl rfl ty148 rfl rfl rfl rfl ?_; clear hE hS a w; intro a w hE hS
        refine WL.nil ?_
        refine W.seq ?_
        refine W.region ?_
        refine WL.vS hS hE (runs_plain rfl) (Gives.p hE rfl) rfl ?_; clear hE a; intro a hE
        refine WL.vS hS hE (runs_plain rfl) (Gives.p hE rfl) rfl ?_; clear hE a; intro a hE
        refine WL.vS hS hE (runs_plain rfl) (Gives.fld hE rfl fl148_1) rfl ?_; clear hE a; intro a hE
        refine WL.vS hS hE (runs_plain rfl) (Gives.loadB hE 0 rfl rfl rfl ty3) rfl ?_; clear hE a; intro a hE
        obtain ⟨x140, hx141, hq109⟩ := bindS hq109
        obtain ⟨hi142, hlt143, hy144⟩ := gx_some hx141
        obtain ⟨cs145, hl146, hR147, hat148⟩ := h2.at hy144
        subst hR147
        refine WL.vS hS hE (runs_plain rfl) (Gives.idx hE (x129.set_).toNat rfl rfl sl44 hi142 hlt143 (h2.aok hlt143)) rfl ?_; clear hE a; intro a hE
        refine WL.vS hS hE (runs_plain rfl) (Gives.load1 hE rfl (fun w h => hat148 w _ h) ty3) rfl ?_; clear hE a; intro a hE
        obtain ⟨_, hx149, hq109⟩ := bindS hq109
        obtain ⟨h150, h151⟩ := ix_some hx149
        refine WL.vS hS hE (runs_plain rfl) (Gives.idx hE ((x140).toNat) rfl rfl sl25 h150 (by have := hn127; omega) (hS.nAok 1 rfl (by have := hn127; omega : (x140).toNat < x103.length))) rfl ?_; clear hE a; intro a hE
        refine WL.vS hS hE (runs_plain rfl) (Gives.p hE rfl) rfl ?_; clear hE a; intro a hE
        refine WL.nil ?_
        refine W.seq ?_
        refine W.seq ?_
        refine W.region ?_
        refine WL.vS hS hE (runs_plain rfl) (Gives.fld hE rfl fl148_2) rfl ?_; clear hE a; intro a hE
        refine WL.vS hS hE (runs_plain rfl) (Gives.loadB hE 0 rfl rfl rfl ty4) rfl ?_; clear hE a; intro a hE
        refine WL.nil ?_
        refine W.cond hE rfl (fun hc152 => ?_) (fun hc152 => ?_)
        · replace hq109 := iteT hc152 hq109
          refine W.seq ?_
          refine W.seq ?_
          refine W.regionQ (C := fun w => St w s (pt b139 (.cells (FleetEvent.cells x129).toArray 148 (0, 0)) :: nestC 44 3 1 (some ⟨b105, 0, none⟩) x103.length x103.length ds125 :: vecC 148 3 a64 c65 q63.length cs98 :: R)) mixed (by kernel_rfl) hS.drew ?_
          refine QL.v hE (runs_plain rfl) (Gives.p hE rfl) rfl ?_; clear hE a; intro a hE
          refine QL.v hE (runs_plain rfl) (Gives.nilOk hE rfl) rfl ?_; clear hE a; intro a hE
          obtain ⟨x153, hx154, hq109⟩ := bindS hq109
          obtain ⟨hi155, hlt156, hy157⟩ := gx_some hx154
          obtain ⟨a158, c159, cs160, hd161, hev162⟩ := h126.at hy157
          refine QL.v hE (runs_plain rfl) (Gives.load1 (v := .slice a158 x153.length c159) hE rfl (fun w h => St.nSees h 1 rfl hd161) ty44) rfl ?_; clear hE a; intro a hE
          refine QL.v hE (runs_plain rfl) (Gives.len hE rfl sl44) rfl ?_; clear hE a; intro a hE
          refine QL.v hE (runs_plain rfl) (Gives.p hE rfl) rfl ?_; clear hE a; intro a hE
          refine QL.v hE (runs_plain rfl) (Gives.p hE rfl) rfl ?_; clear hE a; intro a hE
          refine QL.v hE (runs_plain rfl) (Gives.fld hE rfl fl148_1) rfl ?_; clear hE a; intro a hE
          refine QL.v hE (runs_plain rfl) (Gives.loadB hE 0 rfl rfl rfl ty3) rfl ?_; clear hE a; intro a hE
          obtain ⟨x163, hx164, hq109⟩ := bindS hq109
          obtain ⟨hi165, hlt166, hy167⟩ := gx_some hx164
          obtain ⟨cs168, hl169, hR170, hat171⟩ := h2.at hy167
          subst hR170
          refine QL.v hE (runs_plain rfl) (Gives.idx hE (x129.set_).toNat rfl rfl sl44 hi165 hlt166 (h2.aok hlt166)) rfl ?_; clear hE a; intro a hE
          refine QL.v hE (runs_plain rfl) (Gives.load1 hE rfl (fun w h => hat171 w _ h) ty3) rfl ?_; clear hE a; intro a hE
          obtain ⟨x172, hx173, hq109⟩ := bindS hq109
          obtain ⟨hi174, hlt175, hy176⟩ := gx_some hx173
          obtain ⟨cs177, hl178, hR179, hat180⟩ := h0.at hy176
          subst hR179
          refine QL.v hE (runs_plain rfl) (Gives.idx hE (x163).toNat rfl rfl sl44 hi174 hlt175 (h0.aok hlt175)) rfl ?_; clear hE a; intro a hE
          refine QL.v hE (runs_plain rfl) (Gives.load1 hE rfl (fun w h => hat180 w _ h) ty3) rfl ?_; clear hE a; intro a hE
          refine QL.v hE (runs_plain rfl) (Gives.p hE rfl) rfl ?_; clear hE a; intro a hE
          refine QL.nil ?_; clear hS w; intro w hS
          refine W.cond hE rfl (fun hc181 => ?_) (fun hc181 => ?_)
          · replace hq109 := iteT hc181 hq109
            refine W.seq ?_
            refine W.region ?_
            refine WL.vS hS hE (runs_plain rfl) (Gives.p hE rfl) rfl ?_; clear hE a; intro a hE
            refine WL.nil ?_
            refine W.ret ?_
            subst hK128
            rw [← Option.some.inj hq109] at hr
            dsimp only at hr
            refine finG (fn := Try.f74) (rs := [.tmp 6]) (vs := [_]) hE rfl ⟨rfl, trivial⟩ ?_
            obtain rfl := Option.some.inj hr
            replace hS := hS.tail
            replace hS := hS.tail
            replace hS := hS.tail
            exact ⟨rfl, hS⟩
          · replace hq109 := iteF hc181 hq109
            refine W.skip ?_
            refine W.seq ?_
            refine W.gen fun K182 hK182 => ?_
            refine W.regionE (sel (fun w => St w s (pt b139 (.cells (FleetEvent.cells x129).toArray 148 (0, 0)) :: nestC 44 3 1 (some ⟨b105, 0, none⟩) x103.length x103.length ds125 :: vecC 148 3 a64 c65 q63.length cs98 :: R)) (fun w => St w s (pt b139 (.cells (FleetEvent.cells x129).toArray 148 (0, 0)) :: vecC 148 3 a64 c65 q63.length cs98 :: R))) (fun b i => cond b ([0, 1, 2, 3, 4, 5, 6, 8].contains i) ([0, 1, 2, 3, 4, 5, 6, 7, 8, 9].contains i)) mixed ?_
            replace hS := hS.drew
            refine Rg.takeP (i := 0) hE rfl (by kernel_rfl) (runs_plain rfl) (Gives.p hE rfl) rfl (tw_sel (fun _ => hS) (fun _ => (hS.dropAt 1))) ?_; clear hE a; intro a hE
            refine Rg.takeP (i := 1) hE rfl (by kernel_rfl) (runs_plain rfl) (Gives.p hE rfl) rfl (tw_sel (fun _ => hS) (fun _ => (hS.dropAt 1))) ?_; clear hE a; intro a hE
            have hT := tw_sel (A := fun w => St w s (pt b139 (.cells (FleetEvent.cells x129).toArray 148 (0, 0)) :: nestC 44 3 1 (some ⟨b105, 0, none⟩) x103.length x103.length ds125 :: vecC 148 3 a64 c65 q63.length cs98 :: R)) (B := fun w => St w s (pt b139 (.cells (FleetEvent.cells x129).toArray 148 (0, 0)) :: vecC 148 3 a64 c65 q63.length cs98 :: R)) (w := _) (x := true) (y := true) (fun _ => hS) (fun _ => (hS.dropAt 1))
            have hF := hS; replace hS := (hS.dropAt 1)
            refine Rg.take (i := 2) false rfl hE rfl (by kernel_rfl) (runs_plain rfl) (Gives.nilOk hE rfl) rfl hT ?_; clear hE a; intro a hE
            replace hS := hF; clear hF hT
            have hT := tw_sel (A := fun w => St w s (pt b139 (.cells (FleetEvent.cells x129).toArray 148 (0, 0)) :: nestC 44 3 1 (some ⟨b105, 0, none⟩) x103.length x103.length ds125 :: vecC 148 3 a64 c65 q63.length cs98 :: R)) (B := fun w => St w s (pt b139 (.cells (FleetEvent.cells x129).toArray 148 (0, 0)) :: vecC 148 3 a64 c65 q63.length cs98 :: R)) (w := _) (x := true) (y := true) (fun _ => hS) (fun _ => (hS.dropAt 1))
            have hF := hS; replace hS := hS
            obtain ⟨x183, hx184, hq109⟩ := bindS hq109
            obtain ⟨hi185, hlt186, hy187⟩ := gx_some hx184
            obtain ⟨a188, c189, cs190, hd191, hev192⟩ := h126.at hy187
            refine Rg.take (i := 3) true rfl hE rfl (by kernel_rfl) (runs_plain rfl) (Gives.load1 (v := .slice a188 x183.length c189) hE rfl (fun w h => St.nSees h 1 rfl hd191) ty44) rfl hT ?_; clear hE a; intro a hE
            replace hS := hF; clear hF hT
            refine Rg.takeP (i := 4) hE rfl (by kernel_rfl) (runs_plain rfl) (Gives.fld hE rfl fl148_1) rfl (tw_sel (fun _ => hS) (fun _ => (hS.dropAt 1))) ?_; clear hE a; intro a hE
            have hT := tw_sel (A := fun w => St w s (pt b139 (.cells (FleetEvent.cells x129).toArray 148 (0, 0)) :: nestC 44 3 1 (some ⟨b105, 0, none⟩) x103.length x103.length ds125 :: vecC 148 3 a64 c65 q63.length cs98 :: R)) (B := fun w => St w s (pt b139 (.cells (FleetEvent.cells x129).toArray 148 (0, 0)) :: vecC 148 3 a64 c65 q63.length cs98 :: R)) (w := _) (x := true) (y := true) (fun _ => hS) (fun _ => (hS.dropAt 1))
            have hF := hS; replace hS := (hS.dropAt 1)
            refine Rg.take (i := 5) false rfl hE rfl (by kernel_rfl) (runs_plain rfl) (Gives.loadB hE 0 rfl rfl rfl ty3) rfl hT ?_; clear hE a; intro a hE
            replace hS := hF; clear hF hT
            refine Rg.one (i := 6) true true rfl (by kernel_rfl) (by kernel_rfl) (by kernel_rfl) ?_
            refine WL.lit hE hS (e := 3) (es := 1) (vs := [(0, .int .i64 x129.set_)]) (cs := [.int .i64 x129.set_]) (runs_plain rfl) rfl (by kernel_rfl) rfl ?_; clear hE hS a w; intro b193 a w hE hS
            refine WL.nil ?_
            refine ⟨⟨fun _ => (hS.tail), fun _ => ((hS.tail).dropAt 1)⟩, ?_⟩
            refine Rg.one (i := 7) false true rfl (by kernel_rfl) (by kernel_rfl) (by kernel_rfl) ?_
            replace hS := hS.borrowM 2 rfl hd191
            replace hS := hS.front 1 rfl
            obtain ⟨x195, hx196, hq109⟩ := bindS hq109
            refine WL.appD hE hS 0 (m := 1) (runs_plain rfl) rfl rfl rfl ap44 rfl hev192 (rfl) (xs := [x129.set_]) (Ev.cons (c1 := [.int .i64 x129.set_]) rfl rfl (Ev.nil)) rfl rfl hx196 rfl ?_; clear hE hS a w; intro a197 c198 cs199 a w h200 hE hS
            refine WL.nil ?_
            refine ⟨⟨fun h => absurd h (by decide), fun _ => ((hS.tail).dropAt 1)⟩, ?_⟩
            have hT := tw_sel (A := fun w => St w s (pt b139 (.cells (FleetEvent.cells x129).toArray 148 (0, 0)) :: nestC 44 3 1 (some ⟨b105, 0, none⟩) x103.length x103.length ds125 :: vecC 148 3 a64 c65 q63.length cs98 :: R)) (B := fun w => St w s (pt b139 (.cells (FleetEvent.cells x129).toArray 148 (0, 0)) :: vecC 148 3 a64 c65 q63.length cs98 :: R)) (w := _) (x := false) (y := true) (fun h => absurd h (by decide)) (fun _ => ((hS.tail).dropAt 1))
            have hF := hS; replace hS := ((hS.tail).dropAt 1)
            refine Rg.take (i := 8) false rfl hE rfl (by kernel_rfl) (runs_plain rfl) (Gives.nilOk hE rfl) rfl hT ?_; clear hE a; intro a hE
            replace hS := hF; clear hF hT
            refine Rg.one (i := 9) false true rfl (by kernel_rfl) (by kernel_rfl) (by kernel_rfl) ?_
            obtain ⟨x201, hx202, hq109⟩ := bindS hq109
            refine WL.storeND hE hS 1 rfl (runs_plain rfl) rfl rfl ty44 h126 hn127 (by have := (sx_some hx202).1; omega) hx202 h200 (rfl) rfl ?_; clear hE hS a w; intro ds203 a w h204 hn205 hE hS
            refine WL.nil ?_
            refine ⟨⟨fun h => absurd h (by decide), fun _ => (hS.dropAt 1)⟩, ?_⟩
            refine Rg.done (by kernel_rfl) ?_
            subst hK182
            refine W.exit rfl ?_
            refine W.region ?_
            refine WL.vS hS hE (runs_plain rfl) (Gives.inc hE rfl (by omega)) rfl ?_; clear hE a; intro a hE
            refine WL.vS hS hE (runs_plain rfl) (Gives.p hE rfl) rfl ?_; clear hE a; intro a hE
            refine WL.nil ?_
            replace hS := hS.tail
            subst hK128
            exact ⟨rest113, Nat.lt_succ_self _, rest113, k111 + 1, x201, ds203, rfl, (by omega), hq109, h204, hn205, hE.pick _ ⟨rfl, rfl, rfl, rfl, rfl, rfl, trivial⟩, hS⟩
        · replace hq109 := iteF hc152 hq109
          refine W.skip ?_
          refine W.seq ?_
          refine W.seq ?_
          refine W.regionQ (C := fun w => St w s (pt b139 (.cells (FleetEvent.cells x129).toArray 148 (0, 0)) :: nestC 44 3 1 (some ⟨b105, 0, none⟩) x103.length x103.length ds125 :: vecC 148 3 a64 c65 q63.length cs98 :: R)) mixed (by kernel_rfl) hS.drew ?_
          refine QL.v hE (runs_plain rfl) (Gives.p hE rfl) rfl ?_; clear hE a; intro a hE
          refine QL.v hE (runs_plain rfl) (Gives.nilOk hE rfl) rfl ?_; clear hE a; intro a hE
          obtain ⟨x206, hx207, hq109⟩ := bindS hq109
          obtain ⟨hi208, hlt209, hy210⟩ := gx_some hx207
          obtain ⟨a211, c212, cs213, hd214, hev215⟩ := h126.at hy210
          refine QL.v hE (runs_plain rfl) (Gives.load1 (v := .slice a211 x206.length c212) hE rfl (fun w h => St.nSees h 1 rfl hd214) ty44) rfl ?_; clear hE a; intro a hE
          refine QL.v hE (runs_plain rfl) (Gives.p hE rfl) rfl ?_; clear hE a; intro a hE
          refine QL.v hE (runs_plain rfl) (Gives.nilOk hE rfl) rfl ?_; clear hE a; intro a hE
          obtain ⟨x216, hx217, hq109⟩ := bindS hq109
          obtain ⟨hi218, hlt219, hy220⟩ := gx_some hx217
          obtain ⟨a221, c222, cs223, hd224, hev225⟩ := h126.at hy220
          refine QL.v hE (runs_plain rfl) (Gives.load1 (v := .slice a221 x216.length c222) hE rfl (fun w h => St.nSees h 1 rfl hd224) ty44) rfl ?_; clear hE a; intro a hE
          refine QL.v hE (runs_plain rfl) (Gives.len hE rfl sl44) rfl ?_; clear hE a; intro a hE
          refine QL.v hE (runs_plain rfl) (Gives.p hE rfl) rfl ?_; clear hE a; intro a hE
          obtain ⟨x226, hx227, hq109⟩ := bindS hq109
          obtain ⟨hi228, hlt229, hy230⟩ := gx_some hx227
          obtain ⟨vs231, hl232, hR233, hd234, hget235⟩ := hev215.at hy230
          subst hR233
          refine QL.v hE (runs_plain rfl) (Gives.idx hE ((w64 (((x216).length : Int) - 1)).toNat) rfl rfl sl44 hi228 hlt229 (hS.nnAok 1 rfl hd214 hlt229)) rfl ?_; clear hE a; intro a hE
          refine QL.v hE (runs_plain rfl) (Gives.load1 hE rfl (fun w h => St.nnSees h 1 rfl hd214 ((w64 (((x216).length : Int) - 1)).toNat * 1) _ hget235) ty3) rfl ?_; clear hE a; intro a hE
          refine QL.v hE (runs_plain rfl) (Gives.fld hE rfl fl148_1) rfl ?_; clear hE a; intro a hE
          refine QL.v hE (runs_plain rfl) (Gives.loadB hE 0 rfl rfl rfl ty3) rfl ?_; clear hE a; intro a hE
          refine QL.v hE (runs_plain rfl) (Gives.p hE rfl) rfl ?_; clear hE a; intro a hE
          refine QL.nil ?_; clear hS w; intro w hS
          refine W.cond hE rfl (fun hc236 => ?_) (fun hc236 => ?_)
          · replace hq109 := iteT hc236 hq109
            refine W.seq ?_
            refine W.region ?_
            refine WL.vS hS hE (runs_plain rfl) (Gives.p hE rfl) rfl ?_; clear hE a; intro a hE
            refine WL.nil ?_
            refine W.ret ?_
            subst hK128
            rw [← Option.some.inj hq109] at hr
            dsimp only at hr
            refine finG (fn := Try.f74) (rs := [.tmp 6]) (vs := [_]) hE rfl ⟨rfl, trivial⟩ ?_
            obtain rfl := Option.some.inj hr
            replace hS := hS.tail
            replace hS := hS.tail
            replace hS := hS.tail
            exact ⟨rfl, hS⟩
          · replace hq109 := iteF hc236 hq109
            refine W.skip ?_
            refine W.gen fun K237 hK237 => ?_
            refine W.regionE (sel (fun w => St w s (pt b139 (.cells (FleetEvent.cells x129).toArray 148 (0, 0)) :: vecC 148 3 a64 c65 q63.length cs98 :: R)) (fun w => St w s (pt b139 (.cells (FleetEvent.cells x129).toArray 148 (0, 0)) :: vecC 148 3 a64 c65 q63.length cs98 :: R))) (fun b i => cond b ([0, 1, 2, 3, 4, 5, 6, 7, 8, 9, 10, 11].contains i) ([0, 1, 2, 3, 4, 5, 6, 7, 8, 9, 10, 11].contains i)) mixed ?_
            replace hS := hS.drew
            refine Rg.takeP (i := 0) hE rfl (by kernel_rfl) (runs_plain rfl) (Gives.p hE rfl) rfl (tw_sel (fun _ => (hS.dropAt 1)) (fun _ => (hS.dropAt 1))) ?_; clear hE a; intro a hE
            refine Rg.takeP (i := 1) hE rfl (by kernel_rfl) (runs_plain rfl) (Gives.p hE rfl) rfl (tw_sel (fun _ => (hS.dropAt 1)) (fun _ => (hS.dropAt 1))) ?_; clear hE a; intro a hE
            have hT := tw_sel (A := fun w => St w s (pt b139 (.cells (FleetEvent.cells x129).toArray 148 (0, 0)) :: vecC 148 3 a64 c65 q63.length cs98 :: R)) (B := fun w => St w s (pt b139 (.cells (FleetEvent.cells x129).toArray 148 (0, 0)) :: vecC 148 3 a64 c65 q63.length cs98 :: R)) (w := _) (x := true) (y := true) (fun _ => (hS.dropAt 1)) (fun _ => (hS.dropAt 1))
            have hF := hS; replace hS := (hS.dropAt 1)
            refine Rg.take (i := 2) true rfl hE rfl (by kernel_rfl) (runs_plain rfl) (Gives.nilOk hE rfl) rfl hT ?_; clear hE a; intro a hE
            replace hS := hF; clear hF hT
            refine Rg.takeP (i := 4) hE rfl (by kernel_rfl) (runs_plain rfl) (Gives.p hE rfl) rfl (tw_sel (fun _ => (hS.dropAt 1)) (fun _ => (hS.dropAt 1))) ?_; clear hE a; intro a hE
            have hT := tw_sel (A := fun w => St w s (pt b139 (.cells (FleetEvent.cells x129).toArray 148 (0, 0)) :: vecC 148 3 a64 c65 q63.length cs98 :: R)) (B := fun w => St w s (pt b139 (.cells (FleetEvent.cells x129).toArray 148 (0, 0)) :: vecC 148 3 a64 c65 q63.length cs98 :: R)) (w := _) (x := true) (y := true) (fun _ => (hS.dropAt 1)) (fun _ => (hS.dropAt 1))
            have hF := hS; replace hS := (hS.dropAt 1)
            refine Rg.take (i := 5) true rfl hE rfl (by kernel_rfl) (runs_plain rfl) (Gives.nilOk hE rfl) rfl hT ?_; clear hE a; intro a hE
            replace hS := hF; clear hF hT
            obtain ⟨x238, hx239, hq109⟩ := bindS hq109
            obtain ⟨x248, hx249, hq109⟩ := bindS hq109
            obtain ⟨x259, hx260, hq109⟩ := bindS hq109
            obtain ⟨x268, hx269, hq109⟩ := bindS hq109
            suffices key : ∀ ds270 (a : Act) (w : World), Sl 1 (RI .i64) s a0 c0 x0 → Sl 1 (RI .i64) s a2 c2 x2 → NEv 1 (RI .i64) s ds270 x268 → (x268).length = x103.length → Ev 3 RFleetEvent s cs98 q100 → (q100).length = q63.length → Rep a 103 [(0, .slice a0 x0.length c0), (2, .slice a2 x2.length c2), (9, .slice (some ⟨b105, 0, none⟩) x103.length x103.length), (41, .slice a64 q63.length c65), (42, .int .i64 ((q63.length : Nat) : Int)), (43, .int .i64 ((k111 : Nat) : Int))] → St w s (pt b139 (.cells (FleetEvent.cells x129).toArray 148 (0, 0)) :: nestC 44 3 1 (some ⟨b105, 0, none⟩) x103.length x103.length ds270 :: vecC 148 3 a64 c65 q63.length cs98 :: R) → K237.nor a w by
              refine Rg.many 3 [6] (by kernel_rfl) ⟨?_, ?_, trivial⟩
              · refine Br.mk (i := 3) true true rfl (by kernel_rfl) (by kernel_rfl) ?_
                obtain ⟨hi240, hlt241, hy242⟩ := gx_some hx239
                obtain ⟨a243, c244, cs245, hd246, hev247⟩ := h126.at hy242
                refine WL.vS hS hE (runs_plain rfl) (Gives.load1 (v := .slice a243 x238.length c244) hE rfl (fun w h => St.nSees h 1 rfl hd246) ty44) rfl ?_; clear hE a; intro a hE
                refine WL.nil ?_
                refine ⟨⟨fun _ => (hS.dropAt 1), fun _ => (hS.dropAt 1)⟩, ?_⟩
                refine Rg.one (i := 6) true true rfl (by kernel_rfl) (by kernel_rfl) (by kernel_rfl) ?_
                obtain ⟨hi250, hlt251, hy252⟩ := gx_some hx249
                obtain ⟨a253, c254, cs255, hd256, hev257⟩ := h126.at hy252
                refine WL.vS hS hE (runs_plain rfl) (Gives.load1 (v := .slice a253 x248.length c254) hE rfl (fun w h => St.nSees h 1 rfl hd256) ty44) rfl ?_; clear hE a; intro a hE
                refine WL.nil ?_
                refine ⟨⟨fun _ => (hS.dropAt 1), fun _ => (hS.dropAt 1)⟩, ?_⟩
                refine Rg.takeP (i := 7) hE rfl (by kernel_rfl) (runs_plain rfl) (Gives.len hE rfl sl44) rfl (tw_sel (fun _ => (hS.dropAt 1)) (fun _ => (hS.dropAt 1))) ?_; clear hE a; intro a hE
                refine Rg.takeP (i := 8) hE rfl (by kernel_rfl) (runs_plain rfl) (Gives.p hE rfl) rfl (tw_sel (fun _ => (hS.dropAt 1)) (fun _ => (hS.dropAt 1))) ?_; clear hE a; intro a hE
                replace hS := hS.borrowM 1 rfl hd246
                obtain ⟨_, h261, h262, h263, h264, _⟩ := cutl_some hx260
                have h265 := (hS.vecCap 0 rfl).1
                have h266 : Ev 1 (RI .i64) s (cs245.take ((w64 (((x248).length : Int) - 1)).toNat * 1)) x259 := by rw [h263]; exact hev247.take _
                have hn267 : x259.length = (w64 (((x248).length : Int) - 1)).toNat := by rw [h263]; simp; omega
                replace hS := hS.vecTake 0 rfl (by omega)
                refine Rg.takeP (i := 9) hE rfl (by kernel_rfl) (runs_plain rfl) (Gives.slH hE sl44 rfl rfl h261 (Int.le_trans h262 (by omega)) (sliced_zero _ _ _ _)) rfl (tw_sel (fun _ => ((hS.tail).dropAt 1)) (fun _ => ((hS.tail).dropAt 1))) ?_; clear hE a; intro a hE
                have hT := tw_sel (A := fun w => St w s (pt b139 (.cells (FleetEvent.cells x129).toArray 148 (0, 0)) :: vecC 148 3 a64 c65 q63.length cs98 :: R)) (B := fun w => St w s (pt b139 (.cells (FleetEvent.cells x129).toArray 148 (0, 0)) :: vecC 148 3 a64 c65 q63.length cs98 :: R)) (w := _) (x := true) (y := true) (fun _ => ((hS.tail).dropAt 1)) (fun _ => ((hS.tail).dropAt 1))
                have hF := hS; replace hS := ((hS.tail).dropAt 1)
                refine Rg.take (i := 10) true rfl hE rfl (by kernel_rfl) (runs_plain rfl) (Gives.nilOk hE rfl) rfl hT ?_; clear hE a; intro a hE
                replace hS := hF; clear hF hT
                refine Rg.one (i := 11) true true rfl (by kernel_rfl) (by kernel_rfl) (by kernel_rfl) ?_
                refine WL.storeND hE hS 1 rfl (runs_plain rfl) rfl rfl ty44 h126 hn127 (by have := (sx_some hx269).1; omega) hx269 h266 hn267 rfl ?_; clear hE hS a w; intro ds270 a w h271 hn272 hE hS
                refine WL.nil ?_
                refine ⟨⟨fun _ => (hS.dropAt 1), fun _ => (hS.dropAt 1)⟩, ?_⟩
                refine Rg.done (by kernel_rfl) ?_
                exact key _ _ _ h0 h2 h271 hn272 h99 hn102 (hE.pick _ ⟨rfl, rfl, rfl, rfl, rfl, rfl, trivial⟩) hS
              · refine Br.mk (i := 6) true true rfl (by kernel_rfl) (by kernel_rfl) ?_
                obtain ⟨hi250, hlt251, hy252⟩ := gx_some hx249
                obtain ⟨a253, c254, cs255, hd256, hev257⟩ := h126.at hy252
                refine WL.vS hS hE (runs_plain rfl) (Gives.load1 (v := .slice a253 x248.length c254) hE rfl (fun w h => St.nSees h 1 rfl hd256) ty44) rfl ?_; clear hE a; intro a hE
                refine WL.nil ?_
                refine ⟨⟨fun _ => (hS.dropAt 1), fun _ => (hS.dropAt 1)⟩, ?_⟩
                refine Rg.takeP (i := 7) hE rfl (by kernel_rfl) (runs_plain rfl) (Gives.len hE rfl sl44) rfl (tw_sel (fun _ => (hS.dropAt 1)) (fun _ => (hS.dropAt 1))) ?_; clear hE a; intro a hE
                refine Rg.takeP (i := 8) hE rfl (by kernel_rfl) (runs_plain rfl) (Gives.p hE rfl) rfl (tw_sel (fun _ => (hS.dropAt 1)) (fun _ => (hS.dropAt 1))) ?_; clear hE a; intro a hE
                refine Rg.one (i := 3) true true rfl (by kernel_rfl) (by kernel_rfl) (by kernel_rfl) ?_
                obtain ⟨hi240, hlt241, hy242⟩ := gx_some hx239
                obtain ⟨a243, c244, cs245, hd246, hev247⟩ := h126.at hy242
                refine WL.vS hS hE (runs_plain rfl) (Gives.load1 (v := .slice a243 x238.length c244) hE rfl (fun w h => St.nSees h 1 rfl hd246) ty44) rfl ?_; clear hE a; intro a hE
                refine WL.nil ?_
                refine ⟨⟨fun _ => (hS.dropAt 1), fun _ => (hS.dropAt 1)⟩, ?_⟩
                replace hS := hS.borrowM 1 rfl hd246
                obtain ⟨_, h261, h262, h263, h264, _⟩ := cutl_some hx260
                have h265 := (hS.vecCap 0 rfl).1
                have h266 : Ev 1 (RI .i64) s (cs245.take ((w64 (((x248).length : Int) - 1)).toNat * 1)) x259 := by rw [h263]; exact hev247.take _
                have hn267 : x259.length = (w64 (((x248).length : Int) - 1)).toNat := by rw [h263]; simp; omega
                replace hS := hS.vecTake 0 rfl (by omega)
                refine Rg.takeP (i := 9) hE rfl (by kernel_rfl) (runs_plain rfl) (Gives.slH hE sl44 rfl rfl h261 (Int.le_trans h262 (by omega)) (sliced_zero _ _ _ _)) rfl (tw_sel (fun _ => ((hS.tail).dropAt 1)) (fun _ => ((hS.tail).dropAt 1))) ?_; clear hE a; intro a hE
                have hT := tw_sel (A := fun w => St w s (pt b139 (.cells (FleetEvent.cells x129).toArray 148 (0, 0)) :: vecC 148 3 a64 c65 q63.length cs98 :: R)) (B := fun w => St w s (pt b139 (.cells (FleetEvent.cells x129).toArray 148 (0, 0)) :: vecC 148 3 a64 c65 q63.length cs98 :: R)) (w := _) (x := true) (y := true) (fun _ => ((hS.tail).dropAt 1)) (fun _ => ((hS.tail).dropAt 1))
                have hF := hS; replace hS := ((hS.tail).dropAt 1)
                refine Rg.take (i := 10) true rfl hE rfl (by kernel_rfl) (runs_plain rfl) (Gives.nilOk hE rfl) rfl hT ?_; clear hE a; intro a hE
                replace hS := hF; clear hF hT
                refine Rg.one (i := 11) true true rfl (by kernel_rfl) (by kernel_rfl) (by kernel_rfl) ?_
                refine WL.storeND hE hS 1 rfl (runs_plain rfl) rfl rfl ty44 h126 hn127 (by have := (sx_some hx269).1; omega) hx269 h266 hn267 rfl ?_; clear hE hS a w; intro ds270 a w h271 hn272 hE hS
                refine WL.nil ?_
                refine ⟨⟨fun _ => (hS.dropAt 1), fun _ => (hS.dropAt 1)⟩, ?_⟩
                refine Rg.done (by kernel_rfl) ?_
                exact key _ _ _ h0 h2 h271 hn272 h99 hn102 (hE.pick _ ⟨rfl, rfl, rfl, rfl, rfl, rfl, trivial⟩) hS
            clear hE hS a w; intro ds270 a w h0 h2 h271 hn272 h99 hn102 hE hS
            subst hK237
            refine W.region ?_
            refine WL.vS hS hE (runs_plain rfl) (Gives.inc hE rfl (by omega)) rfl ?_; clear hE a; intro a hE
            refine WL.vS hS hE (runs_plain rfl) (Gives.p hE rfl) rfl ?_; clear hE a; intro a hE
            refine WL.nil ?_
            replace hS := hS.tail
            subst hK128
            exact ⟨rest113, Nat.lt_succ_self _, rest113, k111 + 1, x268, ds270, rfl, (by omega), hq109, h271, hn272, hE.pick _ ⟨rfl, rfl, rfl, rfl, rfl, rfl, trivial⟩, hS⟩
    · clear hE hS a w; rintro a w ⟨q121, ds125, rfl, h126, hn127, hE, hS⟩
      dsimp only at hr
      refine W.seq ?_
      refine W.region ?_
      refine WL.vS hS hE (runs_plain rfl) (Gives.p hE rfl) rfl ?_; clear hE a; intro a hE
      refine WL.nil ?_
      refine W.ret ?_
      refine finG (fn := Try.f74) (rs := [.tmp 6]) (vs := [_]) hE rfl ⟨rfl, trivial⟩ ?_
      obtain rfl := Option.some.inj hr
      replace hS := hS.tail
      replace hS := hS.tail
      exact ⟨rfl, hS⟩
set_option maxHeartbeats 8000000 in
theorem FleetStore_1_v1_ok : ∀ {fu : Nat} {w : World} {s : Sg} {R : List HP} {pb0 : Nat} {pb1 : Nat} {pb2 : Nat} {pb3 : Nat} {x0 : Int} {y0 : List FleetStay} {a_y0_0 : Option Addr} {c_y0_0 : Nat} {y1 : List Int} {a_y1_0 : Option Addr} {c_y1_0 : Nat} {y2 : List Int} {a_v0 : Option Addr} {c_v0 n_v0 : Nat} {cs_v0 : List Value} (_hS : St w s (pt pb0 (.cells #[.slice a_y0_0 y0.length c_y0_0] 53 (0, 0)) :: pt pb1 (.cells #[.slice a_y1_0 y1.length c_y1_0] 44 (0, 0)) :: pt pb2 (.cells #[.slice a_v0 n_v0 c_v0] 44 (0, 0)) :: pt pb3 (.cells #[.func (.func 73) #[] #[.pointer (some ⟨pb0, 0, none⟩), .pointer (some ⟨pb1, 0, none⟩), .pointer (some ⟨pb2, 0, none⟩), .pointer (some ⟨pb3, 0, none⟩)]] 51 (0, 0)) :: vecC 3 1 a_v0 c_v0 n_v0 cs_v0 :: R)) (_h_y0_0 : Sl 2 RFleetStay s a_y0_0 c_y0_0 y0) (_h_y1_0 : Sl 1 (RI .i64) s a_y1_0 c_y1_0 y1) (_h_v0 : Ev 1 (RI .i64) s cs_v0 y2) (_hn_v0 : y2.length = n_v0) {r : Bool × (List Int)} (_hr : FleetStore_1_v1 fu x0 y0 y1 y2 = some r),
    Calls Try.prog 73 [.int .i64 x0, .pointer (some ⟨pb0, 0, none⟩), .pointer (some ⟨pb1, 0, none⟩), .pointer (some ⟨pb2, 0, none⟩), .pointer (some ⟨pb3, 0, none⟩)].toArray w (fun e w => ∃ (cs55 : List Value), e = .returned (.bool r.1) ∧ Ev 1 (RI .i64) s cs55 r.2 ∧ r.2.length = n_v0 ∧ St w s (pt pb0 (.cells #[.slice a_y0_0 y0.length c_y0_0] 53 (0, 0)) :: pt pb1 (.cells #[.slice a_y1_0 y1.length c_y1_0] 44 (0, 0)) :: pt pb2 (.cells #[.slice a_v0 n_v0 c_v0] 44 (0, 0)) :: pt pb3 (.cells #[.func (.func 73) #[] #[.pointer (some ⟨pb0, 0, none⟩), .pointer (some ⟨pb1, 0, none⟩), .pointer (some ⟨pb2, 0, none⟩), .pointer (some ⟨pb3, 0, none⟩)]] 51 (0, 0)) :: vecC 3 1 a_v0 c_v0 n_v0 cs55 :: R)) := by
  intro fu
  induction fu with
  | zero => intro w s R pb0 pb1 pb2 pb3 x0 y0 a_y0_0 c_y0_0 y1 a_y1_0 c_y1_0 y2 a_v0 c_v0 n_v0 cs_v0 hS h_y0_0 h_y1_0 h_v0 hn_v0 r hr; rw [FleetStore_1_v1] at hr; exact absurd hr (by simp)
  | succ fu ih_FleetStore_1_v1 =>
    intro w s R pb0 pb1 pb2 pb3 x0 y0 a_y0_0 c_y0_0 y1 a_y1_0 c_y1_0 y2 a_v0 c_v0 n_v0 cs_v0 hS h_y0_0 h_y1_0 h_v0 hn_v0 r hr
    rw [FleetStore_1_v1] at hr
    generalize FleetStore_1_v1 fu = self_FleetStore_1_v1 at hr ih_FleetStore_1_v1
    refine enter Try.func73 rfl rfl rfl fun a hE => ?_
    subst hn_v0
    refine W.seq ?_
    refine W.region ?_
    refine WL.vS hS hE (runs_plain rfl) (Gives.p hE rfl) rfl ?_; clear hE a; intro a hE
    refine WL.nil ?_
    refine W.seq ?_
    refine W.seq ?_
    refine W.region ?_
    refine WL.vS hS hE (runs_plain rfl) (Gives.p hE rfl) rfl ?_; clear hE a; intro a hE
    refine WL.vS hS hE (runs_plain rfl) (Gives.loadB hE 0 rfl rfl rfl ty53) rfl ?_; clear hE a; intro a hE
    refine WL.vS hS hE (runs_plain rfl) (Gives.len hE rfl sl53) rfl ?_; clear hE a; intro a hE
    refine WL.vS hS hE (runs_plain rfl) (Gives.p hE rfl) rfl ?_; clear hE a; intro a hE
    refine WL.nil ?_
    refine W.cond hE rfl (fun hc57 => ?_) (fun hc57 => ?_)
    · replace hr := iteT hc57 hr
      refine W.seq ?_
      refine W.region ?_
      refine WL.vS hS hE (runs_plain rfl) (Gives.p hE rfl) rfl ?_; clear hE a; intro a hE
      refine WL.nil ?_
      refine W.ret ?_
      refine finG (fn := Try.f73) (rs := [.tmp 6]) (vs := [_]) hE rfl ⟨rfl, trivial⟩ ?_
      obtain rfl := Option.some.inj hr
      exact ⟨cs_v0, rfl, h_v0, (rfl), hS⟩
    · replace hr := iteF hc57 hr
      refine W.skip ?_
      refine W.seq ?_
      refine W.seq ?_
      refine W.region ?_
      refine WL.vS hS hE (runs_plain rfl) (Gives.loadB hE 1 rfl rfl rfl ty44) rfl ?_; clear hE a; intro a hE
      refine WL.vS hS hE (runs_plain rfl) (Gives.len hE rfl sl44) rfl ?_; clear hE a; intro a hE
      refine WL.vS hS hE (runs_plain rfl) (Gives.p hE rfl) rfl ?_; clear hE a; intro a hE
      refine WL.nil ?_
      obtain ⟨q59, hq58, hr⟩ := bindS hr
      refine W.cut (fun a w => ∃ (q69 : List Int), ∃ (cs73 : List Value), (.next q69) = q59 ∧ Ev 1 (RI .i64) s cs73 q69 ∧ q69.length = y2.length ∧ Rep a 35 [] ∧ St w s (pt pb0 (.cells #[.slice a_y0_0 y0.length c_y0_0] 53 (0, 0)) :: pt pb1 (.cells #[.slice a_y1_0 y1.length c_y1_0] 44 (0, 0)) :: pt pb2 (.cells #[.slice a_v0 y2.length c_v0] 44 (0, 0)) :: pt pb3 (.cells #[.func (.func 73) #[] #[.pointer (some ⟨pb0, 0, none⟩), .pointer (some ⟨pb1, 0, none⟩), .pointer (some ⟨pb2, 0, none⟩), .pointer (some ⟨pb3, 0, none⟩)]] 51 (0, 0)) :: vecC 3 1 a_v0 c_v0 y2.length cs73 :: R)) ?_ ?_
      · refine W.block ?_
        refine W.loop (fun m a w => ∃ (rest62 : List Int) (k60 : Nat), ∃ (q69 : List Int), ∃ (cs73 : List Value), rest62.length = m ∧ y1.drop k60 = rest62 ∧ FleetStore_1_v1.loop1 x0 y0 y1 self_FleetStore_1_v1 rest62 k60 q69 = some q59 ∧ Ev 1 (RI .i64) s cs73 q69 ∧ q69.length = y2.length ∧ Rep a 35 [(0, .int .i64 x0), (1, .pointer (some ⟨pb0, 0, none⟩)), (2, .pointer (some ⟨pb1, 0, none⟩)), (3, .pointer (some ⟨pb2, 0, none⟩)), (4, .pointer (some ⟨pb3, 0, none⟩)), (13, .int .i64 ((y1).length : Int)), (14, .int .i64 ((k60 : Nat) : Int))] ∧ St w s (pt pb0 (.cells #[.slice a_y0_0 y0.length c_y0_0] 53 (0, 0)) :: pt pb1 (.cells #[.slice a_y1_0 y1.length c_y1_0] 44 (0, 0)) :: pt pb2 (.cells #[.slice a_v0 y2.length c_v0] 44 (0, 0)) :: pt pb3 (.cells #[.func (.func 73) #[] #[.pointer (some ⟨pb0, 0, none⟩), .pointer (some ⟨pb1, 0, none⟩), .pointer (some ⟨pb2, 0, none⟩), .pointer (some ⟨pb3, 0, none⟩)]] 51 (0, 0)) :: vecC 3 1 a_v0 c_v0 y2.length cs73 :: R)) (m := y1.length) ⟨y1, 0, y2, cs_v0, rfl, rfl, hq58, h_v0, (rfl), hE.pick _ ⟨rfl, rfl, rfl, rfl, rfl, rfl, rfl, trivial⟩, hS⟩ ?_
        clear hE hS a w hq58; rintro m66 a w ⟨rest62, k60, q69, cs73, rfl, hd63, hq58, h72, hn74, hE, hS⟩
        refine W.gen fun K75 hK75 => ?_
        rcases rest62 with _ | ⟨x61, rest62⟩
        · have hlt64 := drop_nil hd63
          refine W.seq ?_
          refine W.region ?_
          refine WL.vS hS hE (runs_plain rfl) (Gives.p hE rfl) rfl ?_; clear hE a; intro a hE
          refine WL.nil ?_
          refine W.seq ?_
          refine W.condF hE rfl (decide_eq_false (by omega)) ?_
          subst hK75
          refine W.exit rfl ?_
          exact ⟨q69, cs73, Option.some.inj hq58, h72, hn74, hE.pick _ trivial, hS⟩
        · obtain ⟨hlt64, hx65, hd63⟩ := drop_cons hd63
          rw [FleetStore_1_v1.loop1] at hq58
          refine W.seq ?_
          refine W.region ?_
          refine WL.vS hS hE (runs_plain rfl) (Gives.p hE rfl) rfl ?_; clear hE a; intro a hE
          refine WL.nil ?_
          refine W.seq ?_
          refine W.condT hE rfl (decide_eq_true (by omega)) ?_
          refine W.skip ?_
          refine W.seq ?_
          refine W.block ?_
          refine W.seq ?_
          refine W.region ?_
          refine WL.vS hS hE (runs_plain rfl) (Gives.p hE rfl) rfl ?_; clear hE a; intro a hE
          refine WL.vS hS hE (runs_plain rfl) (Gives.p hE rfl) rfl ?_; clear hE a; intro a hE
          refine WL.nil ?_
          refine W.seq ?_
          refine W.region ?_
          refine WL.vS hS hE (runs_plain rfl) (Gives.loadB hE 2 rfl rfl rfl ty44) rfl ?_; clear hE a; intro a hE
          refine WL.vS hS hE (runs_plain rfl) (Gives.p hE rfl) rfl ?_; clear hE a; intro a hE
          refine WL.vS hS hE (runs_plain rfl) (Gives.p hE rfl) rfl ?_; clear hE a; intro a hE
          obtain ⟨_, hx77, hq58⟩ := bindS hq58
          obtain ⟨h78, h79⟩ := ix_some hx77
          refine WL.vS hS hE (runs_plain rfl) (Gives.idx hE ((x0).toNat) rfl rfl sl44 h78 (by have := hn74; omega) (hS.vecAok 4 rfl (by have := hn74; omega : (x0).toNat < y2.length))) rfl ?_; clear hE a; intro a hE
          obtain ⟨x81, hx82, hq58⟩ := bindS hq58
          refine WL.setD hE hS 4 rfl (runs_plain rfl) rfl rfl (vs := [.int .i64 ((k60 : Nat) : Int)]) rfl ty3 rfl rfl rfl h72 hn74 (sx_some hx82).1 hx82 rfl rfl ?_; clear hE hS a w; intro cs83 a w h84 hn85 hE hS
          refine WL.nil ?_
          refine W.seq ?_
          obtain ⟨q87, hq86, hq58⟩ := bindS hq58
          refine W.cut (fun a w => ∃ (q90 : Bool), ∃ (q91 : List Int), ∃ (cs95 : List Value), (q90, q91) = q87 ∧ Ev 1 (RI .i64) s cs95 q91 ∧ q91.length = y2.length ∧ Rep a 35 [(0, .int .i64 x0), (1, .pointer (some ⟨pb0, 0, none⟩)), (2, .pointer (some ⟨pb1, 0, none⟩)), (3, .pointer (some ⟨pb2, 0, none⟩)), (4, .pointer (some ⟨pb3, 0, none⟩)), (13, .int .i64 ((y1).length : Int)), (14, .int .i64 ((k60 : Nat) : Int)), (33, .bool q90)] ∧ St w s (pt pb0 (.cells #[.slice a_y0_0 y0.length c_y0_0] 53 (0, 0)) :: pt pb1 (.cells #[.slice a_y1_0 y1.length c_y1_0] 44 (0, 0)) :: pt pb2 (.cells #[.slice a_v0 y2.length c_v0] 44 (0, 0)) :: pt pb3 (.cells #[.func (.func 73) #[] #[.pointer (some ⟨pb0, 0, none⟩), .pointer (some ⟨pb1, 0, none⟩), .pointer (some ⟨pb2, 0, none⟩), .pointer (some ⟨pb3, 0, none⟩)]] 51 (0, 0)) :: vecC 3 1 a_v0 c_v0 y2.length cs95 :: R)) ?_ ?_
          · refine W.gen fun K97 hK97 => ?_
            refine W.gen fun K98 hK98 => ?_
            refine W.regionE (sel (fun w => St w s (pt pb0 (.cells #[.slice a_y0_0 y0.length c_y0_0] 53 (0, 0)) :: pt pb1 (.cells #[.slice a_y1_0 y1.length c_y1_0] 44 (0, 0)) :: pt pb2 (.cells #[.slice a_v0 y2.length c_v0] 44 (0, 0)) :: pt pb3 (.cells #[.func (.func 73) #[] #[.pointer (some ⟨pb0, 0, none⟩), .pointer (some ⟨pb1, 0, none⟩), .pointer (some ⟨pb2, 0, none⟩), .pointer (some ⟨pb3, 0, none⟩)]] 51 (0, 0)) :: vecC 3 1 a_v0 c_v0 y2.length cs83 :: R)) (fun w => St w s (pt pb0 (.cells #[.slice a_y0_0 y0.length c_y0_0] 53 (0, 0)) :: pt pb1 (.cells #[.slice a_y1_0 y1.length c_y1_0] 44 (0, 0)) :: pt pb2 (.cells #[.slice a_v0 y2.length c_v0] 44 (0, 0)) :: pt pb3 (.cells #[.func (.func 73) #[] #[.pointer (some ⟨pb0, 0, none⟩), .pointer (some ⟨pb1, 0, none⟩), .pointer (some ⟨pb2, 0, none⟩), .pointer (some ⟨pb3, 0, none⟩)]] 51 (0, 0)) :: R))) (fun b i => cond b ([0, 1, 2, 3, 4, 5, 6, 7, 8, 9, 10, 12].contains i) ([0, 1, 2, 3, 4, 5, 6, 7, 8, 9, 10, 11, 12].contains i)) mixed ?_
            replace hS := hS.drew
            have hT := tw_sel (A := fun w => St w s (pt pb0 (.cells #[.slice a_y0_0 y0.length c_y0_0] 53 (0, 0)) :: pt pb1 (.cells #[.slice a_y1_0 y1.length c_y1_0] 44 (0, 0)) :: pt pb2 (.cells #[.slice a_v0 y2.length c_v0] 44 (0, 0)) :: pt pb3 (.cells #[.func (.func 73) #[] #[.pointer (some ⟨pb0, 0, none⟩), .pointer (some ⟨pb1, 0, none⟩), .pointer (some ⟨pb2, 0, none⟩), .pointer (some ⟨pb3, 0, none⟩)]] 51 (0, 0)) :: vecC 3 1 a_v0 c_v0 y2.length cs83 :: R)) (B := fun w => St w s (pt pb0 (.cells #[.slice a_y0_0 y0.length c_y0_0] 53 (0, 0)) :: pt pb1 (.cells #[.slice a_y1_0 y1.length c_y1_0] 44 (0, 0)) :: pt pb2 (.cells #[.slice a_v0 y2.length c_v0] 44 (0, 0)) :: pt pb3 (.cells #[.func (.func 73) #[] #[.pointer (some ⟨pb0, 0, none⟩), .pointer (some ⟨pb1, 0, none⟩), .pointer (some ⟨pb2, 0, none⟩), .pointer (some ⟨pb3, 0, none⟩)]] 51 (0, 0)) :: R)) (w := _) (x := true) (y := true) (fun _ => hS) (fun _ => (hS.dropAt 4))
            have hF := hS; replace hS := (hS.dropAt 4)
            refine Rg.take (i := 0) false rfl hE rfl (by kernel_rfl) (runs_plain rfl) (Gives.loadB hE 1 rfl rfl rfl ty44) rfl hT ?_; clear hE a; intro a hE
            replace hS := hF; clear hF hT
            have hT := tw_sel (A := fun w => St w s (pt pb0 (.cells #[.slice a_y0_0 y0.length c_y0_0] 53 (0, 0)) :: pt pb1 (.cells #[.slice a_y1_0 y1.length c_y1_0] 44 (0, 0)) :: pt pb2 (.cells #[.slice a_v0 y2.length c_v0] 44 (0, 0)) :: pt pb3 (.cells #[.func (.func 73) #[] #[.pointer (some ⟨pb0, 0, none⟩), .pointer (some ⟨pb1, 0, none⟩), .pointer (some ⟨pb2, 0, none⟩), .pointer (some ⟨pb3, 0, none⟩)]] 51 (0, 0)) :: vecC 3 1 a_v0 c_v0 y2.length cs83 :: R)) (B := fun w => St w s (pt pb0 (.cells #[.slice a_y0_0 y0.length c_y0_0] 53 (0, 0)) :: pt pb1 (.cells #[.slice a_y1_0 y1.length c_y1_0] 44 (0, 0)) :: pt pb2 (.cells #[.slice a_v0 y2.length c_v0] 44 (0, 0)) :: pt pb3 (.cells #[.func (.func 73) #[] #[.pointer (some ⟨pb0, 0, none⟩), .pointer (some ⟨pb1, 0, none⟩), .pointer (some ⟨pb2, 0, none⟩), .pointer (some ⟨pb3, 0, none⟩)]] 51 (0, 0)) :: R)) (w := _) (x := true) (y := true) (fun _ => hS) (fun _ => (hS.dropAt 4))
            have hF := hS; replace hS := (hS.dropAt 4)
            refine Rg.take (i := 1) false rfl hE rfl (by kernel_rfl) (runs_plain rfl) (Gives.loadB hE 0 rfl rfl rfl ty53) rfl hT ?_; clear hE a; intro a hE
            replace hS := hF; clear hF hT
            have hT := tw_sel (A := fun w => St w s (pt pb0 (.cells #[.slice a_y0_0 y0.length c_y0_0] 53 (0, 0)) :: pt pb1 (.cells #[.slice a_y1_0 y1.length c_y1_0] 44 (0, 0)) :: pt pb2 (.cells #[.slice a_v0 y2.length c_v0] 44 (0, 0)) :: pt pb3 (.cells #[.func (.func 73) #[] #[.pointer (some ⟨pb0, 0, none⟩), .pointer (some ⟨pb1, 0, none⟩), .pointer (some ⟨pb2, 0, none⟩), .pointer (some ⟨pb3, 0, none⟩)]] 51 (0, 0)) :: vecC 3 1 a_v0 c_v0 y2.length cs83 :: R)) (B := fun w => St w s (pt pb0 (.cells #[.slice a_y0_0 y0.length c_y0_0] 53 (0, 0)) :: pt pb1 (.cells #[.slice a_y1_0 y1.length c_y1_0] 44 (0, 0)) :: pt pb2 (.cells #[.slice a_v0 y2.length c_v0] 44 (0, 0)) :: pt pb3 (.cells #[.func (.func 73) #[] #[.pointer (some ⟨pb0, 0, none⟩), .pointer (some ⟨pb1, 0, none⟩), .pointer (some ⟨pb2, 0, none⟩), .pointer (some ⟨pb3, 0, none⟩)]] 51 (0, 0)) :: R)) (w := _) (x := true) (y := true) (fun _ => hS) (fun _ => (hS.dropAt 4))
            have hF := hS; replace hS := (hS.dropAt 4)
            refine Rg.take (i := 2) false rfl hE rfl (by kernel_rfl) (runs_plain rfl) (Gives.loadB hE 2 rfl rfl rfl ty44) rfl hT ?_; clear hE a; intro a hE
            replace hS := hF; clear hF hT
            refine Rg.takeP (i := 3) hE rfl (by kernel_rfl) (runs_plain rfl) (Gives.p hE rfl) rfl (tw_sel (fun _ => hS) (fun _ => (hS.dropAt 4))) ?_; clear hE a; intro a hE
            refine Rg.takeP (i := 4) hE rfl (by kernel_rfl) (runs_plain rfl) (Gives.p hE rfl) rfl (tw_sel (fun _ => hS) (fun _ => (hS.dropAt 4))) ?_; clear hE a; intro a hE
            obtain ⟨x99, hx100, hq86⟩ := bindS hq86
            obtain ⟨h101, h102, h103, h104, h105, h106⟩ := cutl_some hx100
            have h107 := (hS.vecCap 4 rfl).1
            refine Rg.takeP (i := 5) hE rfl (by kernel_rfl) (runs_plain rfl) (Gives.slH hE sl44 rfl rfl h102 (Int.le_trans h103 (by have := hn85; omega)) (cutA_val hx100 _ _ _)) rfl (tw_sel (fun _ => hS) (fun _ => (hS.dropAt 4))) ?_; clear hE a; intro a hE
            refine Rg.one (i := 6) true true rfl (by kernel_rfl) (by kernel_rfl) (by kernel_rfl) ?_
            obtain ⟨q108, hq109, hq86⟩ := bindS hq86
            have hF := hS.lendV RI.mono 4 rfl h84 hn85; clear hS; obtain ⟨t110, hle111, hS, hs112, bk113⟩ := hF
            have hc_ := Fleetstored_ok hS (Sl.mono RI.mono hle111 h_y1_0) (Sl.mono RFleetStay.mono hle111 h_y0_0) (Sl.cutA hs112 hx100) hq109
            refine WL.fnq hE (hc_) (runs_plain rfl) bd74 rfl rfl rfl ?_
            clear hE hS hc_; rintro e w ⟨rfl, hS⟩; refine ⟨_, rfl, ?_⟩; clear a; intro a hE
            replace hS := bk113 _ _ hS
            refine WL.nil ?_
            refine ⟨⟨fun _ => (St.front (St.front (St.front (St.front hS 4 rfl) 4 rfl) 4 rfl) 4 rfl), fun _ => (hS.tail)⟩, ?_⟩
            refine Rg.takeP (i := 7) hE rfl (by kernel_rfl) (runs_plain rfl) (Gives.p hE rfl) rfl (tw_sel (fun _ => (St.front (St.front (St.front (St.front hS 4 rfl) 4 rfl) 4 rfl) 4 rfl)) (fun _ => (hS.tail))) ?_; clear hE a; intro a hE
            rcases Bool.eq_false_or_eq_true q108 with hg114 | hg114
            · replace hq86 := iteT hg114 hq86
              have hT := tw_sel (A := fun w => St w s (pt pb0 (.cells #[.slice a_y0_0 y0.length c_y0_0] 53 (0, 0)) :: pt pb1 (.cells #[.slice a_y1_0 y1.length c_y1_0] 44 (0, 0)) :: pt pb2 (.cells #[.slice a_v0 y2.length c_v0] 44 (0, 0)) :: pt pb3 (.cells #[.func (.func 73) #[] #[.pointer (some ⟨pb0, 0, none⟩), .pointer (some ⟨pb1, 0, none⟩), .pointer (some ⟨pb2, 0, none⟩), .pointer (some ⟨pb3, 0, none⟩)]] 51 (0, 0)) :: vecC 3 1 a_v0 c_v0 y2.length cs83 :: R)) (B := fun w => St w s (pt pb0 (.cells #[.slice a_y0_0 y0.length c_y0_0] 53 (0, 0)) :: pt pb1 (.cells #[.slice a_y1_0 y1.length c_y1_0] 44 (0, 0)) :: pt pb2 (.cells #[.slice a_v0 y2.length c_v0] 44 (0, 0)) :: pt pb3 (.cells #[.func (.func 73) #[] #[.pointer (some ⟨pb0, 0, none⟩), .pointer (some ⟨pb1, 0, none⟩), .pointer (some ⟨pb2, 0, none⟩), .pointer (some ⟨pb3, 0, none⟩)]] 51 (0, 0)) :: R)) (w := _) (x := true) (y := true) (fun _ => (St.front (St.front (St.front (St.front hS 4 rfl) 4 rfl) 4 rfl) 4 rfl)) (fun _ => (hS.tail))
              have hF := hS; replace hS := (St.front (St.front (St.front (St.front hS 4 rfl) 4 rfl) 4 rfl) 4 rfl)
              refine Rg.take (i := 8) true rfl hE rfl (by kernel_rfl) (runs_if hE rfl rfl rfl hg114) (Gives.loadB hE 3 rfl rfl rfl ty51) rfl hT ?_; clear hE a; intro a hE
              replace hS := hF; clear hF hT
              refine Rg.takeP (i := 9) hE rfl (by kernel_rfl) (runs_if hE rfl rfl rfl hg114) (Gives.p hE rfl) rfl (tw_sel (fun _ => (St.front (St.front (St.front (St.front hS 4 rfl) 4 rfl) 4 rfl) 4 rfl)) (fun _ => (hS.tail))) ?_; clear hE a; intro a hE
              refine Rg.takeP (i := 10) hE rfl (by kernel_rfl) (runs_if hE rfl rfl rfl hg114) (Gives.p hE rfl) rfl (tw_sel (fun _ => (St.front (St.front (St.front (St.front hS 4 rfl) 4 rfl) 4 rfl) 4 rfl)) (fun _ => (hS.tail))) ?_; clear hE a; intro a hE
              refine Rg.one (i := 11) false true rfl (by kernel_rfl) (by kernel_rfl) (by kernel_rfl) ?_
              obtain ⟨q115, hq116, hq86⟩ := bindS hq86
              replace hS := hS.front 0 rfl
              replace hS := hS.front 4 rfl
              replace hS := hS.front 4 rfl
              replace hS := hS.front 4 rfl
              replace hS := hS.front 4 rfl
              have hc_ := ih_FleetStore_1_v1 hS h_y0_0 h_y1_0 h84 hn85 hq116
              refine WL.fnw hE (hc_) rfl (runs_if hE rfl rfl rfl hg114) bd73 rfl rfl rfl ?_
              clear hE hS hc_; rintro e w ⟨cs117, rfl, h118, hn119, hS⟩; refine ⟨_, rfl, ?_⟩; clear a; intro a hE
              refine WL.nil ?_
              refine ⟨⟨fun h => absurd h (by decide), fun _ => (hS.dropAt 4)⟩, ?_⟩
              refine Rg.takeP (i := 12) hE rfl (by kernel_rfl) (runs_plain rfl) (Gives.pickT hE rfl hg114 rfl) rfl (tw_sel (fun h => absurd h (by decide)) (fun _ => (hS.dropAt 4))) ?_; clear hE a; intro a hE
              refine Rg.done (by kernel_rfl) ?_
              subst hK98
              subst hK97
              exact ⟨q115.1, q115.2, cs117, Option.some.inj hq86, h118, hn119, hE.pick _ ⟨rfl, rfl, rfl, rfl, rfl, rfl, rfl, rfl, trivial⟩, hS⟩
            · replace hq86 := iteF hg114 hq86
              refine Rg.no (i := 8) hE rfl (by kernel_rfl) (runs_not hE rfl rfl rfl (by rw [hg114]; decide)) rfl (tw_sel (fun _ => (St.front (St.front (St.front (St.front hS 4 rfl) 4 rfl) 4 rfl) 4 rfl)) (fun _ => (hS.tail))) ?_; clear hE a; intro a hE
              refine Rg.no (i := 9) hE rfl (by kernel_rfl) (runs_not hE rfl rfl rfl (by rw [hg114]; decide)) rfl (tw_sel (fun _ => (St.front (St.front (St.front (St.front hS 4 rfl) 4 rfl) 4 rfl) 4 rfl)) (fun _ => (hS.tail))) ?_; clear hE a; intro a hE
              refine Rg.no (i := 10) hE rfl (by kernel_rfl) (runs_not hE rfl rfl rfl (by rw [hg114]; decide)) rfl (tw_sel (fun _ => (St.front (St.front (St.front (St.front hS 4 rfl) 4 rfl) 4 rfl) 4 rfl)) (fun _ => (hS.tail))) ?_; clear hE a; intro a hE
              refine Rg.one (i := 11) false true rfl (by kernel_rfl) (by kernel_rfl) (by kernel_rfl) ?_
              refine WL.no hE (runs_not hE rfl rfl rfl (by rw [hg114]; decide)) rfl ?_; clear hE a; intro a hE
              refine WL.nil ?_
              refine ⟨⟨fun h => absurd h (by decide), fun _ => (hS.tail)⟩, ?_⟩
              refine Rg.takeP (i := 12) hE rfl (by kernel_rfl) (runs_plain rfl) (Gives.pickF hE rfl hg114 rfl) rfl (tw_sel (fun h => absurd h (by decide)) (fun _ => (hS.tail))) ?_; clear hE a; intro a hE
              refine Rg.done (by kernel_rfl) ?_
              subst hK98
              replace hS := hS.front 4 rfl
              replace hS := hS.front 4 rfl
              replace hS := hS.front 4 rfl
              replace hS := hS.front 4 rfl
              subst hK97
              exact ⟨false, x81, cs83, Option.some.inj hq86, h84, hn85, hE.pick _ ⟨rfl, rfl, rfl, rfl, rfl, rfl, rfl, rfl, trivial⟩, hS⟩
          · clear hE hS a w; rintro a w ⟨q90, q91, cs95, rfl, h94, hn96, hE, hS⟩
            dsimp only at hq58
            refine W.cond hE rfl (fun hc120 => ?_) (fun hc120 => ?_)
            · replace hq58 := iteT hc120 hq58
              refine W.seq ?_
              refine W.region ?_
              refine WL.vS hS hE (runs_plain rfl) (Gives.p hE rfl) rfl ?_; clear hE a; intro a hE
              refine WL.nil ?_
              refine W.ret ?_
              subst hK75
              rw [← Option.some.inj hq58] at hr
              dsimp only at hr
              refine finG (fn := Try.f73) (rs := [.tmp 6]) (vs := [_]) hE rfl ⟨rfl, trivial⟩ ?_
              obtain rfl := Option.some.inj hr
              exact ⟨cs95, rfl, h94, hn96, hS⟩
            · replace hq58 := iteF hc120 hq58
              refine W.skip ?_
              refine W.region ?_
              refine WL.vS hS hE (runs_plain rfl) (Gives.inc hE rfl (by have := h_y1_0.small; omega)) rfl ?_; clear hE a; intro a hE
              refine WL.vS hS hE (runs_plain rfl) (Gives.p hE rfl) rfl ?_; clear hE a; intro a hE
              refine WL.nil ?_
              subst hK75
              exact ⟨rest62.length, Nat.lt_succ_self _, rest62, k60 + 1, q91, cs95, rfl, hd63, hq58, h94, hn96, hE.pick _ ⟨rfl, rfl, rfl, rfl, rfl, rfl, rfl, trivial⟩, hS⟩
      · clear hE hS a w; rintro a w ⟨q69, cs73, rfl, h72, hn74, hE, hS⟩
        dsimp only at hr
        refine W.seq ?_
        refine W.region ?_
        refine WL.vS hS hE (runs_plain rfl) (Gives.p hE rfl) rfl ?_; clear hE a; intro a hE
        refine WL.nil ?_
        refine W.ret ?_
        refine finG (fn := Try.f73) (rs := [.tmp 6]) (vs := [_]) hE rfl ⟨rfl, trivial⟩ ?_
        obtain rfl := Option.some.inj hr
        exact ⟨cs73, rfl, h72, hn74, hS⟩
set_option maxHeartbeats 8000000 in
theorem FleetStore_ok {fu : Nat}  {w : World} {s : Sg} {R : List HP} {x0 : List Int} {a0 : Option Addr} {c0 : Nat} {x1 : List FleetStay} {a1 : Option Addr} {c1 : Nat} (hS : St w s (R)) (h0 : Sl 1 (RI .i64) s a0 c0 x0) (h1 : Sl 2 RFleetStay s a1 c1 x1) {r : (List Int) × Int} (hr : FleetStore fu x0 x1 = some r) :
    Calls Try.prog 27 [.slice a0 x0.length c0, .slice a1 x1.length c1].toArray w (fun e w => ∃ (a0 : Option Addr) (c0 n0 : Nat) (cs0 : List Value), e = .returned (.tuple #[.slice a0 n0 c0, .int .i64 r.2]) ∧ Ev 1 (RI .i64) s cs0 r.1 ∧ r.1.length = n0 ∧ St w s (vecC 3 1 a0 c0 n0 cs0 :: R)) := by
  refine enter Try.func27 rfl rfl rfl fun a hE => ?_
  rw [FleetStore] at hr
  refine W.seq ?_
  refine W.region ?_
  refine WL.box hE hS (runs_plain rfl) rfl rfl rfl ?_; clear hE hS a w; intro b51 a w hE hS
  refine WL.box hE hS (runs_plain rfl) rfl rfl rfl ?_; clear hE hS a w; intro b52 a w hE hS
  refine WL.vS hS hE (runs_plain rfl) (Gives.p hE rfl) rfl ?_; clear hE a; intro a hE
  refine WL.vS hS hE (runs_plain rfl) (Gives.p hE rfl) rfl ?_; clear hE a; intro a hE
  refine WL.nil ?_
  refine W.seq ?_
  refine W.seq ?_
  obtain ⟨q54, hq53, hr⟩ := bndS hr
  refine W.cut (fun a w => ∃ (q57 : Bool), q57 = q54 ∧ Rep a 101 [(2, .pointer (some ⟨b51, 0, none⟩)), (3, .pointer (some ⟨b52, 0, none⟩)), (22, .bool q57)] ∧ St w s (pt b52 (.cells #[.slice a1 x1.length c1] 53 (0, 0)) :: pt b51 (.cells #[.slice a0 x0.length c0] 44 (0, 0)) :: R)) ?_ ?_
  · refine W.gen fun K58 hK58 => ?_
    refine W.region ?_
    refine WL.vS hS hE (runs_plain rfl) (Gives.loadB hE 1 rfl rfl rfl ty44) rfl ?_; clear hE a; intro a hE
    refine WL.vS hS hE (runs_plain rfl) (Gives.len hE rfl sl44) rfl ?_; clear hE a; intro a hE
    refine WL.fnq hE (Fleetwithin_ok hS  rfl (r := Fleetwithin ((x0).length : Int) 1 4)) (runs_plain rfl) bd37 rfl rfl rfl ?_
    clear hE hS; rintro e w ⟨rfl, hS⟩; refine ⟨_, rfl, ?_⟩; clear a; intro a hE
    refine WL.vS hS hE (runs_plain rfl) (Gives.p hE rfl) rfl ?_; clear hE a; intro a hE
    refine WL.vS hS hE (runs_plain rfl) (Gives.p hE rfl) rfl ?_; clear hE a; intro a hE
    rcases Bool.eq_false_or_eq_true (!(Fleetwithin ((x0).length : Int) 1 4)) with hg59 | hg59
    · replace hq53 := iteT hg59 hq53
      refine WL.no hE (runs_not hE rfl rfl rfl (by rw [hg59]; decide)) rfl ?_; clear hE a; intro a hE
      refine WL.no hE (runs_not hE rfl rfl rfl (by rw [hg59]; decide)) rfl ?_; clear hE a; intro a hE
      refine WL.no hE (runs_not hE rfl rfl rfl (by rw [hg59]; decide)) rfl ?_; clear hE a; intro a hE
      refine WL.vS hS hE (runs_plain rfl) (Gives.pickT hE rfl hg59 rfl) rfl ?_; clear hE a; intro a hE
      refine WL.nil ?_
      subst hK58
      exact ⟨true, hq53, hE.pick _ ⟨rfl, rfl, rfl, trivial⟩, hS⟩
    · replace hq53 := iteF hg59 hq53
      refine WL.vS hS hE (runs_if hE rfl rfl rfl hg59) (Gives.loadB hE 0 rfl rfl rfl ty53) rfl ?_; clear hE a; intro a hE
      refine WL.vS hS hE (runs_if hE rfl rfl rfl hg59) (Gives.len hE rfl sl53) rfl ?_; clear hE a; intro a hE
      refine WL.vS hS hE (runs_if hE rfl rfl rfl hg59) (Gives.p hE rfl) rfl ?_; clear hE a; intro a hE
      refine WL.vS hS hE (runs_plain rfl) (Gives.pickF hE rfl hg59 rfl) rfl ?_; clear hE a; intro a hE
      refine WL.nil ?_
      subst hK58
      exact ⟨decide (((x1).length : Int) > 8), hq53, hE.pick _ ⟨rfl, rfl, rfl, trivial⟩, hS⟩
  · clear hE hS a w; rintro a w ⟨q57, rfl, hE, hS⟩
    refine W.cond hE rfl (fun hc60 => ?_) (fun hc60 => ?_)
    · replace hr := iteT hc60 hr
      refine W.seq ?_
      refine W.region ?_
      refine WL.vS hS hE (runs_plain rfl) (Gives.p hE rfl) rfl ?_; clear hE a; intro a hE
      refine WL.vS hS hE (runs_plain rfl) (Gives.p hE rfl) rfl ?_; clear hE a; intro a hE
      refine WL.nil ?_
      refine W.ret ?_
      replace hS := hS.vecNil 3 1
      refine finG (fn := Try.f27) (rs := [.tmp 4, .tmp 5]) (vs := [_, _]) hE rfl ⟨rfl, rfl, trivial⟩ ?_
      obtain rfl := Option.some.inj hr
      replace hS := hS.dropAt 1
      replace hS := hS.dropAt 1
      exact ⟨none, 0, 0, [], rfl, (Ev.nil), (rfl), hS⟩
    · replace hr := iteF hc60 hr
      refine W.skip ?_
      refine W.seq ?_
      refine W.seq ?_
      refine W.region ?_
      refine WL.vS hS hE (runs_plain rfl) (Gives.loadB hE 1 rfl rfl rfl ty44) rfl ?_; clear hE a; intro a hE
      refine WL.vS hS hE (runs_plain rfl) (Gives.len hE rfl sl44) rfl ?_; clear hE a; intro a hE
      refine WL.vS hS hE (runs_plain rfl) (Gives.p hE rfl) rfl ?_; clear hE a; intro a hE
      refine WL.nil ?_
      obtain ⟨q63, hq62, hr⟩ := bndS hr
      refine W.cut (fun a w => (.next ()) = q63 ∧ Rep a 101 [(2, .pointer (some ⟨b51, 0, none⟩)), (3, .pointer (some ⟨b52, 0, none⟩))] ∧ St w s (pt b52 (.cells #[.slice a1 x1.length c1] 53 (0, 0)) :: pt b51 (.cells #[.slice a0 x0.length c0] 44 (0, 0)) :: R)) ?_ ?_
      · refine W.block ?_
        refine W.loop (fun m a w => ∃ (rest66 : List Int) (k64 : Nat), rest66.length = m ∧ x0.drop k64 = rest66 ∧ FleetStore.loop1 rest66 = q63 ∧ Rep a 101 [(2, .pointer (some ⟨b51, 0, none⟩)), (3, .pointer (some ⟨b52, 0, none⟩)), (23, .slice a0 x0.length c0), (24, .int .i64 ((x0).length : Int)), (25, .int .i64 ((k64 : Nat) : Int))] ∧ St w s (pt b52 (.cells #[.slice a1 x1.length c1] 53 (0, 0)) :: pt b51 (.cells #[.slice a0 x0.length c0] 44 (0, 0)) :: R)) (m := x0.length) ⟨x0, 0, rfl, rfl, hq62, hE.pick _ ⟨rfl, rfl, rfl, rfl, rfl, trivial⟩, hS⟩ ?_
        clear hE hS a w hq62; rintro m70 a w ⟨rest66, k64, rfl, hd67, hq62, hE, hS⟩
        refine W.gen fun K73 hK73 => ?_
        rcases rest66 with _ | ⟨x65, rest66⟩
        · have hlt68 := drop_nil hd67
          refine W.seq ?_
          refine W.region ?_
          refine WL.vS hS hE (runs_plain rfl) (Gives.p hE rfl) rfl ?_; clear hE a; intro a hE
          refine WL.nil ?_
          refine W.seq ?_
          refine W.condF hE rfl (decide_eq_false (by omega)) ?_
          subst hK73
          refine W.exit rfl ?_
          exact ⟨hq62, hE.pick _ ⟨rfl, rfl, trivial⟩, hS⟩
        · obtain ⟨hlt68, hx69, hd67⟩ := drop_cons hd67
          rw [FleetStore.loop1] at hq62
          refine W.seq ?_
          refine W.region ?_
          refine WL.vS hS hE (runs_plain rfl) (Gives.p hE rfl) rfl ?_; clear hE a; intro a hE
          refine WL.nil ?_
          refine W.seq ?_
          refine W.condT hE rfl (decide_eq_true (by omega)) ?_
          refine W.skip ?_
          refine W.seq ?_
          refine W.block ?_
          refine W.seq ?_
          refine W.region ?_
          obtain ⟨cs74, hl75, hR76, hat77⟩ := h0.at hx69
          subst hR76
          refine WL.vS hS hE (runs_plain rfl) (Gives.idx hE k64 rfl rfl sl44 rfl hlt68 (h0.aok hlt68)) rfl ?_; clear hE a; intro a hE
          refine WL.vS hS hE (runs_plain rfl) (Gives.load1 hE rfl (fun w h => hat77 w _ h) ty3) rfl ?_; clear hE a; intro a hE
          refine WL.vS hS hE (runs_plain rfl) (Gives.p hE rfl) rfl ?_; clear hE a; intro a hE
          refine WL.nil ?_
          refine W.seq ?_
          refine W.region ?_
          refine WL.vS hS hE (runs_plain rfl) (Gives.p hE rfl) rfl ?_; clear hE a; intro a hE
          refine WL.fnq hE (Fleetwithin_ok hS  rfl (r := Fleetwithin x65 1 4)) (runs_plain rfl) bd37 rfl rfl rfl ?_
          clear hE hS; rintro e w ⟨rfl, hS⟩; refine ⟨_, rfl, ?_⟩; clear a; intro a hE
          refine WL.vS hS hE (runs_plain rfl) (Gives.p hE rfl) rfl ?_; clear hE a; intro a hE
          refine WL.nil ?_
          refine W.cond hE rfl (fun hc78 => ?_) (fun hc78 => ?_)
          · replace hq62 := iteT hc78 hq62
            refine W.seq ?_
            refine W.region ?_
            refine WL.vS hS hE (runs_plain rfl) (Gives.p hE rfl) rfl ?_; clear hE a; intro a hE
            refine WL.vS hS hE (runs_plain rfl) (Gives.p hE rfl) rfl ?_; clear hE a; intro a hE
            refine WL.nil ?_
            refine W.ret ?_
            subst hK73
            rw [← hq62] at hr
            dsimp only at hr
            replace hS := hS.vecNil 3 1
            refine finG (fn := Try.f27) (rs := [.tmp 4, .tmp 5]) (vs := [_, _]) hE rfl ⟨rfl, rfl, trivial⟩ ?_
            obtain rfl := Option.some.inj hr
            replace hS := hS.dropAt 1
            replace hS := hS.dropAt 1
            exact ⟨none, 0, 0, [], rfl, (Ev.nil), (rfl), hS⟩
          · replace hq62 := iteF hc78 hq62
            refine W.skip ?_
            refine W.region ?_
            refine WL.vS hS hE (runs_plain rfl) (Gives.inc hE rfl (by have := h0.small; omega)) rfl ?_; clear hE a; intro a hE
            refine WL.vS hS hE (runs_plain rfl) (Gives.p hE rfl) rfl ?_; clear hE a; intro a hE
            refine WL.nil ?_
            subst hK73
            exact ⟨rest66.length, Nat.lt_succ_self _, rest66, k64 + 1, rfl, hd67, hq62, hE.pick _ ⟨rfl, rfl, rfl, rfl, rfl, trivial⟩, hS⟩
      · clear hE hS a w; rintro a w ⟨rfl, hE, hS⟩
        dsimp only at hr
        refine W.seq ?_
        refine W.seq ?_
        refine W.region ?_
        refine WL.vS hS hE (runs_plain rfl) (Gives.loadB hE 0 rfl rfl rfl ty53) rfl ?_; clear hE a; intro a hE
        refine WL.vS hS hE (runs_plain rfl) (Gives.len hE rfl sl53) rfl ?_; clear hE a; intro a hE
        refine WL.vS hS hE (runs_plain rfl) (Gives.p hE rfl) rfl ?_; clear hE a; intro a hE
        refine WL.nil ?_
        obtain ⟨q81, hq80, hr⟩ := bindS hr
        refine W.cut (fun a w => (.next ()) = q81 ∧ Rep a 101 [(2, .pointer (some ⟨b51, 0, none⟩)), (3, .pointer (some ⟨b52, 0, none⟩))] ∧ St w s (pt b52 (.cells #[.slice a1 x1.length c1] 53 (0, 0)) :: pt b51 (.cells #[.slice a0 x0.length c0] 44 (0, 0)) :: R)) ?_ ?_
        · refine W.block ?_
          refine W.loop (fun m a w => ∃ (rest84 : List FleetStay) (k82 : Nat), rest84.length = m ∧ x1.drop k82 = rest84 ∧ FleetStore.loop2 x1 rest84 k82 = some q81 ∧ Rep a 101 [(2, .pointer (some ⟨b51, 0, none⟩)), (3, .pointer (some ⟨b52, 0, none⟩)), (33, .slice a1 x1.length c1), (34, .int .i64 ((x1).length : Int)), (35, .int .i64 ((k82 : Nat) : Int))] ∧ St w s (pt b52 (.cells #[.slice a1 x1.length c1] 53 (0, 0)) :: pt b51 (.cells #[.slice a0 x0.length c0] 44 (0, 0)) :: R)) (m := x1.length) ⟨x1, 0, rfl, rfl, hq80, hE.pick _ ⟨rfl, rfl, rfl, rfl, rfl, trivial⟩, hS⟩ ?_
          clear hE hS a w hq80; rintro m88 a w ⟨rest84, k82, rfl, hd85, hq80, hE, hS⟩
          refine W.gen fun K91 hK91 => ?_
          rcases rest84 with _ | ⟨x83, rest84⟩
          · have hlt86 := drop_nil hd85
            refine W.seq ?_
            refine W.region ?_
            refine WL.vS hS hE (runs_plain rfl) (Gives.p hE rfl) rfl ?_; clear hE a; intro a hE
            refine WL.nil ?_
            refine W.seq ?_
            refine W.condF hE rfl (decide_eq_false (by omega)) ?_
            subst hK91
            refine W.exit rfl ?_
            exact ⟨Option.some.inj hq80, hE.pick _ ⟨rfl, rfl, trivial⟩, hS⟩
          · obtain ⟨hlt86, hx87, hd85⟩ := drop_cons hd85
            rw [FleetStore.loop2] at hq80
            refine W.seq ?_
            refine W.region ?_
            refine WL.vS hS hE (runs_plain rfl) (Gives.p hE rfl) rfl ?_; clear hE a; intro a hE
            refine WL.nil ?_
            refine W.seq ?_
            refine W.condT hE rfl (decide_eq_true (by omega)) ?_
            refine W.skip ?_
            refine W.seq ?_
            refine W.block ?_
            refine W.seq ?_
            refine W.region ?_
            refine WL.vS hS hE (runs_plain rfl) (Gives.p hE rfl) rfl ?_; clear hE a; intro a hE
            obtain ⟨cs92, hl93, hR94, hat95⟩ := h1.at hx87
            subst hR94
            refine WL.vS hS hE (runs_plain rfl) (Gives.idx hE k82 rfl rfl sl53 rfl hlt86 (h1.aok hlt86)) rfl ?_; clear hE a; intro a hE
            refine WL.vS hS hE (runs_plain rfl) (Gives.loadA hE rfl (fun w h => hat95 w _ h) ty105) rfl ?_; clear hE a; intro a hE
            refine WL.alloc hE hS (runs_plain rfl) zr105 rfl ?_; clear hE hS a w; intro b96 a w hE hS
            refine WL.vS hS hE (runs_plain rfl) (Gives.p hE rfl) rfl ?_; clear hE a; intro a hE
            refine WL.storeI hE hS 0 rfl (FleetStay.cells x83) (runs_plain rfl) rfl rfl rfl ty105 rfl rfl rfl rfl ?_; clear hE hS a w; intro a w hE hS
            refine WL.nil ?_
            refine W.seq ?_
            refine W.block ?_
            refine W.seq ?_
            obtain ⟨q98, hq97, hq80⟩ := bndS hq80
            refine W.cut (fun a w => ∃ (q101 : Bool), q101 = q98 ∧ Rep a 101 [(2, .pointer (some ⟨b51, 0, none⟩)), (3, .pointer (some ⟨b52, 0, none⟩)), (8, .int .i64 ((k82 : Nat) : Int)), (9, .pointer (some ⟨b96, 0, none⟩)), (33, .slice a1 x1.length c1), (34, .int .i64 ((x1).length : Int)), (35, .int .i64 ((k82 : Nat) : Int)), (40, .bool q101)] ∧ St w s (pt b96 (.cells (FleetStay.cells x83).toArray 105 (0, 0)) :: pt b52 (.cells #[.slice a1 x1.length c1] 53 (0, 0)) :: pt b51 (.cells #[.slice a0 x0.length c0] 44 (0, 0)) :: R)) ?_ ?_
            · refine W.gen fun K102 hK102 => ?_
              refine W.region ?_
              refine WL.vS hS hE (runs_plain rfl) (Gives.fld hE rfl fl105_0) rfl ?_; clear hE a; intro a hE
              refine WL.vS hS hE (runs_plain rfl) (Gives.loadB hE 0 rfl rfl rfl ty3) rfl ?_; clear hE a; intro a hE
              refine WL.fnq hE (Fleetwithin_ok hS  rfl (r := Fleetwithin x83.In 0 28800)) (runs_plain rfl) bd37 rfl rfl rfl ?_
              clear hE hS; rintro e w ⟨rfl, hS⟩; refine ⟨_, rfl, ?_⟩; clear a; intro a hE
              refine WL.vS hS hE (runs_plain rfl) (Gives.p hE rfl) rfl ?_; clear hE a; intro a hE
              refine WL.vS hS hE (runs_plain rfl) (Gives.p hE rfl) rfl ?_; clear hE a; intro a hE
              rcases Bool.eq_false_or_eq_true (!(Fleetwithin x83.In 0 28800)) with hg103 | hg103
              · replace hq97 := iteT hg103 hq97
                refine WL.no hE (runs_not hE rfl rfl rfl (by rw [hg103]; decide)) rfl ?_; clear hE a; intro a hE
                refine WL.no hE (runs_not hE rfl rfl rfl (by rw [hg103]; decide)) rfl ?_; clear hE a; intro a hE
                refine WL.no hE (runs_not hE rfl rfl rfl (by rw [hg103]; decide)) rfl ?_; clear hE a; intro a hE
                refine WL.no hE (runs_not hE rfl rfl rfl (by rw [hg103]; decide)) rfl ?_; clear hE a; intro a hE
                refine WL.vS hS hE (runs_plain rfl) (Gives.pickT hE rfl hg103 rfl) rfl ?_; clear hE a; intro a hE
                refine WL.vS hS hE (runs_plain rfl) (Gives.p hE rfl) rfl ?_; clear hE a; intro a hE
                refine WL.nil ?_
                subst hK102
                exact ⟨true, hq97, hE.pick _ ⟨rfl, rfl, rfl, rfl, rfl, rfl, rfl, rfl, trivial⟩, hS⟩
              · replace hq97 := iteF hg103 hq97
                refine WL.vS hS hE (runs_if hE rfl rfl rfl hg103) (Gives.fld hE rfl fl105_1) rfl ?_; clear hE a; intro a hE
                refine WL.vS hS hE (runs_if hE rfl rfl rfl hg103) (Gives.loadB hE 0 rfl rfl rfl ty3) rfl ?_; clear hE a; intro a hE
                refine WL.fnq hE (Fleetwithin_ok hS  rfl (r := Fleetwithin x83.Out 0 28800)) (runs_if hE rfl rfl rfl hg103) bd37 rfl rfl rfl ?_
                clear hE hS; rintro e w ⟨rfl, hS⟩; refine ⟨_, rfl, ?_⟩; clear a; intro a hE
                refine WL.vS hS hE (runs_if hE rfl rfl rfl hg103) (Gives.p hE rfl) rfl ?_; clear hE a; intro a hE
                refine WL.vS hS hE (runs_plain rfl) (Gives.pickF hE rfl hg103 rfl) rfl ?_; clear hE a; intro a hE
                refine WL.vS hS hE (runs_plain rfl) (Gives.p hE rfl) rfl ?_; clear hE a; intro a hE
                refine WL.nil ?_
                subst hK102
                exact ⟨!(Fleetwithin x83.Out 0 28800), hq97, hE.pick _ ⟨rfl, rfl, rfl, rfl, rfl, rfl, rfl, rfl, trivial⟩, hS⟩
            · clear hE hS a w; rintro a w ⟨q101, rfl, hE, hS⟩
              refine W.cond hE rfl (fun hc104 => ?_) (fun hc104 => ?_)
              · replace hq80 := iteT hc104 hq80
                refine W.seq ?_
                refine W.region ?_
                refine WL.vS hS hE (runs_plain rfl) (Gives.p hE rfl) rfl ?_; clear hE a; intro a hE
                refine WL.vS hS hE (runs_plain rfl) (Gives.p hE rfl) rfl ?_; clear hE a; intro a hE
                refine WL.nil ?_
                refine W.ret ?_
                subst hK91
                rw [← Option.some.inj hq80] at hr
                dsimp only at hr
                replace hS := hS.vecNil 3 1
                refine finG (fn := Try.f27) (rs := [.tmp 4, .tmp 5]) (vs := [_, _]) hE rfl ⟨rfl, rfl, trivial⟩ ?_
                obtain rfl := Option.some.inj hr
                replace hS := hS.dropAt 1
                replace hS := hS.dropAt 1
                replace hS := hS.dropAt 1
                exact ⟨none, 0, 0, [], rfl, (Ev.nil), (rfl), hS⟩
              · replace hq80 := iteF hc104 hq80
                refine W.seq ?_
                refine W.region ?_
                refine WL.vS hS hE (runs_plain rfl) (Gives.fld hE rfl fl105_1) rfl ?_; clear hE a; intro a hE
                refine WL.vS hS hE (runs_plain rfl) (Gives.loadB hE 0 rfl rfl rfl ty3) rfl ?_; clear hE a; intro a hE
                refine WL.vS hS hE (runs_plain rfl) (Gives.fld hE rfl fl105_0) rfl ?_; clear hE a; intro a hE
                refine WL.vS hS hE (runs_plain rfl) (Gives.loadB hE 0 rfl rfl rfl ty3) rfl ?_; clear hE a; intro a hE
                refine WL.vS hS hE (runs_plain rfl) (Gives.p hE rfl) rfl ?_; clear hE a; intro a hE
                refine WL.vS hS hE (runs_plain rfl) (Gives.p hE rfl) rfl ?_; clear hE a; intro a hE
                refine WL.nil ?_
                refine W.cond hE rfl (fun hc106 => ?_) (fun hc106 => ?_)
                · replace hq80 := iteT hc106 hq80
                  refine W.seq ?_
                  refine W.region ?_
                  refine WL.vS hS hE (runs_plain rfl) (Gives.p hE rfl) rfl ?_; clear hE a; intro a hE
                  refine WL.vS hS hE (runs_plain rfl) (Gives.p hE rfl) rfl ?_; clear hE a; intro a hE
                  refine WL.nil ?_
                  refine W.ret ?_
                  subst hK91
                  rw [← Option.some.inj hq80] at hr
                  dsimp only at hr
                  replace hS := hS.vecNil 3 1
                  refine finG (fn := Try.f27) (rs := [.tmp 4, .tmp 5]) (vs := [_, _]) hE rfl ⟨rfl, rfl, trivial⟩ ?_
                  obtain rfl := Option.some.inj hr
                  replace hS := hS.dropAt 1
                  replace hS := hS.dropAt 1
                  replace hS := hS.dropAt 1
                  exact ⟨none, 0, 0, [], rfl, (Ev.nil), (rfl), hS⟩
                · replace hq80 := iteF hc106 hq80
                  refine W.skip ?_
                  refine W.seq ?_
                  refine W.region ?_
                  refine WL.vS hS hE (runs_plain rfl) (Gives.loadB hE 1 rfl rfl rfl ty53) rfl ?_; clear hE a; intro a hE
                  refine WL.vS hS hE (runs_plain rfl) (Gives.p hE rfl) rfl ?_; clear hE a; intro a hE
                  obtain ⟨x108, hx109, hq80⟩ := bindS hq80
                  obtain ⟨a110, c111, heq112, h113⟩ := h1.cut hx109
                  obtain ⟨h114, h115, h116, _⟩ := cutl_some hx109
                  refine WL.vS hS hE (runs_plain rfl) (Gives.slH hE sl53 rfl rfl (by omega) (by have := h1.len; omega) heq112) rfl ?_; clear hE a; intro a hE
                  refine WL.vS hS hE (runs_plain rfl) (Gives.len hE rfl sl53) rfl ?_; clear hE a; intro a hE
                  refine WL.vS hS hE (runs_plain rfl) (Gives.p hE rfl) rfl ?_; clear hE a; intro a hE
                  refine WL.nil ?_
                  obtain ⟨q118, hq117, hq80⟩ := bndS hq80
                  refine W.cut (fun a w => (.next ()) = q118 ∧ Rep a 101 [(2, .pointer (some ⟨b51, 0, none⟩)), (3, .pointer (some ⟨b52, 0, none⟩)), (33, .slice a1 x1.length c1), (34, .int .i64 ((x1).length : Int)), (35, .int .i64 ((k82 : Nat) : Int))] ∧ St w s (pt b96 (.cells (FleetStay.cells x83).toArray 105 (0, 0)) :: pt b52 (.cells #[.slice a1 x1.length c1] 53 (0, 0)) :: pt b51 (.cells #[.slice a0 x0.length c0] 44 (0, 0)) :: R)) ?_ ?_
                  · refine W.block ?_
                    refine W.loop (fun m a w => ∃ (rest121 : List FleetStay) (k119 : Nat), rest121.length = m ∧ x108.drop k119 = rest121 ∧ FleetStore.loop3 x83 rest121 = q118 ∧ Rep a 101 [(2, .pointer (some ⟨b51, 0, none⟩)), (3, .pointer (some ⟨b52, 0, none⟩)), (9, .pointer (some ⟨b96, 0, none⟩)), (33, .slice a1 x1.length c1), (34, .int .i64 ((x1).length : Int)), (35, .int .i64 ((k82 : Nat) : Int)), (59, .slice a110 x108.length c111), (60, .int .i64 ((x108).length : Int)), (61, .int .i64 ((k119 : Nat) : Int))] ∧ St w s (pt b96 (.cells (FleetStay.cells x83).toArray 105 (0, 0)) :: pt b52 (.cells #[.slice a1 x1.length c1] 53 (0, 0)) :: pt b51 (.cells #[.slice a0 x0.length c0] 44 (0, 0)) :: R)) (m := x108.length) ⟨x108, 0, rfl, rfl, hq117, hE.pick _ ⟨rfl, rfl, rfl, rfl, rfl, rfl, rfl, rfl, rfl, trivial⟩, hS⟩ ?_
                    clear hE hS a w hq117; rintro m125 a w ⟨rest121, k119, rfl, hd122, hq117, hE, hS⟩
                    refine W.gen fun K128 hK128 => ?_
                    rcases rest121 with _ | ⟨x120, rest121⟩
                    · have hlt123 := drop_nil hd122
                      refine W.seq ?_
                      refine W.region ?_
                      refine WL.vS hS hE (runs_plain rfl) (Gives.p hE rfl) rfl ?_; clear hE a; intro a hE
                      refine WL.nil ?_
                      refine W.seq ?_
                      refine W.condF hE rfl (decide_eq_false (by omega)) ?_
                      subst hK128
                      refine W.exit rfl ?_
                      exact ⟨hq117, hE.pick _ ⟨rfl, rfl, rfl, rfl, rfl, trivial⟩, hS⟩
                    · obtain ⟨hlt123, hx124, hd122⟩ := drop_cons hd122
                      rw [FleetStore.loop3] at hq117
                      refine W.seq ?_
                      refine W.region ?_
                      refine WL.vS hS hE (runs_plain rfl) (Gives.p hE rfl) rfl ?_; clear hE a; intro a hE
                      refine WL.nil ?_
                      refine W.seq ?_
                      refine W.condT hE rfl (decide_eq_true (by omega)) ?_
                      refine W.skip ?_
                      refine W.seq ?_
                      refine W.block ?_
                      refine W.seq ?_
                      refine W.region ?_
                      obtain ⟨cs129, hl130, hR131, hat132⟩ := h113.at hx124
                      subst hR131
                      refine WL.vS hS hE (runs_plain rfl) (Gives.idx hE k119 rfl rfl sl53 rfl hlt123 (h113.aok hlt123)) rfl ?_; clear hE a; intro a hE
                      refine WL.vS hS hE (runs_plain rfl) (Gives.loadA hE rfl (fun w h => hat132 w _ h) ty105) rfl ?_; clear hE a; intro a hE
                      refine WL.alloc hE hS (runs_plain rfl) zr105 rfl ?_; clear hE hS a w; intro b133 a w hE hS
                      refine WL.storeI hE hS 0 rfl (FleetStay.cells x120) (runs_plain rfl) rfl rfl rfl ty105 rfl rfl rfl rfl ?_; clear hE hS a w; intro a w hE hS
                      refine WL.nil ?_
                      refine W.seq ?_
                      obtain ⟨q135, hq134, hq117⟩ := bndS hq117
                      refine W.cut (fun a w => ∃ (q138 : Bool), q138 = q135 ∧ Rep a 101 [(2, .pointer (some ⟨b51, 0, none⟩)), (3, .pointer (some ⟨b52, 0, none⟩)), (9, .pointer (some ⟨b96, 0, none⟩)), (33, .slice a1 x1.length c1), (34, .int .i64 ((x1).length : Int)), (35, .int .i64 ((k82 : Nat) : Int)), (59, .slice a110 x108.length c111), (60, .int .i64 ((x108).length : Int)), (61, .int .i64 ((k119 : Nat) : Int)), (90, .bool q138)] ∧ St w s (pt b133 (.cells (FleetStay.cells x120).toArray 105 (0, 0)) :: pt b96 (.cells (FleetStay.cells x83).toArray 105 (0, 0)) :: pt b52 (.cells #[.slice a1 x1.length c1] 53 (0, 0)) :: pt b51 (.cells #[.slice a0 x0.length c0] 44 (0, 0)) :: R)) ?_ ?_
                      · refine W.gen fun K139 hK139 => ?_
                        refine W.region ?_
                        refine WL.vS hS hE (runs_plain rfl) (Gives.fld hE rfl fl105_0) rfl ?_; clear hE a; intro a hE
                        refine WL.vS hS hE (runs_plain rfl) (Gives.loadB hE 1 rfl rfl rfl ty3) rfl ?_; clear hE a; intro a hE
                        refine WL.vS hS hE (runs_plain rfl) (Gives.fld hE rfl fl105_0) rfl ?_; clear hE a; intro a hE
                        refine WL.vS hS hE (runs_plain rfl) (Gives.loadB hE 0 rfl rfl rfl ty3) rfl ?_; clear hE a; intro a hE
                        refine WL.vS hS hE (runs_plain rfl) (Gives.p hE rfl) rfl ?_; clear hE a; intro a hE
                        refine WL.vS hS hE (runs_plain rfl) (Gives.p hE rfl) rfl ?_; clear hE a; intro a hE
                        rcases Bool.eq_false_or_eq_true (x83.In == x120.In) with hg140 | hg140
                        · replace hq134 := iteT hg140 hq134
                          refine WL.no hE (runs_not hE rfl rfl rfl (by rw [hg140]; decide)) rfl ?_; clear hE a; intro a hE
                          refine WL.no hE (runs_not hE rfl rfl rfl (by rw [hg140]; decide)) rfl ?_; clear hE a; intro a hE
                          refine WL.no hE (runs_not hE rfl rfl rfl (by rw [hg140]; decide)) rfl ?_; clear hE a; intro a hE
                          refine WL.no hE (runs_not hE rfl rfl rfl (by rw [hg140]; decide)) rfl ?_; clear hE a; intro a hE
                          refine WL.no hE (runs_not hE rfl rfl rfl (by rw [hg140]; decide)) rfl ?_; clear hE a; intro a hE
                          refine WL.vS hS hE (runs_plain rfl) (Gives.pickT hE rfl hg140 rfl) rfl ?_; clear hE a; intro a hE
                          refine WL.vS hS hE (runs_plain rfl) (Gives.p hE rfl) rfl ?_; clear hE a; intro a hE
                          refine WL.no hE (runs_not hE rfl rfl rfl (by decide)) rfl ?_; clear hE a; intro a hE
                          refine WL.no hE (runs_not hE rfl rfl rfl (by decide)) rfl ?_; clear hE a; intro a hE
                          refine WL.no hE (runs_not hE rfl rfl rfl (by decide)) rfl ?_; clear hE a; intro a hE
                          refine WL.no hE (runs_not hE rfl rfl rfl (by decide)) rfl ?_; clear hE a; intro a hE
                          refine WL.no hE (runs_not hE rfl rfl rfl (by decide)) rfl ?_; clear hE a; intro a hE
                          refine WL.vS hS hE (runs_plain rfl) (Gives.pickT hE rfl rfl rfl) rfl ?_; clear hE a; intro a hE
                          refine WL.vS hS hE (runs_plain rfl) (Gives.p hE rfl) rfl ?_; clear hE a; intro a hE
                          refine WL.no hE (runs_not hE rfl rfl rfl (by decide)) rfl ?_; clear hE a; intro a hE
                          refine WL.no hE (runs_not hE rfl rfl rfl (by decide)) rfl ?_; clear hE a; intro a hE
                          refine WL.no hE (runs_not hE rfl rfl rfl (by decide)) rfl ?_; clear hE a; intro a hE
                          refine WL.no hE (runs_not hE rfl rfl rfl (by decide)) rfl ?_; clear hE a; intro a hE
                          refine WL.no hE (runs_not hE rfl rfl rfl (by decide)) rfl ?_; clear hE a; intro a hE
                          refine WL.vS hS hE (runs_plain rfl) (Gives.pickT hE rfl rfl rfl) rfl ?_; clear hE a; intro a hE
                          refine WL.nil ?_
                          subst hK139
                          exact ⟨true, hq134, hE.pick _ ⟨rfl, rfl, rfl, rfl, rfl, rfl, rfl, rfl, rfl, rfl, trivial⟩, hS⟩
                        · replace hq134 := iteF hg140 hq134
                          refine WL.vS hS hE (runs_if hE rfl rfl rfl hg140) (Gives.fld hE rfl fl105_0) rfl ?_; clear hE a; intro a hE
                          refine WL.vS hS hE (runs_if hE rfl rfl rfl hg140) (Gives.loadB hE 1 rfl rfl rfl ty3) rfl ?_; clear hE a; intro a hE
                          refine WL.vS hS hE (runs_if hE rfl rfl rfl hg140) (Gives.fld hE rfl fl105_1) rfl ?_; clear hE a; intro a hE
                          refine WL.vS hS hE (runs_if hE rfl rfl rfl hg140) (Gives.loadB hE 0 rfl rfl rfl ty3) rfl ?_; clear hE a; intro a hE
                          refine WL.vS hS hE (runs_if hE rfl rfl rfl hg140) (Gives.p hE rfl) rfl ?_; clear hE a; intro a hE
                          refine WL.vS hS hE (runs_plain rfl) (Gives.pickF hE rfl hg140 rfl) rfl ?_; clear hE a; intro a hE
                          refine WL.vS hS hE (runs_plain rfl) (Gives.p hE rfl) rfl ?_; clear hE a; intro a hE
                          rcases Bool.eq_false_or_eq_true (x83.In == x120.Out) with hg141 | hg141
                          · replace hq134 := iteT hg141 hq134
                            refine WL.no hE (runs_not hE rfl rfl rfl (by rw [hg141]; decide)) rfl ?_; clear hE a; intro a hE
                            refine WL.no hE (runs_not hE rfl rfl rfl (by rw [hg141]; decide)) rfl ?_; clear hE a; intro a hE
                            refine WL.no hE (runs_not hE rfl rfl rfl (by rw [hg141]; decide)) rfl ?_; clear hE a; intro a hE
                            refine WL.no hE (runs_not hE rfl rfl rfl (by rw [hg141]; decide)) rfl ?_; clear hE a; intro a hE
                            refine WL.no hE (runs_not hE rfl rfl rfl (by rw [hg141]; decide)) rfl ?_; clear hE a; intro a hE
                            refine WL.vS hS hE (runs_plain rfl) (Gives.pickT hE rfl hg141 rfl) rfl ?_; clear hE a; intro a hE
                            refine WL.vS hS hE (runs_plain rfl) (Gives.p hE rfl) rfl ?_; clear hE a; intro a hE
                            refine WL.no hE (runs_not hE rfl rfl rfl (by decide)) rfl ?_; clear hE a; intro a hE
                            refine WL.no hE (runs_not hE rfl rfl rfl (by decide)) rfl ?_; clear hE a; intro a hE
                            refine WL.no hE (runs_not hE rfl rfl rfl (by decide)) rfl ?_; clear hE a; intro a hE
                            refine WL.no hE (runs_not hE rfl rfl rfl (by decide)) rfl ?_; clear hE a; intro a hE
                            refine WL.no hE (runs_not hE rfl rfl rfl (by decide)) rfl ?_; clear hE a; intro a hE
                            refine WL.vS hS hE (runs_plain rfl) (Gives.pickT hE rfl rfl rfl) rfl ?_; clear hE a; intro a hE
                            refine WL.nil ?_
                            subst hK139
                            exact ⟨true, hq134, hE.pick _ ⟨rfl, rfl, rfl, rfl, rfl, rfl, rfl, rfl, rfl, rfl, trivial⟩, hS⟩
                          · replace hq134 := iteF hg141 hq134
                            refine WL.vS hS hE (runs_if hE rfl rfl rfl hg141) (Gives.fld hE rfl fl105_1) rfl ?_; clear hE a; intro a hE
                            refine WL.vS hS hE (runs_if hE rfl rfl rfl hg141) (Gives.loadB hE 1 rfl rfl rfl ty3) rfl ?_; clear hE a; intro a hE
                            refine WL.vS hS hE (runs_if hE rfl rfl rfl hg141) (Gives.fld hE rfl fl105_0) rfl ?_; clear hE a; intro a hE
                            refine WL.vS hS hE (runs_if hE rfl rfl rfl hg141) (Gives.loadB hE 0 rfl rfl rfl ty3) rfl ?_; clear hE a; intro a hE
                            refine WL.vS hS hE (runs_if hE rfl rfl rfl hg141) (Gives.p hE rfl) rfl ?_; clear hE a; intro a hE
                            refine WL.vS hS hE (runs_plain rfl) (Gives.pickF hE rfl hg141 rfl) rfl ?_; clear hE a; intro a hE
                            refine WL.vS hS hE (runs_plain rfl) (Gives.p hE rfl) rfl ?_; clear hE a; intro a hE
                            rcases Bool.eq_false_or_eq_true (x83.Out == x120.In) with hg142 | hg142
                            · replace hq134 := iteT hg142 hq134
                              refine WL.no hE (runs_not hE rfl rfl rfl (by rw [hg142]; decide)) rfl ?_; clear hE a; intro a hE
                              refine WL.no hE (runs_not hE rfl rfl rfl (by rw [hg142]; decide)) rfl ?_; clear hE a; intro a hE
                              refine WL.no hE (runs_not hE rfl rfl rfl (by rw [hg142]; decide)) rfl ?_; clear hE a; intro a hE
                              refine WL.no hE (runs_not hE rfl rfl rfl (by rw [hg142]; decide)) rfl ?_; clear hE a; intro a hE
                              refine WL.no hE (runs_not hE rfl rfl rfl (by rw [hg142]; decide)) rfl ?_; clear hE a; intro a hE
                              refine WL.vS hS hE (runs_plain rfl) (Gives.pickT hE rfl hg142 rfl) rfl ?_; clear hE a; intro a hE
                              refine WL.nil ?_
                              subst hK139
                              exact ⟨true, hq134, hE.pick _ ⟨rfl, rfl, rfl, rfl, rfl, rfl, rfl, rfl, rfl, rfl, trivial⟩, hS⟩
                            · replace hq134 := iteF hg142 hq134
                              refine WL.vS hS hE (runs_if hE rfl rfl rfl hg142) (Gives.fld hE rfl fl105_1) rfl ?_; clear hE a; intro a hE
                              refine WL.vS hS hE (runs_if hE rfl rfl rfl hg142) (Gives.loadB hE 1 rfl rfl rfl ty3) rfl ?_; clear hE a; intro a hE
                              refine WL.vS hS hE (runs_if hE rfl rfl rfl hg142) (Gives.fld hE rfl fl105_1) rfl ?_; clear hE a; intro a hE
                              refine WL.vS hS hE (runs_if hE rfl rfl rfl hg142) (Gives.loadB hE 0 rfl rfl rfl ty3) rfl ?_; clear hE a; intro a hE
                              refine WL.vS hS hE (runs_if hE rfl rfl rfl hg142) (Gives.p hE rfl) rfl ?_; clear hE a; intro a hE
                              refine WL.vS hS hE (runs_plain rfl) (Gives.pickF hE rfl hg142 rfl) rfl ?_; clear hE a; intro a hE
                              refine WL.nil ?_
                              subst hK139
                              exact ⟨(x83.Out == x120.Out), hq134, hE.pick _ ⟨rfl, rfl, rfl, rfl, rfl, rfl, rfl, rfl, rfl, rfl, trivial⟩, hS⟩
                      · clear hE hS a w; rintro a w ⟨q138, rfl, hE, hS⟩
                        refine W.cond hE rfl (fun hc143 => ?_) (fun hc143 => ?_)
                        · replace hq117 := iteT hc143 hq117
                          refine W.seq ?_
                          refine W.region ?_
                          refine WL.vS hS hE (runs_plain rfl) (Gives.p hE rfl) rfl ?_; clear hE a; intro a hE
                          refine WL.vS hS hE (runs_plain rfl) (Gives.p hE rfl) rfl ?_; clear hE a; intro a hE
                          refine WL.nil ?_
                          refine W.ret ?_
                          subst hK128
                          subst hK91
                          rw [← hq117] at hq80
                          dsimp only at hq80
                          rw [← Option.some.inj hq80] at hr
                          dsimp only at hr
                          replace hS := hS.vecNil 3 1
                          refine finG (fn := Try.f27) (rs := [.tmp 4, .tmp 5]) (vs := [_, _]) hE rfl ⟨rfl, rfl, trivial⟩ ?_
                          obtain rfl := Option.some.inj hr
                          replace hS := hS.dropAt 1
                          replace hS := hS.dropAt 1
                          replace hS := hS.dropAt 1
                          replace hS := hS.dropAt 1
                          exact ⟨none, 0, 0, [], rfl, (Ev.nil), (rfl), hS⟩
                        · replace hq117 := iteF hc143 hq117
                          refine W.skip ?_
                          refine W.region ?_
                          refine WL.vS hS hE (runs_plain rfl) (Gives.inc hE rfl (by have := h113.small; omega)) rfl ?_; clear hE a; intro a hE
                          refine WL.vS hS hE (runs_plain rfl) (Gives.p hE rfl) rfl ?_; clear hE a; intro a hE
                          refine WL.nil ?_
                          replace hS := hS.tail
                          subst hK128
                          exact ⟨rest121.length, Nat.lt_succ_self _, rest121, k119 + 1, rfl, hd122, hq117, hE.pick _ ⟨rfl, rfl, rfl, rfl, rfl, rfl, rfl, rfl, rfl, trivial⟩, hS⟩
                  · clear hE hS a w; rintro a w ⟨rfl, hE, hS⟩
                    dsimp only at hq80
                    refine W.region ?_
                    refine WL.vS hS hE (runs_plain rfl) (Gives.inc hE rfl (by have := h1.small; omega)) rfl ?_; clear hE a; intro a hE
                    refine WL.vS hS hE (runs_plain rfl) (Gives.p hE rfl) rfl ?_; clear hE a; intro a hE
                    refine WL.nil ?_
                    replace hS := hS.tail
                    subst hK91
                    exact ⟨rest84.length, Nat.lt_succ_self _, rest84, k82 + 1, rfl, hd85, hq80, hE.pick _ ⟨rfl, rfl, rfl, rfl, rfl, trivial⟩, hS⟩
        · clear hE hS a w; rintro a w ⟨rfl, hE, hS⟩
          dsimp only at hr
          refine W.seq ?_
          refine W.region ?_
          refine WL.vS hS hE (runs_plain rfl) (Gives.loadB hE 0 rfl rfl rfl ty53) rfl ?_; clear hE a; intro a hE
          refine WL.vS hS hE (runs_plain rfl) (Gives.len hE rfl sl53) rfl ?_; clear hE a; intro a hE
          obtain ⟨x145, hx146, hr⟩ := bindS hr
          refine WL.mkD (Rr := RI .i64) hE hS (runs_plain rfl) rfl rfl ap44 zr3 rfl hx146 rfl ?_; clear hE hS a w; intro b147 cs148 a w h149 hE hS
          refine WL.alloc hE hS (runs_plain rfl) zr44 rfl ?_; clear hE hS a w; intro b151 a w hE hS
          refine WL.storeI hE hS 0 rfl [.slice (some ⟨b147, 0, none⟩) x145.length x145.length] (runs_plain rfl) rfl rfl rfl ty44 rfl rfl rfl rfl ?_; clear hE hS a w; intro a w hE hS
          refine WL.nil ?_
          refine W.seq ?_
          refine W.region ?_
          refine WL.alloc hE hS (runs_plain rfl) zr51 rfl ?_; clear hE hS a w; intro b152 a w hE hS
          refine WL.nil ?_
          refine W.seq ?_
          refine W.region ?_
          refine WL.vS hS hE (runs_plain rfl) (Gives.mkfn hE (vs := [.pointer (some ⟨b52, 0, none⟩), .pointer (some ⟨b51, 0, none⟩), .pointer (some ⟨b151, 0, none⟩), .pointer (some ⟨b152, 0, none⟩)]) rfl) rfl ?_; clear hE a; intro a hE
          refine WL.storeI hE hS 0 rfl [.func (.func 73) #[] #[.pointer (some ⟨b52, 0, none⟩), .pointer (some ⟨b51, 0, none⟩), .pointer (some ⟨b151, 0, none⟩), .pointer (some ⟨b152, 0, none⟩)]] (runs_plain rfl) rfl rfl rfl ty51 rfl rfl rfl rfl ?_; clear hE hS a w; intro a w hE hS
          refine WL.nil ?_
          refine W.seq ?_
          refine W.seq ?_
          refine W.region ?_
          refine WL.vS hS hE (runs_plain rfl) (Gives.loadB hE 0 rfl rfl rfl ty51) rfl ?_; clear hE a; intro a hE
          obtain ⟨q153, hq154, hr⟩ := bindS hr
          replace hS := hS.front 2 rfl
          replace hS := hS.front 1 rfl
          replace hS := hS.front 2 rfl
          replace hS := hS.front 4 rfl
          replace hS := hS.front 4 rfl
          have hc_ := FleetStore_1_v1_ok hS h1 h0 h149 (rfl) hq154
          refine WL.fnw hE (hc_) rfl (runs_plain rfl) bd73 rfl rfl rfl ?_
          clear hE hS hc_; rintro e w ⟨cs155, rfl, h156, hn157, hS⟩; refine ⟨_, rfl, ?_⟩; clear a; intro a hE
          refine WL.vS hS hE (runs_plain rfl) (Gives.p hE rfl) rfl ?_; clear hE a; intro a hE
          refine WL.nil ?_
          refine W.cond hE rfl (fun hc158 => ?_) (fun hc158 => ?_)
          · replace hr := iteT hc158 hr
            refine W.seq ?_
            refine W.region ?_
            refine WL.vS hS hE (runs_plain rfl) (Gives.p hE rfl) rfl ?_; clear hE a; intro a hE
            refine WL.vS hS hE (runs_plain rfl) (Gives.p hE rfl) rfl ?_; clear hE a; intro a hE
            refine WL.nil ?_
            refine W.ret ?_
            replace hS := hS.vecNil 3 1
            refine finG (fn := Try.f27) (rs := [.tmp 4, .tmp 5]) (vs := [_, _]) hE rfl ⟨rfl, rfl, trivial⟩ ?_
            obtain rfl := Option.some.inj hr
            replace hS := hS.dropAt 1
            replace hS := hS.dropAt 1
            replace hS := hS.dropAt 1
            replace hS := hS.dropAt 1
            replace hS := hS.dropAt 1
            exact ⟨none, 0, 0, [], rfl, (Ev.nil), (rfl), hS⟩
          · replace hr := iteF hc158 hr
            refine W.skip ?_
            refine W.seq ?_
            refine W.region ?_
            refine WL.vS hS hE (runs_plain rfl) (Gives.loadB hE 2 rfl rfl rfl ty44) rfl ?_; clear hE a; intro a hE
            refine WL.vS hS hE (runs_plain rfl) (Gives.p hE rfl) rfl ?_; clear hE a; intro a hE
            refine WL.vS hS hE (runs_plain rfl) (Gives.p hE rfl) rfl ?_; clear hE a; intro a hE
            refine WL.nil ?_
            refine W.ret ?_
            refine finG (fn := Try.f27) (rs := [.tmp 4, .tmp 5]) (vs := [_, _]) hE rfl ⟨rfl, rfl, trivial⟩ ?_
            obtain rfl := Option.some.inj hr
            replace hS := hS.tail
            replace hS := hS.tail
            replace hS := hS.tail
            replace hS := hS.tail
            exact ⟨(some ⟨b147, 0, none⟩), x145.length, x145.length, cs155, rfl, h156, hn157, hS⟩
set_option maxHeartbeats 8000000 in
theorem Fishref2within_ok  {w : World} {s : Sg} {R : List HP} {x0 : Int} {x1 : Int} {x2 : Int} (hS : St w s (R))  {r : Bool} (hr : Fishref2within x0 x1 x2 = r) :
    Calls Try.prog 45 [.int .i64 x0, .int .i64 x1, .int .i64 x2].toArray w (fun e w => e = .returned (.bool r) ∧ St w s (R)) := by
  refine enter Try.func45 rfl rfl rfl fun a hE => ?_
  rw [Fishref2within] at hr
  refine W.seq ?_
  refine W.region ?_
  refine WL.vS hS hE (runs_plain rfl) (Gives.p hE rfl) rfl ?_; clear hE a; intro a hE
  refine WL.nil ?_
  refine W.seq ?_
  obtain ⟨q52, hq51, hr⟩ := bndS hr
  refine W.cut (fun a w => ∃ (q55 : Bool), q55 = q52 ∧ Rep a 15 [(6, .bool q55)] ∧ St w s (R)) ?_ ?_
  · refine W.gen fun K56 hK56 => ?_
    refine W.region ?_
    refine WL.vS hS hE (runs_plain rfl) (Gives.p hE rfl) rfl ?_; clear hE a; intro a hE
    refine WL.vS hS hE (runs_plain rfl) (Gives.p hE rfl) rfl ?_; clear hE a; intro a hE
    refine WL.vS hS hE (runs_plain rfl) (Gives.p hE rfl) rfl ?_; clear hE a; intro a hE
    refine WL.vS hS hE (runs_plain rfl) (Gives.p hE rfl) rfl ?_; clear hE a; intro a hE
    rcases Bool.eq_false_or_eq_true (decide (x0 ≥ x1)) with hg57 | hg57
    · replace hq51 := iteT hg57 hq51
      refine WL.vS hS hE (runs_if hE rfl rfl rfl hg57) (Gives.p hE rfl) rfl ?_; clear hE a; intro a hE
      refine WL.vS hS hE (runs_if hE rfl rfl rfl hg57) (Gives.p hE rfl) rfl ?_; clear hE a; intro a hE
      refine WL.vS hS hE (runs_if hE rfl rfl rfl hg57) (Gives.p hE rfl) rfl ?_; clear hE a; intro a hE
      refine WL.vS hS hE (runs_plain rfl) (Gives.pickT hE rfl hg57 rfl) rfl ?_; clear hE a; intro a hE
      refine WL.vS hS hE (runs_plain rfl) (Gives.p hE rfl) rfl ?_; clear hE a; intro a hE
      refine WL.nil ?_
      subst hK56
      exact ⟨decide (x0 ≤ x2), hq51, hE.pick _ ⟨rfl, trivial⟩, hS⟩
    · replace hq51 := iteF hg57 hq51
      refine WL.no hE (runs_not hE rfl rfl rfl (by rw [hg57]; decide)) rfl ?_; clear hE a; intro a hE
      refine WL.no hE (runs_not hE rfl rfl rfl (by rw [hg57]; decide)) rfl ?_; clear hE a; intro a hE
      refine WL.no hE (runs_not hE rfl rfl rfl (by rw [hg57]; decide)) rfl ?_; clear hE a; intro a hE
      refine WL.vS hS hE (runs_plain rfl) (Gives.pickF hE rfl hg57 rfl) rfl ?_; clear hE a; intro a hE
      refine WL.vS hS hE (runs_plain rfl) (Gives.p hE rfl) rfl ?_; clear hE a; intro a hE
      refine WL.nil ?_
      subst hK56
      exact ⟨false, hq51, hE.pick _ ⟨rfl, trivial⟩, hS⟩
  · clear hE hS a w; rintro a w ⟨q55, rfl, hE, hS⟩
    refine W.ret ?_
    refine finG (fn := Try.f45) (rs := [.tmp 6]) (vs := [_]) hE rfl ⟨rfl, trivial⟩ ?_
    subst hr
    exact ⟨rfl, hS⟩
set_option maxHeartbeats 8000000 in
theorem SlicesIndexLint_ok  {w : World} {s : Sg} {R : List HP} {x0 : List Int} {a0 : Option Addr} {c0 : Nat} {x1 : Int} (hS : St w s (R)) (h0 : Sl 1 (RI .i64) s a0 c0 x0) {r : Int} (hr : SlicesIndexLint x0 x1 = r) :
    Calls Try.prog 71 [.slice a0 x0.length c0, .int .i64 x1].toArray w (fun e w => e = .returned (.int .i64 r) ∧ St w s (R)) := by
  refine enter Try.func71 rfl rfl rfl fun a hE => ?_
  rw [SlicesIndexLint] at hr
  refine W.seq ?_
  refine W.region ?_
  refine WL.vS hS hE (runs_plain rfl) (Gives.p hE rfl) rfl ?_; clear hE a; intro a hE
  refine WL.nil ?_
  refine W.seq ?_
  refine W.seq ?_
  refine W.region ?_
  refine WL.vS hS hE (runs_plain rfl) (Gives.p hE rfl) rfl ?_; clear hE a; intro a hE
  refine WL.vS hS hE (runs_plain rfl) (Gives.len hE rfl sl44) rfl ?_; clear hE a; intro a hE
  refine WL.vS hS hE (runs_plain rfl) (Gives.p hE rfl) rfl ?_; clear hE a; intro a hE
  refine WL.nil ?_
  obtain ⟨q52, hq51, hr⟩ := bndS hr
  refine W.cut (fun a w => (.next ()) = q52 ∧ Rep a 19 [] ∧ St w s (R)) ?_ ?_
  · refine W.block ?_
    refine W.loop (fun m a w => ∃ (rest55 : List Int) (k53 : Nat), rest55.length = m ∧ x0.drop k53 = rest55 ∧ SlicesIndexLint.loop1 x1 rest55 k53 = q52 ∧ Rep a 19 [(0, .slice a0 x0.length c0), (1, .int .i64 x1), (7, .int .i64 ((x0).length : Int)), (8, .int .i64 ((k53 : Nat) : Int))] ∧ St w s (R)) (m := x0.length) ⟨x0, 0, rfl, rfl, hq51, hE.pick _ ⟨rfl, rfl, rfl, rfl, trivial⟩, hS⟩ ?_
    clear hE hS a w hq51; rintro m59 a w ⟨rest55, k53, rfl, hd56, hq51, hE, hS⟩
    refine W.gen fun K62 hK62 => ?_
    rcases rest55 with _ | ⟨x54, rest55⟩
    · have hlt57 := drop_nil hd56
      refine W.seq ?_
      refine W.region ?_
      refine WL.vS hS hE (runs_plain rfl) (Gives.p hE rfl) rfl ?_; clear hE a; intro a hE
      refine WL.nil ?_
      refine W.seq ?_
      refine W.condF hE rfl (decide_eq_false (by omega)) ?_
      subst hK62
      refine W.exit rfl ?_
      exact ⟨hq51, hE.pick _ trivial, hS⟩
    · obtain ⟨hlt57, hx58, hd56⟩ := drop_cons hd56
      rw [SlicesIndexLint.loop1] at hq51
      refine W.seq ?_
      refine W.region ?_
      refine WL.vS hS hE (runs_plain rfl) (Gives.p hE rfl) rfl ?_; clear hE a; intro a hE
      refine WL.nil ?_
      refine W.seq ?_
      refine W.condT hE rfl (decide_eq_true (by omega)) ?_
      refine W.skip ?_
      refine W.seq ?_
      refine W.block ?_
      refine W.seq ?_
      refine W.region ?_
      refine WL.vS hS hE (runs_plain rfl) (Gives.p hE rfl) rfl ?_; clear hE a; intro a hE
      refine WL.vS hS hE (runs_plain rfl) (Gives.p hE rfl) rfl ?_; clear hE a; intro a hE
      refine WL.nil ?_
      refine W.seq ?_
      refine W.region ?_
      refine WL.vS hS hE (runs_plain rfl) (Gives.p hE rfl) rfl ?_; clear hE a; intro a hE
      refine WL.vS hS hE (runs_plain rfl) (Gives.p hE rfl) rfl ?_; clear hE a; intro a hE
      refine WL.vS hS hE (runs_plain rfl) (Gives.p hE rfl) rfl ?_; clear hE a; intro a hE
      obtain ⟨cs63, hl64, hR65, hat66⟩ := h0.at hx58
      subst hR65
      refine WL.vS hS hE (runs_plain rfl) (Gives.idx hE k53 rfl rfl sl44 rfl hlt57 (h0.aok hlt57)) rfl ?_; clear hE a; intro a hE
      refine WL.vS hS hE (runs_plain rfl) (Gives.load1 hE rfl (fun w h => hat66 w _ h) ty3) rfl ?_; clear hE a; intro a hE
      refine WL.vS hS hE (runs_plain rfl) (Gives.p hE rfl) rfl ?_; clear hE a; intro a hE
      refine WL.nil ?_
      refine W.cond hE rfl (fun hc67 => ?_) (fun hc67 => ?_)
      · replace hq51 := iteT hc67 hq51
        refine W.seq ?_
        refine W.region ?_
        refine WL.vS hS hE (runs_plain rfl) (Gives.p hE rfl) rfl ?_; clear hE a; intro a hE
        refine WL.vS hS hE (runs_plain rfl) (Gives.p hE rfl) rfl ?_; clear hE a; intro a hE
        refine WL.nil ?_
        refine W.ret ?_
        subst hK62
        rw [← hq51] at hr
        dsimp only at hr
        refine finG (fn := Try.f71) (rs := [.tmp 4]) (vs := [_]) hE rfl ⟨rfl, trivial⟩ ?_
        subst hr
        exact ⟨rfl, hS⟩
      · replace hq51 := iteF hc67 hq51
        refine W.skip ?_
        refine W.region ?_
        refine WL.vS hS hE (runs_plain rfl) (Gives.inc hE rfl (by have := h0.small; omega)) rfl ?_; clear hE a; intro a hE
        refine WL.vS hS hE (runs_plain rfl) (Gives.p hE rfl) rfl ?_; clear hE a; intro a hE
        refine WL.nil ?_
        subst hK62
        exact ⟨rest55.length, Nat.lt_succ_self _, rest55, k53 + 1, rfl, hd56, hq51, hE.pick _ ⟨rfl, rfl, rfl, rfl, trivial⟩, hS⟩
  · clear hE hS a w; rintro a w ⟨rfl, hE, hS⟩
    dsimp only at hr
    refine W.seq ?_
    refine W.region ?_
    refine WL.vS hS hE (runs_plain rfl) (Gives.p hE rfl) rfl ?_; clear hE a; intro a hE
    refine WL.nil ?_
    refine W.ret ?_
    refine finG (fn := Try.f71) (rs := [.tmp 4]) (vs := [_]) hE rfl ⟨rfl, trivial⟩ ?_
    subst hr
    exact ⟨rfl, hS⟩
set_option maxHeartbeats 8000000 in
theorem SlicesContainsLint_ok  {w : World} {s : Sg} {R : List HP} {x0 : List Int} {a0 : Option Addr} {c0 : Nat} {x1 : Int} (hS : St w s (R)) (h0 : Sl 1 (RI .i64) s a0 c0 x0) {r : Bool} (hr : SlicesContainsLint x0 x1 = r) :
    Calls Try.prog 24 [.slice a0 x0.length c0, .int .i64 x1].toArray w (fun e w => e = .returned (.bool r) ∧ St w s (R)) := by
  refine enter Try.func24 rfl rfl rfl fun a hE => ?_
  rw [SlicesContainsLint] at hr
  refine W.seq ?_
  refine W.region ?_
  refine WL.vS hS hE (runs_plain rfl) (Gives.p hE rfl) rfl ?_; clear hE a; intro a hE
  refine WL.nil ?_
  refine W.seq ?_
  refine W.region ?_
  refine WL.vS hS hE (runs_plain rfl) (Gives.p hE rfl) rfl ?_; clear hE a; intro a hE
  refine WL.vS hS hE (runs_plain rfl) (Gives.p hE rfl) rfl ?_; clear hE a; intro a hE
  refine WL.fnq hE (SlicesIndexLint_ok hS h0 rfl (r := SlicesIndexLint x0 x1)) (runs_plain rfl) bd71 rfl rfl rfl ?_
  clear hE hS; rintro e w ⟨rfl, hS⟩; refine ⟨_, rfl, ?_⟩; clear a; intro a hE
  refine WL.vS hS hE (runs_plain rfl) (Gives.p hE rfl) rfl ?_; clear hE a; intro a hE
  refine WL.vS hS hE (runs_plain rfl) (Gives.p hE rfl) rfl ?_; clear hE a; intro a hE
  refine WL.nil ?_
  refine W.ret ?_
  refine finG (fn := Try.f24) (rs := [.tmp 4]) (vs := [_]) hE rfl ⟨rfl, trivial⟩ ?_
  subst hr
  exact ⟨rfl, hS⟩
set_option maxHeartbeats 8000000 in
theorem Fishref2StoreFault_ok  {w : World} {s : Sg} {R : List HP} {x0 : List Int} {a0 : Option Addr} {c0 : Nat} {x1 : List FleetStay} {a1 : Option Addr} {c1 : Nat} (hS : St w s (R)) (h0 : Sl 1 (RI .i64) s a0 c0 x0) (h1 : Sl 2 RFleetStay s a1 c1 x1) {r : Int} (hr : Fishref2StoreFault x0 x1 = some r) :
    Calls Try.prog 75 [.slice a0 x0.length c0, .slice a1 x1.length c1].toArray w (fun e w => e = .returned (.int .i64 r) ∧ St w s (R)) := by
  refine enter Try.func75 rfl rfl rfl fun a hE => ?_
  rw [Fishref2StoreFault] at hr
  refine W.seq ?_
  refine W.region ?_
  refine WL.vS hS hE (runs_plain rfl) (Gives.p hE rfl) rfl ?_; clear hE a; intro a hE
  refine WL.nil ?_
  refine W.seq ?_
  refine W.seq ?_
  obtain ⟨q52, hq51, hr⟩ := bndS hr
  refine W.cut (fun a w => ∃ (q55 : Bool), q55 = q52 ∧ Rep a 68 [(0, .slice a0 x0.length c0), (1, .slice a1 x1.length c1), (18, .bool q55)] ∧ St w s (R)) ?_ ?_
  · refine W.gen fun K56 hK56 => ?_
    refine W.region ?_
    refine WL.vS hS hE (runs_plain rfl) (Gives.p hE rfl) rfl ?_; clear hE a; intro a hE
    refine WL.vS hS hE (runs_plain rfl) (Gives.len hE rfl sl44) rfl ?_; clear hE a; intro a hE
    refine WL.fnq hE (Fishref2within_ok hS  rfl (r := Fishref2within ((x0).length : Int) 1 4)) (runs_plain rfl) bd45 rfl rfl rfl ?_
    clear hE hS; rintro e w ⟨rfl, hS⟩; refine ⟨_, rfl, ?_⟩; clear a; intro a hE
    refine WL.vS hS hE (runs_plain rfl) (Gives.p hE rfl) rfl ?_; clear hE a; intro a hE
    refine WL.vS hS hE (runs_plain rfl) (Gives.p hE rfl) rfl ?_; clear hE a; intro a hE
    rcases Bool.eq_false_or_eq_true (!(Fishref2within ((x0).length : Int) 1 4)) with hg57 | hg57
    · replace hq51 := iteT hg57 hq51
      refine WL.no hE (runs_not hE rfl rfl rfl (by rw [hg57]; decide)) rfl ?_; clear hE a; intro a hE
      refine WL.no hE (runs_not hE rfl rfl rfl (by rw [hg57]; decide)) rfl ?_; clear hE a; intro a hE
      refine WL.no hE (runs_not hE rfl rfl rfl (by rw [hg57]; decide)) rfl ?_; clear hE a; intro a hE
      refine WL.vS hS hE (runs_plain rfl) (Gives.pickT hE rfl hg57 rfl) rfl ?_; clear hE a; intro a hE
      refine WL.nil ?_
      subst hK56
      exact ⟨true, hq51, hE.pick _ ⟨rfl, rfl, rfl, trivial⟩, hS⟩
    · replace hq51 := iteF hg57 hq51
      refine WL.vS hS hE (runs_if hE rfl rfl rfl hg57) (Gives.p hE rfl) rfl ?_; clear hE a; intro a hE
      refine WL.vS hS hE (runs_if hE rfl rfl rfl hg57) (Gives.len hE rfl sl53) rfl ?_; clear hE a; intro a hE
      refine WL.vS hS hE (runs_if hE rfl rfl rfl hg57) (Gives.p hE rfl) rfl ?_; clear hE a; intro a hE
      refine WL.vS hS hE (runs_plain rfl) (Gives.pickF hE rfl hg57 rfl) rfl ?_; clear hE a; intro a hE
      refine WL.nil ?_
      subst hK56
      exact ⟨decide (((x1).length : Int) > 8), hq51, hE.pick _ ⟨rfl, rfl, rfl, trivial⟩, hS⟩
  · clear hE hS a w; rintro a w ⟨q55, rfl, hE, hS⟩
    refine W.cond hE rfl (fun hc58 => ?_) (fun hc58 => ?_)
    · replace hr := iteT hc58 hr
      refine W.seq ?_
      refine W.region ?_
      refine WL.vS hS hE (runs_plain rfl) (Gives.p hE rfl) rfl ?_; clear hE a; intro a hE
      refine WL.nil ?_
      refine W.ret ?_
      refine finG (fn := Try.f75) (rs := [.tmp 4]) (vs := [_]) hE rfl ⟨rfl, trivial⟩ ?_
      obtain rfl := Option.some.inj hr
      exact ⟨rfl, hS⟩
    · replace hr := iteF hc58 hr
      refine W.skip ?_
      refine W.seq ?_
      refine W.seq ?_
      refine W.region ?_
      refine WL.vS hS hE (runs_plain rfl) (Gives.p hE rfl) rfl ?_; clear hE a; intro a hE
      refine WL.vS hS hE (runs_plain rfl) (Gives.len hE rfl sl44) rfl ?_; clear hE a; intro a hE
      refine WL.vS hS hE (runs_plain rfl) (Gives.p hE rfl) rfl ?_; clear hE a; intro a hE
      refine WL.nil ?_
      obtain ⟨q60, hq59, hr⟩ := bndS hr
      refine W.cut (fun a w => (.next ()) = q60 ∧ Rep a 68 [(1, .slice a1 x1.length c1)] ∧ St w s (R)) ?_ ?_
      · refine W.block ?_
        refine W.loop (fun m a w => ∃ (rest63 : List Int) (k61 : Nat), rest63.length = m ∧ x0.drop k61 = rest63 ∧ Fishref2StoreFault.loop1 rest63 = q60 ∧ Rep a 68 [(1, .slice a1 x1.length c1), (19, .slice a0 x0.length c0), (20, .int .i64 ((x0).length : Int)), (21, .int .i64 ((k61 : Nat) : Int))] ∧ St w s (R)) (m := x0.length) ⟨x0, 0, rfl, rfl, hq59, hE.pick _ ⟨rfl, rfl, rfl, rfl, trivial⟩, hS⟩ ?_
        clear hE hS a w hq59; rintro m67 a w ⟨rest63, k61, rfl, hd64, hq59, hE, hS⟩
        refine W.gen fun K70 hK70 => ?_
        rcases rest63 with _ | ⟨x62, rest63⟩
        · have hlt65 := drop_nil hd64
          refine W.seq ?_
          refine W.region ?_
          refine WL.vS hS hE (runs_plain rfl) (Gives.p hE rfl) rfl ?_; clear hE a; intro a hE
          refine WL.nil ?_
          refine W.seq ?_
          refine W.condF hE rfl (decide_eq_false (by omega)) ?_
          subst hK70
          refine W.exit rfl ?_
          exact ⟨hq59, hE.pick _ ⟨rfl, trivial⟩, hS⟩
        · obtain ⟨hlt65, hx66, hd64⟩ := drop_cons hd64
          rw [Fishref2StoreFault.loop1] at hq59
          refine W.seq ?_
          refine W.region ?_
          refine WL.vS hS hE (runs_plain rfl) (Gives.p hE rfl) rfl ?_; clear hE a; intro a hE
          refine WL.nil ?_
          refine W.seq ?_
          refine W.condT hE rfl (decide_eq_true (by omega)) ?_
          refine W.skip ?_
          refine W.seq ?_
          refine W.block ?_
          refine W.seq ?_
          refine W.region ?_
          obtain ⟨cs71, hl72, hR73, hat74⟩ := h0.at hx66
          subst hR73
          refine WL.vS hS hE (runs_plain rfl) (Gives.idx hE k61 rfl rfl sl44 rfl hlt65 (h0.aok hlt65)) rfl ?_; clear hE a; intro a hE
          refine WL.vS hS hE (runs_plain rfl) (Gives.load1 hE rfl (fun w h => hat74 w _ h) ty3) rfl ?_; clear hE a; intro a hE
          refine WL.vS hS hE (runs_plain rfl) (Gives.p hE rfl) rfl ?_; clear hE a; intro a hE
          refine WL.nil ?_
          refine W.seq ?_
          refine W.region ?_
          refine WL.vS hS hE (runs_plain rfl) (Gives.p hE rfl) rfl ?_; clear hE a; intro a hE
          refine WL.fnq hE (Fishref2within_ok hS  rfl (r := Fishref2within x62 1 4)) (runs_plain rfl) bd45 rfl rfl rfl ?_
          clear hE hS; rintro e w ⟨rfl, hS⟩; refine ⟨_, rfl, ?_⟩; clear a; intro a hE
          refine WL.vS hS hE (runs_plain rfl) (Gives.p hE rfl) rfl ?_; clear hE a; intro a hE
          refine WL.nil ?_
          refine W.cond hE rfl (fun hc75 => ?_) (fun hc75 => ?_)
          · replace hq59 := iteT hc75 hq59
            refine W.seq ?_
            refine W.region ?_
            refine WL.vS hS hE (runs_plain rfl) (Gives.p hE rfl) rfl ?_; clear hE a; intro a hE
            refine WL.nil ?_
            refine W.ret ?_
            subst hK70
            rw [← hq59] at hr
            dsimp only at hr
            refine finG (fn := Try.f75) (rs := [.tmp 4]) (vs := [_]) hE rfl ⟨rfl, trivial⟩ ?_
            obtain rfl := Option.some.inj hr
            exact ⟨rfl, hS⟩
          · replace hq59 := iteF hc75 hq59
            refine W.skip ?_
            refine W.region ?_
            refine WL.vS hS hE (runs_plain rfl) (Gives.inc hE rfl (by have := h0.small; omega)) rfl ?_; clear hE a; intro a hE
            refine WL.vS hS hE (runs_plain rfl) (Gives.p hE rfl) rfl ?_; clear hE a; intro a hE
            refine WL.nil ?_
            subst hK70
            exact ⟨rest63.length, Nat.lt_succ_self _, rest63, k61 + 1, rfl, hd64, hq59, hE.pick _ ⟨rfl, rfl, rfl, rfl, trivial⟩, hS⟩
      · clear hE hS a w; rintro a w ⟨rfl, hE, hS⟩
        dsimp only at hr
        refine W.seq ?_
        refine W.region ?_
        replace hS := hS.vecNil 3 1
        refine WL.vS hS hE (runs_plain rfl) (Gives.p hE rfl) rfl ?_; clear hE a; intro a hE
        refine WL.nil ?_
        refine W.seq ?_
        refine W.seq ?_
        refine W.region ?_
        refine WL.vS hS hE (runs_plain rfl) (Gives.p hE rfl) rfl ?_; clear hE a; intro a hE
        refine WL.vS hS hE (runs_plain rfl) (Gives.len hE rfl sl53) rfl ?_; clear hE a; intro a hE
        refine WL.vS hS hE (runs_plain rfl) (Gives.p hE rfl) rfl ?_; clear hE a; intro a hE
        refine WL.nil ?_
        obtain ⟨q78, hq77, hr⟩ := bindS hr
        refine W.cut (fun a w => ∃ (q88 : List Int), ∃ (a89 : Option Addr), ∃ (c90 : Nat), ∃ (n92 : Nat), ∃ (cs93 : List Value), (.next q88) = q78 ∧ Ev 1 (RI .i64) s cs93 q88 ∧ q88.length = n92 ∧ Rep a 68 [] ∧ St w s (vecC 3 1 a89 c90 n92 cs93 :: R)) ?_ ?_
        · refine W.block ?_
          refine W.loop (fun m a w => ∃ (rest81 : List FleetStay) (k79 : Nat), ∃ (q88 : List Int), ∃ (a89 : Option Addr), ∃ (c90 : Nat), ∃ (n92 : Nat), ∃ (cs93 : List Value), rest81.length = m ∧ x1.drop k79 = rest81 ∧ Fishref2StoreFault.loop2 rest81 q88 = some q78 ∧ Ev 1 (RI .i64) s cs93 q88 ∧ q88.length = n92 ∧ Rep a 68 [(7, .slice a89 n92 c90), (29, .slice a1 x1.length c1), (30, .int .i64 ((x1).length : Int)), (31, .int .i64 ((k79 : Nat) : Int))] ∧ St w s (vecC 3 1 a89 c90 n92 cs93 :: R)) (m := x1.length) ⟨x1, 0, [], none, 0, 0, [], rfl, rfl, hq77, (Ev.nil), (rfl), hE.pick _ ⟨rfl, rfl, rfl, rfl, trivial⟩, hS⟩ ?_
          clear hE hS a w hq77; rintro m85 a w ⟨rest81, k79, q88, a89, c90, n92, cs93, rfl, hd82, hq77, h91, rfl, hE, hS⟩
          refine W.gen fun K95 hK95 => ?_
          rcases rest81 with _ | ⟨x80, rest81⟩
          · have hlt83 := drop_nil hd82
            refine W.seq ?_
            refine W.region ?_
            refine WL.vS hS hE (runs_plain rfl) (Gives.p hE rfl) rfl ?_; clear hE a; intro a hE
            refine WL.nil ?_
            refine W.seq ?_
            refine W.condF hE rfl (decide_eq_false (by omega)) ?_
            subst hK95
            refine W.exit rfl ?_
            exact ⟨q88, a89, c90, q88.length, cs93, Option.some.inj hq77, h91, rfl, hE.pick _ trivial, hS⟩
          · obtain ⟨hlt83, hx84, hd82⟩ := drop_cons hd82
            rw [Fishref2StoreFault.loop2] at hq77
            refine W.seq ?_
            refine W.region ?_
            refine WL.vS hS hE (runs_plain rfl) (Gives.p hE rfl) rfl ?_; clear hE a; intro a hE
            refine WL.nil ?_
            refine W.seq ?_
            refine W.condT hE rfl (decide_eq_true (by omega)) ?_
            refine W.skip ?_
            refine W.seq ?_
            refine W.block ?_
            refine W.seq ?_
            refine W.region ?_
            obtain ⟨cs96, hl97, hR98, hat99⟩ := h1.at hx84
            subst hR98
            refine WL.vS hS hE (runs_plain rfl) (Gives.idx hE k79 rfl rfl sl53 rfl hlt83 (h1.aok hlt83)) rfl ?_; clear hE a; intro a hE
            refine WL.vS hS hE (runs_plain rfl) (Gives.loadA hE rfl (fun w h => hat99 w _ h) ty105) rfl ?_; clear hE a; intro a hE
            refine WL.alloc hE hS (runs_plain rfl) zr105 rfl ?_; clear hE hS a w; intro b100 a w hE hS
            refine WL.storeI hE hS 0 rfl (FleetStay.cells x80) (runs_plain rfl) rfl rfl rfl ty105 rfl rfl rfl rfl ?_; clear hE hS a w; intro a w hE hS
            refine WL.nil ?_
            refine W.seq ?_
            refine W.seq ?_
            obtain ⟨q102, hq101, hq77⟩ := bndS hq77
            refine W.cut (fun a w => ∃ (q105 : Bool), q105 = q102 ∧ Rep a 68 [(7, .slice a89 q88.length c90), (9, .pointer (some ⟨b100, 0, none⟩)), (29, .slice a1 x1.length c1), (30, .int .i64 ((x1).length : Int)), (31, .int .i64 ((k79 : Nat) : Int)), (44, .bool q105)] ∧ St w s (pt b100 (.cells (FleetStay.cells x80).toArray 105 (0, 0)) :: vecC 3 1 a89 c90 q88.length cs93 :: R)) ?_ ?_
            · refine W.gen fun K106 hK106 => ?_
              refine W.region ?_
              refine WL.vS hS hE (runs_plain rfl) (Gives.fld hE rfl fl105_0) rfl ?_; clear hE a; intro a hE
              refine WL.vS hS hE (runs_plain rfl) (Gives.loadB hE 0 rfl rfl rfl ty3) rfl ?_; clear hE a; intro a hE
              refine WL.fnq hE (Fishref2within_ok hS  rfl (r := Fishref2within x80.In 0 28800)) (runs_plain rfl) bd45 rfl rfl rfl ?_
              clear hE hS; rintro e w ⟨rfl, hS⟩; refine ⟨_, rfl, ?_⟩; clear a; intro a hE
              refine WL.vS hS hE (runs_plain rfl) (Gives.p hE rfl) rfl ?_; clear hE a; intro a hE
              refine WL.vS hS hE (runs_plain rfl) (Gives.p hE rfl) rfl ?_; clear hE a; intro a hE
              rcases Bool.eq_false_or_eq_true (!(Fishref2within x80.In 0 28800)) with hg107 | hg107
              · replace hq101 := iteT hg107 hq101
                refine WL.no hE (runs_not hE rfl rfl rfl (by rw [hg107]; decide)) rfl ?_; clear hE a; intro a hE
                refine WL.no hE (runs_not hE rfl rfl rfl (by rw [hg107]; decide)) rfl ?_; clear hE a; intro a hE
                refine WL.no hE (runs_not hE rfl rfl rfl (by rw [hg107]; decide)) rfl ?_; clear hE a; intro a hE
                refine WL.no hE (runs_not hE rfl rfl rfl (by rw [hg107]; decide)) rfl ?_; clear hE a; intro a hE
                refine WL.vS hS hE (runs_plain rfl) (Gives.pickT hE rfl hg107 rfl) rfl ?_; clear hE a; intro a hE
                refine WL.nil ?_
                subst hK106
                exact ⟨true, hq101, hE.pick _ ⟨rfl, rfl, rfl, rfl, rfl, rfl, trivial⟩, hS⟩
              · replace hq101 := iteF hg107 hq101
                refine WL.vS hS hE (runs_if hE rfl rfl rfl hg107) (Gives.fld hE rfl fl105_1) rfl ?_; clear hE a; intro a hE
                refine WL.vS hS hE (runs_if hE rfl rfl rfl hg107) (Gives.loadB hE 0 rfl rfl rfl ty3) rfl ?_; clear hE a; intro a hE
                refine WL.fnq hE (Fishref2within_ok hS  rfl (r := Fishref2within x80.Out 0 28800)) (runs_if hE rfl rfl rfl hg107) bd45 rfl rfl rfl ?_
                clear hE hS; rintro e w ⟨rfl, hS⟩; refine ⟨_, rfl, ?_⟩; clear a; intro a hE
                refine WL.vS hS hE (runs_if hE rfl rfl rfl hg107) (Gives.p hE rfl) rfl ?_; clear hE a; intro a hE
                refine WL.vS hS hE (runs_plain rfl) (Gives.pickF hE rfl hg107 rfl) rfl ?_; clear hE a; intro a hE
                refine WL.nil ?_
                subst hK106
                exact ⟨!(Fishref2within x80.Out 0 28800), hq101, hE.pick _ ⟨rfl, rfl, rfl, rfl, rfl, rfl, trivial⟩, hS⟩
            · clear hE hS a w; rintro a w ⟨q105, rfl, hE, hS⟩
              refine W.cond hE rfl (fun hc108 => ?_) (fun hc108 => ?_)
              · replace hq77 := iteT hc108 hq77
                refine W.seq ?_
                refine W.region ?_
                refine WL.vS hS hE (runs_plain rfl) (Gives.p hE rfl) rfl ?_; clear hE a; intro a hE
                refine WL.nil ?_
                refine W.ret ?_
                subst hK95
                rw [← Option.some.inj hq77] at hr
                dsimp only at hr
                refine finG (fn := Try.f75) (rs := [.tmp 4]) (vs := [_]) hE rfl ⟨rfl, trivial⟩ ?_
                obtain rfl := Option.some.inj hr
                replace hS := hS.tail
                replace hS := hS.tail
                exact ⟨rfl, hS⟩
              · replace hq77 := iteF hc108 hq77
                refine W.skip ?_
                refine W.seq ?_
                refine W.seq ?_
                refine W.region ?_
                refine WL.vS hS hE (runs_plain rfl) (Gives.fld hE rfl fl105_1) rfl ?_; clear hE a; intro a hE
                refine WL.vS hS hE (runs_plain rfl) (Gives.loadB hE 0 rfl rfl rfl ty3) rfl ?_; clear hE a; intro a hE
                refine WL.vS hS hE (runs_plain rfl) (Gives.fld hE rfl fl105_0) rfl ?_; clear hE a; intro a hE
                refine WL.vS hS hE (runs_plain rfl) (Gives.loadB hE 0 rfl rfl rfl ty3) rfl ?_; clear hE a; intro a hE
                refine WL.vS hS hE (runs_plain rfl) (Gives.p hE rfl) rfl ?_; clear hE a; intro a hE
                refine WL.nil ?_
                refine W.cond hE rfl (fun hc109 => ?_) (fun hc109 => ?_)
                · replace hq77 := iteT hc109 hq77
                  refine W.seq ?_
                  refine W.region ?_
                  refine WL.vS hS hE (runs_plain rfl) (Gives.p hE rfl) rfl ?_; clear hE a; intro a hE
                  refine WL.nil ?_
                  refine W.ret ?_
                  subst hK95
                  rw [← Option.some.inj hq77] at hr
                  dsimp only at hr
                  refine finG (fn := Try.f75) (rs := [.tmp 4]) (vs := [_]) hE rfl ⟨rfl, trivial⟩ ?_
                  obtain rfl := Option.some.inj hr
                  replace hS := hS.tail
                  replace hS := hS.tail
                  exact ⟨rfl, hS⟩
                · replace hq77 := iteF hc109 hq77
                  refine W.skip ?_
                  refine W.seq ?_
                  refine W.seq ?_
                  obtain ⟨q111, hq110, hq77⟩ := bndS hq77
                  refine W.cut (fun a w => ∃ (q114 : Bool), q114 = q111 ∧ Rep a 68 [(7, .slice a89 q88.length c90), (9, .pointer (some ⟨b100, 0, none⟩)), (29, .slice a1 x1.length c1), (30, .int .i64 ((x1).length : Int)), (31, .int .i64 ((k79 : Nat) : Int)), (59, .bool q114)] ∧ St w s (pt b100 (.cells (FleetStay.cells x80).toArray 105 (0, 0)) :: vecC 3 1 a89 c90 q88.length cs93 :: R)) ?_ ?_
                  · refine W.gen fun K115 hK115 => ?_
                    refine W.region ?_
                    refine WL.vS hS hE (runs_plain rfl) (Gives.p hE rfl) rfl ?_; clear hE a; intro a hE
                    refine WL.vS hS hE (runs_plain rfl) (Gives.fld hE rfl fl105_0) rfl ?_; clear hE a; intro a hE
                    refine WL.vS hS hE (runs_plain rfl) (Gives.loadB hE 0 rfl rfl rfl ty3) rfl ?_; clear hE a; intro a hE
                    have hF := hS.lendV RI.mono 1 rfl h91 rfl; clear hS; obtain ⟨t116, hle117, hS, hs118, bk119⟩ := hF
                    refine WL.fnq hE (SlicesContainsLint_ok hS hs118 rfl (r := SlicesContainsLint q88 x80.In)) (runs_plain rfl) bd24 rfl rfl rfl ?_
                    clear hE hS; rintro e w ⟨rfl, hS⟩; refine ⟨_, rfl, ?_⟩; clear a; intro a hE
                    replace hS := bk119 _ _ hS
                    refine WL.vS hS hE (runs_plain rfl) (Gives.p hE rfl) rfl ?_; clear hE a; intro a hE
                    rcases Bool.eq_false_or_eq_true (SlicesContainsLint q88 x80.In) with hg120 | hg120
                    · replace hq110 := iteT hg120 hq110
                      refine WL.no hE (runs_not hE rfl rfl rfl (by rw [hg120]; decide)) rfl ?_; clear hE a; intro a hE
                      refine WL.no hE (runs_not hE rfl rfl rfl (by rw [hg120]; decide)) rfl ?_; clear hE a; intro a hE
                      refine WL.no hE (runs_not hE rfl rfl rfl (by rw [hg120]; decide)) rfl ?_; clear hE a; intro a hE
                      refine WL.no hE (runs_not hE rfl rfl rfl (by rw [hg120]; decide)) rfl ?_; clear hE a; intro a hE
                      refine WL.vS hS hE (runs_plain rfl) (Gives.pickT hE rfl hg120 rfl) rfl ?_; clear hE a; intro a hE
                      refine WL.nil ?_
                      replace hS := hS.front 1 rfl
                      subst hK115
                      exact ⟨true, hq110, hE.pick _ ⟨rfl, rfl, rfl, rfl, rfl, rfl, trivial⟩, hS⟩
                    · replace hq110 := iteF hg120 hq110
                      refine WL.vS hS hE (runs_if hE rfl rfl rfl hg120) (Gives.p hE rfl) rfl ?_; clear hE a; intro a hE
                      refine WL.vS hS hE (runs_if hE rfl rfl rfl hg120) (Gives.fld hE rfl fl105_1) rfl ?_; clear hE a; intro a hE
                      refine WL.vS hS hE (runs_if hE rfl rfl rfl hg120) (Gives.loadB hE 1 rfl rfl rfl ty3) rfl ?_; clear hE a; intro a hE
                      have hF := hS.lendV RI.mono 0 rfl h91 rfl; clear hS; obtain ⟨t121, hle122, hS, hs123, bk124⟩ := hF
                      refine WL.fnq hE (SlicesContainsLint_ok hS hs123 rfl (r := SlicesContainsLint q88 x80.Out)) (runs_if hE rfl rfl rfl hg120) bd24 rfl rfl rfl ?_
                      clear hE hS; rintro e w ⟨rfl, hS⟩; refine ⟨_, rfl, ?_⟩; clear a; intro a hE
                      replace hS := bk124 _ _ hS
                      refine WL.vS hS hE (runs_plain rfl) (Gives.pickF hE rfl hg120 rfl) rfl ?_; clear hE a; intro a hE
                      refine WL.nil ?_
                      replace hS := hS.front 1 rfl
                      subst hK115
                      exact ⟨(SlicesContainsLint q88 x80.Out), hq110, hE.pick _ ⟨rfl, rfl, rfl, rfl, rfl, rfl, trivial⟩, hS⟩
                  · clear hE hS a w; rintro a w ⟨q114, rfl, hE, hS⟩
                    refine W.cond hE rfl (fun hc125 => ?_) (fun hc125 => ?_)
                    · replace hq77 := iteT hc125 hq77
                      refine W.seq ?_
                      refine W.region ?_
                      refine WL.vS hS hE (runs_plain rfl) (Gives.p hE rfl) rfl ?_; clear hE a; intro a hE
                      refine WL.nil ?_
                      refine W.ret ?_
                      subst hK95
                      rw [← Option.some.inj hq77] at hr
                      dsimp only at hr
                      refine finG (fn := Try.f75) (rs := [.tmp 4]) (vs := [_]) hE rfl ⟨rfl, trivial⟩ ?_
                      obtain rfl := Option.some.inj hr
                      replace hS := hS.tail
                      replace hS := hS.tail
                      exact ⟨rfl, hS⟩
                    · replace hq77 := iteF hc125 hq77
                      refine W.skip ?_
                      refine W.region ?_
                      refine WL.vS hS hE (runs_plain rfl) (Gives.p hE rfl) rfl ?_; clear hE a; intro a hE
                      refine WL.vS hS hE (runs_plain rfl) (Gives.fld hE rfl fl105_0) rfl ?_; clear hE a; intro a hE
                      refine WL.vS hS hE (runs_plain rfl) (Gives.loadB hE 0 rfl rfl rfl ty3) rfl ?_; clear hE a; intro a hE
                      refine WL.vS hS hE (runs_plain rfl) (Gives.fld hE rfl fl105_1) rfl ?_; clear hE a; intro a hE
                      refine WL.vS hS hE (runs_plain rfl) (Gives.loadB hE 0 rfl rfl rfl ty3) rfl ?_; clear hE a; intro a hE
                      refine WL.lit hE hS (e := 3) (es := 1) (vs := [(0, .int .i64 x80.In), (1, .int .i64 x80.Out)]) (cs := [.int .i64 x80.In, .int .i64 x80.Out]) (runs_plain rfl) rfl (by kernel_rfl) rfl ?_; clear hE hS a w; intro b126 a w hE hS
                      obtain ⟨x127, hx128, hq77⟩ := bindS hq77
                      refine WL.appD hE hS 1 (m := 2) (runs_plain rfl) rfl rfl rfl ap44 rfl h91 rfl (xs := [x80.In, x80.Out]) (Ev.cons (c1 := [.int .i64 x80.In]) rfl rfl (Ev.cons (c1 := [.int .i64 x80.Out]) rfl rfl (Ev.nil))) rfl rfl hx128 rfl ?_; clear hE hS a w; intro a129 c130 cs131 a w h132 hE hS
                      refine WL.vS hS hE (runs_plain rfl) (Gives.p hE rfl) rfl ?_; clear hE a; intro a hE
                      refine WL.nil ?_
                      refine W.region ?_
                      refine WL.vS hS hE (runs_plain rfl) (Gives.inc hE rfl (by have := h1.small; omega)) rfl ?_; clear hE a; intro a hE
                      refine WL.vS hS hE (runs_plain rfl) (Gives.p hE rfl) rfl ?_; clear hE a; intro a hE
                      refine WL.nil ?_
                      replace hS := hS.tail
                      subst hK95
                      exact ⟨rest81.length, Nat.lt_succ_self _, rest81, k79 + 1, x127, a129, c130, x127.length, cs131, rfl, hd82, hq77, h132, (rfl), hE.pick _ ⟨rfl, rfl, rfl, rfl, trivial⟩, hS⟩
        · clear hE hS a w; rintro a w ⟨q88, a89, c90, n92, cs93, rfl, h91, rfl, hE, hS⟩
          dsimp only at hr
          refine W.seq ?_
          refine W.region ?_
          refine WL.vS hS hE (runs_plain rfl) (Gives.p hE rfl) rfl ?_; clear hE a; intro a hE
          refine WL.nil ?_
          refine W.ret ?_
          refine finG (fn := Try.f75) (rs := [.tmp 4]) (vs := [_]) hE rfl ⟨rfl, trivial⟩ ?_
          obtain rfl := Option.some.inj hr
          replace hS := hS.tail
          exact ⟨rfl, hS⟩
set_option maxHeartbeats 8000000 in
theorem Fishref2Stands_1_ok  {w : World} {s : Sg} {R : List HP} {x0 : Fishref2Event} {x1 : Fishref2Event} (hS : St w s (R))  {r : Int} (hr : Fishref2Stands_1 x0 x1 = r) :
    Calls Try.prog 117 [.agg (Fishref2Event.cells x0).toArray, .agg (Fishref2Event.cells x1).toArray].toArray w (fun e w => e = .returned (.int .i64 r) ∧ St w s (R)) := by
  refine enter Try.func117 rfl rfl rfl fun a hE => ?_
  rw [Fishref2Stands_1] at hr
  refine W.seq ?_
  refine W.region ?_
  refine WL.box hE hS (runs_plain rfl) rfl rfl rfl ?_; clear hE hS a w; intro b51 a w hE hS
  refine WL.box hE hS (runs_plain rfl) rfl rfl rfl ?_; clear hE hS a w; intro b52 a w hE hS
  refine WL.vS hS hE (runs_plain rfl) (Gives.p hE rfl) rfl ?_; clear hE a; intro a hE
  refine WL.nil ?_
  refine W.seq ?_
  refine W.region ?_
  refine WL.vS hS hE (runs_plain rfl) (Gives.fld hE rfl fl154_0) rfl ?_; clear hE a; intro a hE
  refine WL.vS hS hE (runs_plain rfl) (Gives.loadB hE 1 rfl rfl rfl ty3) rfl ?_; clear hE a; intro a hE
  refine WL.vS hS hE (runs_plain rfl) (Gives.fld hE rfl fl154_0) rfl ?_; clear hE a; intro a hE
  refine WL.vS hS hE (runs_plain rfl) (Gives.loadB hE 0 rfl rfl rfl ty3) rfl ?_; clear hE a; intro a hE
  refine WL.vS hS hE (runs_plain rfl) (Gives.p hE rfl) rfl ?_; clear hE a; intro a hE
  refine WL.vS hS hE (runs_plain rfl) (Gives.p hE rfl) rfl ?_; clear hE a; intro a hE
  refine WL.nil ?_
  refine W.ret ?_
  refine finG (fn := Try.f117) (rs := [.tmp 4]) (vs := [_]) hE rfl ⟨rfl, trivial⟩ ?_
  subst hr
  replace hS := hS.tail
  replace hS := hS.tail
  exact ⟨rfl, hS⟩
set_option maxHeartbeats 8000000 in
theorem Fishref2Stands_ok  {w : World} {s : Sg} {R : List HP} {x0 : List Int} {a0 : Option Addr} {c0 : Nat} {x1 : List FleetStay} {a1 : Option Addr} {c1 : Nat} {x2 : List Int} {a2 : Option Addr} {c2 : Nat} (hS : St w s (R)) (h0 : Sl 1 (RI .i64) s a0 c0 x0) (h1 : Sl 2 RFleetStay s a1 c1 x1) (h2 : Sl 1 (RI .i64) s a2 c2 x2) {r : Bool} (hr : Fishref2Stands x0 x1 x2 = some r) :
    Calls Try.prog 77 [.slice a0 x0.length c0, .slice a1 x1.length c1, .slice a2 x2.length c2].toArray w (fun e w => e = .returned (.bool r) ∧ St w s (R)) := by
  refine enter Try.func77 rfl rfl rfl fun a hE => ?_
  rw [Fishref2Stands] at hr
  refine W.seq ?_
  refine W.region ?_
  refine WL.vS hS hE (runs_plain rfl) (Gives.p hE rfl) rfl ?_; clear hE a; intro a hE
  refine WL.nil ?_
  refine W.seq ?_
  refine W.region ?_
  replace hS := hS.vecNil 154 3
  refine WL.vS hS hE (runs_plain rfl) (Gives.p hE rfl) rfl ?_; clear hE a; intro a hE
  refine WL.nil ?_
  refine W.seq ?_
  refine W.seq ?_
  refine W.region ?_
  refine WL.vS hS hE (runs_plain rfl) (Gives.p hE rfl) rfl ?_; clear hE a; intro a hE
  refine WL.vS hS hE (runs_plain rfl) (Gives.len hE rfl sl53) rfl ?_; clear hE a; intro a hE
  refine WL.vS hS hE (runs_plain rfl) (Gives.p hE rfl) rfl ?_; clear hE a; intro a hE
  refine WL.nil ?_
  obtain ⟨q53, hq52, hr⟩ := bindS hr
  refine W.cut (fun a w => ∃ (q63 : List Fishref2Event), ∃ (a64 : Option Addr), ∃ (c65 : Nat), ∃ (n67 : Nat), ∃ (cs68 : List Value), q63 = q53 ∧ Ev 3 RFishref2Event s cs68 q63 ∧ q63.length = n67 ∧ Rep a 111 [(0, .slice a0 x0.length c0), (2, .slice a2 x2.length c2), (7, .slice a64 n67 c65)] ∧ St w s (vecC 154 3 a64 c65 n67 cs68 :: R)) ?_ ?_
  · refine W.block ?_
    refine W.loop (fun m a w => ∃ (rest56 : List FleetStay) (k54 : Nat), ∃ (q63 : List Fishref2Event), ∃ (a64 : Option Addr), ∃ (c65 : Nat), ∃ (n67 : Nat), ∃ (cs68 : List Value), rest56.length = m ∧ x1.drop k54 = rest56 ∧ Fishref2Stands.loop1 rest56 k54 q63 = some q53 ∧ Ev 3 RFishref2Event s cs68 q63 ∧ q63.length = n67 ∧ Rep a 111 [(0, .slice a0 x0.length c0), (2, .slice a2 x2.length c2), (7, .slice a64 n67 c65), (15, .slice a1 x1.length c1), (16, .int .i64 ((x1).length : Int)), (17, .int .i64 ((k54 : Nat) : Int))] ∧ St w s (vecC 154 3 a64 c65 n67 cs68 :: R)) (m := x1.length) ⟨x1, 0, [], none, 0, 0, [], rfl, rfl, hq52, (Ev.nil), (rfl), hE.pick _ ⟨rfl, rfl, rfl, rfl, rfl, rfl, trivial⟩, hS⟩ ?_
    clear hE hS a w hq52; rintro m60 a w ⟨rest56, k54, q63, a64, c65, n67, cs68, rfl, hd57, hq52, h66, rfl, hE, hS⟩
    refine W.gen fun K70 hK70 => ?_
    rcases rest56 with _ | ⟨x55, rest56⟩
    · have hlt58 := drop_nil hd57
      refine W.seq ?_
      refine W.region ?_
      refine WL.vS hS hE (runs_plain rfl) (Gives.p hE rfl) rfl ?_; clear hE a; intro a hE
      refine WL.nil ?_
      refine W.seq ?_
      refine W.condF hE rfl (decide_eq_false (by omega)) ?_
      subst hK70
      refine W.exit rfl ?_
      exact ⟨q63, a64, c65, q63.length, cs68, Option.some.inj hq52, h66, rfl, hE.pick _ ⟨rfl, rfl, rfl, trivial⟩, hS⟩
    · obtain ⟨hlt58, hx59, hd57⟩ := drop_cons hd57
      rw [Fishref2Stands.loop1] at hq52
      refine W.seq ?_
      refine W.region ?_
      refine WL.vS hS hE (runs_plain rfl) (Gives.p hE rfl) rfl ?_; clear hE a; intro a hE
      refine WL.nil ?_
      refine W.seq ?_
      refine W.condT hE rfl (decide_eq_true (by omega)) ?_
      refine W.skip ?_
      refine W.seq ?_
      refine W.block ?_
      refine W.seq ?_
      refine W.region ?_
      refine WL.vS hS hE (runs_plain rfl) (Gives.p hE rfl) rfl ?_; clear hE a; intro a hE
      obtain ⟨cs71, hl72, hR73, hat74⟩ := h1.at hx59
      subst hR73
      refine WL.vS hS hE (runs_plain rfl) (Gives.idx hE k54 rfl rfl sl53 rfl hlt58 (h1.aok hlt58)) rfl ?_; clear hE a; intro a hE
      refine WL.vS hS hE (runs_plain rfl) (Gives.loadA hE rfl (fun w h => hat74 w _ h) ty105) rfl ?_; clear hE a; intro a hE
      refine WL.alloc hE hS (runs_plain rfl) zr105 rfl ?_; clear hE hS a w; intro b75 a w hE hS
      refine WL.vS hS hE (runs_plain rfl) (Gives.p hE rfl) rfl ?_; clear hE a; intro a hE
      refine WL.storeI hE hS 0 rfl (FleetStay.cells x55) (runs_plain rfl) rfl rfl rfl ty105 rfl rfl rfl rfl ?_; clear hE hS a w; intro a w hE hS
      refine WL.nil ?_
      refine W.region ?_
      refine WL.vS hS hE (runs_plain rfl) (Gives.p hE rfl) rfl ?_; clear hE a; intro a hE
      refine WL.vS hS hE (runs_plain rfl) (Gives.fld hE rfl fl105_0) rfl ?_; clear hE a; intro a hE
      refine WL.vS hS hE (runs_plain rfl) (Gives.loadB hE 0 rfl rfl rfl ty3) rfl ?_; clear hE a; intro a hE
      refine WL.vS hS hE (runs_plain rfl) (Gives.p hE rfl) rfl ?_; clear hE a; intro a hE
      refine WL.vS hS hE (runs_plain rfl) (Gives.build hE (vs := [(0, .int .i64 x55.In), (1, .int .i64 ((k54 : Nat) : Int)), (2, .bool true)]) [.int .i64 x55.In, .int .i64 ((k54 : Nat) : Int), .bool true] rfl (by kernel_rfl)) rfl ?_; clear hE a; intro a hE
      refine WL.vS hS hE (runs_plain rfl) (Gives.fld hE rfl fl105_1) rfl ?_; clear hE a; intro a hE
      refine WL.vS hS hE (runs_plain rfl) (Gives.loadB hE 0 rfl rfl rfl ty3) rfl ?_; clear hE a; intro a hE
      refine WL.vS hS hE (runs_plain rfl) (Gives.p hE rfl) rfl ?_; clear hE a; intro a hE
      refine WL.vS hS hE (runs_plain rfl) (Gives.build hE (vs := [(0, .int .i64 x55.Out), (1, .int .i64 ((k54 : Nat) : Int)), (2, .bool false)]) [.int .i64 x55.Out, .int .i64 ((k54 : Nat) : Int), .bool false] rfl (by kernel_rfl)) rfl ?_; clear hE a; intro a hE
      refine WL.lit hE hS (e := 154) (es := 3) (vs := [(0, .agg [.int .i64 x55.In, .int .i64 ((k54 : Nat) : Int), .bool true].toArray), (1, .agg [.int .i64 x55.Out, .int .i64 ((k54 : Nat) : Int), .bool false].toArray)]) (cs := [.int .i64 x55.In, .int .i64 ((k54 : Nat) : Int), .bool true, .int .i64 x55.Out, .int .i64 ((k54 : Nat) : Int), .bool false]) (runs_plain rfl) rfl (by kernel_rfl) rfl ?_; clear hE hS a w; intro b76 a w hE hS
      obtain ⟨x77, hx78, hq52⟩ := bindS hq52
      refine WL.appD hE hS 1 (m := 2) (runs_plain rfl) rfl rfl rfl ap152 rfl h66 rfl (xs := [(Fishref2Event.mk x55.In ((k54 : Nat) : Int) true), (Fishref2Event.mk x55.Out ((k54 : Nat) : Int) false)]) (Ev.cons (c1 := [.int .i64 x55.In, .int .i64 ((k54 : Nat) : Int), .bool true]) rfl rfl (Ev.cons (c1 := [.int .i64 x55.Out, .int .i64 ((k54 : Nat) : Int), .bool false]) rfl rfl (Ev.nil))) rfl rfl hx78 rfl ?_; clear hE hS a w; intro a79 c80 cs81 a w h82 hE hS
      refine WL.vS hS hE (runs_plain rfl) (Gives.p hE rfl) rfl ?_; clear hE a; intro a hE
      refine WL.nil ?_
      refine W.region ?_
      refine WL.vS hS hE (runs_plain rfl) (Gives.inc hE rfl (by have := h1.small; omega)) rfl ?_; clear hE a; intro a hE
      refine WL.vS hS hE (runs_plain rfl) (Gives.p hE rfl) rfl ?_; clear hE a; intro a hE
      refine WL.nil ?_
      replace hS := hS.tail
      subst hK70
      exact ⟨rest56.length, Nat.lt_succ_self _, rest56, k54 + 1, x77, a79, c80, x77.length, cs81, rfl, hd57, hq52, h82, (rfl), hE.pick _ ⟨rfl, rfl, rfl, rfl, rfl, rfl, trivial⟩, hS⟩
  · clear hE hS a w; rintro a w ⟨q63, a64, c65, n67, cs68, rfl, h66, rfl, hE, hS⟩
    refine W.seq ?_
    refine W.region ?_
    refine WL.vS hS hE (runs_plain rfl) (Gives.p hE rfl) rfl ?_; clear hE a; intro a hE
    obtain ⟨q86, hq87, hr⟩ := bindS hr
    refine WL.fnq hE (itSortF116_117_ok hS h66 rfl hq87) (runs_plain rfl) bd116 rfl rfl rfl ?_
    clear hE hS; rintro e w ⟨cs84, rfl, h85, hn88, hS⟩; refine ⟨_, rfl, ?_⟩; clear a; intro a hE
    refine WL.nil ?_
    refine W.seq ?_
    refine W.region ?_
    refine WL.vS hS hE (runs_plain rfl) (Gives.p hE rfl) rfl ?_; clear hE a; intro a hE
    refine WL.vS hS hE (runs_plain rfl) (Gives.len hE rfl sl44) rfl ?_; clear hE a; intro a hE
    obtain ⟨x89, hx90, hr⟩ := bindS hr
    refine WL.mkND (Rr := RI .i64) (Ti := 3) (es := 1) hE hS (runs_plain rfl) rfl rfl ap25 zr44 hx90 rfl ?_; clear hE hS a w; intro b91 ds92 a w h93 hE hS
    refine WL.vS hS hE (runs_plain rfl) (Gives.p hE rfl) rfl ?_; clear hE a; intro a hE
    refine WL.nil ?_
    refine W.seq ?_
    refine W.seq ?_
    refine W.region ?_
    refine WL.vS hS hE (runs_plain rfl) (Gives.p hE rfl) rfl ?_; clear hE a; intro a hE
    refine WL.vS hS hE (runs_plain rfl) (Gives.len hE rfl sl152) rfl ?_; clear hE a; intro a hE
    refine WL.vS hS hE (runs_plain rfl) (Gives.p hE rfl) rfl ?_; clear hE a; intro a hE
    refine WL.nil ?_
    have hb106 : q63.length ≤ 9223372036854775807 := by have := hS.vecCap 1 rfl; unfold maxLen at this; omega
    obtain ⟨q96, hq95, hr⟩ := bindS hr
    refine W.cut (fun a w => ∃ (q107 : List (List Int)), ∃ (ds111 : List In), (.next q107) = q96 ∧ NEv 1 (RI .i64) s ds111 q107 ∧ q107.length = x89.length ∧ Rep a 111 [] ∧ St w s (nestC 44 3 1 (some ⟨b91, 0, none⟩) x89.length x89.length ds111 :: vecC 154 3 a64 c65 q63.length cs84 :: R)) ?_ ?_
    · refine W.block ?_
      refine W.loop (fun m a w => ∃ (rest99 : Nat) (k97 : Nat), ∃ (q107 : List (List Int)), ∃ (ds111 : List In), rest99 = m ∧ k97 + rest99 = q63.length ∧ Fishref2Stands.loop2 x0 x2 q86 rest99 k97 q107 = some q96 ∧ NEv 1 (RI .i64) s ds111 q107 ∧ q107.length = x89.length ∧ Rep a 111 [(0, .slice a0 x0.length c0), (2, .slice a2 x2.length c2), (10, .slice (some ⟨b91, 0, none⟩) x89.length x89.length), (39, .slice a64 q63.length c65), (40, .int .i64 ((q63.length : Nat) : Int)), (41, .int .i64 ((k97 : Nat) : Int))] ∧ St w s (nestC 44 3 1 (some ⟨b91, 0, none⟩) x89.length x89.length ds111 :: vecC 154 3 a64 c65 q63.length cs84 :: R)) (m := q63.length) ⟨q63.length, 0, x89, ds92, rfl, by omega, hq95, h93, (rfl), hE.pick _ ⟨rfl, rfl, rfl, rfl, rfl, rfl, trivial⟩, hS⟩ ?_
      clear hE hS a w hq95; rintro m103 a w ⟨rest99, k97, q107, ds111, rfl, hd100, hq95, h112, hn113, hE, hS⟩
      refine W.gen fun K114 hK114 => ?_
      rcases rest99 with _ | rest99
      · skip
        refine W.seq ?_
        refine W.region ?_
        refine WL.vS hS hE (runs_plain rfl) (Gives.p hE rfl) rfl ?_; clear hE a; intro a hE
        refine WL.nil ?_
        refine W.seq ?_
        refine W.condF hE rfl (decide_eq_false (by omega)) ?_
        subst hK114
        refine W.exit rfl ?_
        exact ⟨q107, ds111, Option.some.inj hq95, h112, hn113, hE.pick _ trivial, hS⟩
      · have hlt101 : k97 < q63.length := by omega
        rw [Fishref2Stands.loop2] at hq95
        refine W.seq ?_
        refine W.region ?_
        refine WL.vS hS hE (runs_plain rfl) (Gives.p hE rfl) rfl ?_; clear hE a; intro a hE
        refine WL.nil ?_
        refine W.seq ?_
        refine W.condT hE rfl (decide_eq_true (by omega)) ?_
        refine W.skip ?_
        refine W.seq ?_
        refine W.block ?_
        refine W.seq ?_
        refine W.region ?_
        obtain ⟨x115, hx116, hq95⟩ := bindS hq95
        obtain ⟨hi117, hlt118, hy119⟩ := gx_some hx116
        obtain ⟨vs120, hl121, hR122, hd123, hget124⟩ := h85.at hy119
        subst hR122
        refine WL.vS hS hE (runs_plain rfl) (Gives.idx hE ((((k97 : Nat) : Int)).toNat) rfl rfl sl152 hi117 (by have := hn88; omega) (hS.vecAok 1 rfl (by have := hn88; omega : (((k97 : Nat) : Int)).toNat < q63.length))) rfl ?_; clear hE a; intro a hE
        refine WL.vS hS hE (runs_plain rfl) (Gives.loadA hE rfl (fun w h => St.vecSees h 1 rfl ((((k97 : Nat) : Int)).toNat * 3) _ hget124) ty154) rfl ?_; clear hE a; intro a hE
        refine WL.alloc hE hS (runs_plain rfl) zr154 rfl ?_; clear hE hS a w; intro b125 a w hE hS
        refine WL.storeI hE hS 0 rfl (Fishref2Event.cells x115) (runs_plain rfl) rfl rfl rfl ty154 rfl rfl rfl rfl ?_; clear hE hS a w; intro a w hE hS
        refine WL.nil ?_
        refine W.seq ?_
        refine W.region ?_
        refine WL.vS hS hE (runs_plain rfl) (Gives.p hE rfl) rfl ?_; clear hE a; intro a hE
        refine WL.vS hS hE (runs_plain rfl) (Gives.fld hE rfl fl154_1) rfl ?_; clear hE a; intro a hE
        refine WL.vS hS hE (runs_plain rfl) (Gives.loadB hE 0 rfl rfl rfl ty3) rfl ?_; clear hE a; intro a hE
        obtain ⟨x126, hx127, hq95⟩ := bindS hq95
        obtain ⟨hi128, hlt129, hy130⟩ := gx_some hx127
        obtain ⟨cs131, hl132, hR133, hat134⟩ := h2.at hy130
        subst hR133
        refine WL.vS hS hE (runs_plain rfl) (Gives.idx hE (x115.set_).toNat rfl rfl sl44 hi128 hlt129 (h2.aok hlt129)) rfl ?_; clear hE a; intro a hE
        refine WL.vS hS hE (runs_plain rfl) (Gives.load1 hE rfl (fun w h => hat134 w _ h) ty3) rfl ?_; clear hE a; intro a hE
        refine WL.vS hS hE (runs_plain rfl) (Gives.p hE rfl) rfl ?_; clear hE a; intro a hE
        refine WL.nil ?_
        refine W.seq ?_
        refine W.seq ?_
        obtain ⟨q136, hq135, hq95⟩ := bndS hq95
        refine W.cut (fun a w => ∃ (q139 : Bool), q139 = q136 ∧ Rep a 111 [(0, .slice a0 x0.length c0), (2, .slice a2 x2.length c2), (10, .slice (some ⟨b91, 0, none⟩) x89.length x89.length), (12, .pointer (some ⟨b125, 0, none⟩)), (13, .int .i64 x126), (39, .slice a64 q63.length c65), (40, .int .i64 ((q63.length : Nat) : Int)), (41, .int .i64 ((k97 : Nat) : Int)), (57, .bool q139)] ∧ St w s (pt b125 (.cells (Fishref2Event.cells x115).toArray 154 (0, 0)) :: nestC 44 3 1 (some ⟨b91, 0, none⟩) x89.length x89.length ds111 :: vecC 154 3 a64 c65 q63.length cs84 :: R)) ?_ ?_
        · refine W.gen fun K140 hK140 => ?_
          refine W.region ?_
          refine WL.vS hS hE (runs_plain rfl) (Gives.p hE rfl) rfl ?_; clear hE a; intro a hE
          refine WL.vS hS hE (runs_plain rfl) (Gives.p hE rfl) rfl ?_; clear hE a; intro a hE
          refine WL.vS hS hE (runs_plain rfl) (Gives.p hE rfl) rfl ?_; clear hE a; intro a hE
          rcases Bool.eq_false_or_eq_true (decide (x126 < 0)) with hg141 | hg141
          · replace hq135 := iteT hg141 hq135
            refine WL.no hE (runs_not hE rfl rfl rfl (by rw [hg141]; decide)) rfl ?_; clear hE a; intro a hE
            refine WL.no hE (runs_not hE rfl rfl rfl (by rw [hg141]; decide)) rfl ?_; clear hE a; intro a hE
            refine WL.no hE (runs_not hE rfl rfl rfl (by rw [hg141]; decide)) rfl ?_; clear hE a; intro a hE
            refine WL.no hE (runs_not hE rfl rfl rfl (by rw [hg141]; decide)) rfl ?_; clear hE a; intro a hE
            refine WL.vS hS hE (runs_plain rfl) (Gives.pickT hE rfl hg141 rfl) rfl ?_; clear hE a; intro a hE
            refine WL.nil ?_
            subst hK140
            exact ⟨true, hq135, hE.pick _ ⟨rfl, rfl, rfl, rfl, rfl, rfl, rfl, rfl, rfl, trivial⟩, hS⟩
          · replace hq135 := iteF hg141 hq135
            refine WL.vS hS hE (runs_if hE rfl rfl rfl hg141) (Gives.p hE rfl) rfl ?_; clear hE a; intro a hE
            refine WL.vS hS hE (runs_if hE rfl rfl rfl hg141) (Gives.p hE rfl) rfl ?_; clear hE a; intro a hE
            refine WL.vS hS hE (runs_if hE rfl rfl rfl hg141) (Gives.len hE rfl sl44) rfl ?_; clear hE a; intro a hE
            refine WL.vS hS hE (runs_if hE rfl rfl rfl hg141) (Gives.p hE rfl) rfl ?_; clear hE a; intro a hE
            refine WL.vS hS hE (runs_plain rfl) (Gives.pickF hE rfl hg141 rfl) rfl ?_; clear hE a; intro a hE
            refine WL.nil ?_
            subst hK140
            exact ⟨decide (x126 ≥ ((x0).length : Int)), hq135, hE.pick _ ⟨rfl, rfl, rfl, rfl, rfl, rfl, rfl, rfl, rfl, trivial⟩, hS⟩
        · clear hE hS a w; rintro a w ⟨q139, rfl, hE, hS⟩
          refine W.cond hE rfl (fun hc142 => ?_) (fun hc142 => ?_)
          · replace hq95 := iteT hc142 hq95
            refine W.seq ?_
            refine W.region ?_
            refine WL.vS hS hE (runs_plain rfl) (Gives.p hE rfl) rfl ?_; clear hE a; intro a hE
            refine WL.nil ?_
            refine W.ret ?_
            subst hK114
            rw [← Option.some.inj hq95] at hr
            dsimp only at hr
            refine finG (fn := Try.f77) (rs := [.tmp 6]) (vs := [_]) hE rfl ⟨rfl, trivial⟩ ?_
            obtain rfl := Option.some.inj hr
            replace hS := hS.tail
            replace hS := hS.tail
            replace hS := hS.tail
            exact ⟨rfl, hS⟩
          · replace hq95 := iteF hc142 hq95
            refine W.skip ?_
            refine W.seq ?_
            refine W.seq ?_
            refine W.region ?_
            refine WL.vS hS hE (runs_plain rfl) (Gives.fld hE rfl fl154_2) rfl ?_; clear hE a; intro a hE
            refine WL.vS hS hE (runs_plain rfl) (Gives.loadB hE 0 rfl rfl rfl ty4) rfl ?_; clear hE a; intro a hE
            refine WL.nil ?_
            refine W.cond hE rfl (fun hc143 => ?_) (fun hc143 => ?_)
            · replace hq95 := iteT hc143 hq95
              refine W.seq ?_
              refine W.seq ?_
              refine W.gen fun K144 hK144 => ?_
              refine W.regionE (sel (fun w => St w s (pt b125 (.cells (Fishref2Event.cells x115).toArray 154 (0, 0)) :: nestC 44 3 1 (some ⟨b91, 0, none⟩) x89.length x89.length ds111 :: vecC 154 3 a64 c65 q63.length cs84 :: R)) (fun w => St w s (pt b125 (.cells (Fishref2Event.cells x115).toArray 154 (0, 0)) :: vecC 154 3 a64 c65 q63.length cs84 :: R))) (fun b i => cond b ([0, 1, 2, 3, 4, 5, 6, 7, 8, 10].contains i) ([0, 1, 2, 3, 4, 5, 6, 7, 8, 9, 10, 11].contains i)) mixed ?_
              replace hS := hS.drew
              refine Rg.takeP (i := 0) hE rfl (by kernel_rfl) (runs_plain rfl) (Gives.p hE rfl) rfl (tw_sel (fun _ => hS) (fun _ => (hS.dropAt 1))) ?_; clear hE a; intro a hE
              refine Rg.takeP (i := 1) hE rfl (by kernel_rfl) (runs_plain rfl) (Gives.p hE rfl) rfl (tw_sel (fun _ => hS) (fun _ => (hS.dropAt 1))) ?_; clear hE a; intro a hE
              refine Rg.takeP (i := 2) hE rfl (by kernel_rfl) (runs_plain rfl) (Gives.p hE rfl) rfl (tw_sel (fun _ => hS) (fun _ => (hS.dropAt 1))) ?_; clear hE a; intro a hE
              refine Rg.takeP (i := 3) hE rfl (by kernel_rfl) (runs_plain rfl) (Gives.p hE rfl) rfl (tw_sel (fun _ => hS) (fun _ => (hS.dropAt 1))) ?_; clear hE a; intro a hE
              obtain ⟨x145, hx146, hq95⟩ := bindS hq95
              obtain ⟨hi147, hlt148, hy149⟩ := gx_some hx146
              obtain ⟨a150, c151, cs152, hd153, hev154⟩ := h112.at hy149
              refine Rg.takeP (i := 4) hE rfl (by kernel_rfl) (runs_plain rfl) (Gives.idx hE ((x126).toNat) rfl rfl sl25 hi147 (by have := hn113; omega) (hS.nAok 1 rfl (by have := hn113; omega : (x126).toNat < x89.length))) rfl (tw_sel (fun _ => hS) (fun _ => (hS.dropAt 1))) ?_; clear hE a; intro a hE
              have hT := tw_sel (A := fun w => St w s (pt b125 (.cells (Fishref2Event.cells x115).toArray 154 (0, 0)) :: nestC 44 3 1 (some ⟨b91, 0, none⟩) x89.length x89.length ds111 :: vecC 154 3 a64 c65 q63.length cs84 :: R)) (B := fun w => St w s (pt b125 (.cells (Fishref2Event.cells x115).toArray 154 (0, 0)) :: vecC 154 3 a64 c65 q63.length cs84 :: R)) (w := _) (x := true) (y := true) (fun _ => hS) (fun _ => (hS.dropAt 1))
              have hF := hS; replace hS := hS
              refine Rg.take (i := 5) true rfl hE rfl (by kernel_rfl) (runs_plain rfl) (Gives.load1 (v := .slice a150 x145.length c151) hE rfl (fun w h => St.nSees h 1 rfl hd153) ty44) rfl hT ?_; clear hE a; intro a hE
              replace hS := hF; clear hF hT
              refine Rg.takeP (i := 6) hE rfl (by kernel_rfl) (runs_plain rfl) (Gives.fld hE rfl fl154_1) rfl (tw_sel (fun _ => hS) (fun _ => (hS.dropAt 1))) ?_; clear hE a; intro a hE
              have hT := tw_sel (A := fun w => St w s (pt b125 (.cells (Fishref2Event.cells x115).toArray 154 (0, 0)) :: nestC 44 3 1 (some ⟨b91, 0, none⟩) x89.length x89.length ds111 :: vecC 154 3 a64 c65 q63.length cs84 :: R)) (B := fun w => St w s (pt b125 (.cells (Fishref2Event.cells x115).toArray 154 (0, 0)) :: vecC 154 3 a64 c65 q63.length cs84 :: R)) (w := _) (x := true) (y := true) (fun _ => hS) (fun _ => (hS.dropAt 1))
              have hF := hS; replace hS := (hS.dropAt 1)
              refine Rg.take (i := 7) false rfl hE rfl (by kernel_rfl) (runs_plain rfl) (Gives.loadB hE 0 rfl rfl rfl ty3) rfl hT ?_; clear hE a; intro a hE
              replace hS := hF; clear hF hT
              refine Rg.one (i := 8) true true rfl (by kernel_rfl) (by kernel_rfl) (by kernel_rfl) ?_
              refine WL.lit hE hS (e := 3) (es := 1) (vs := [(0, .int .i64 x115.set_)]) (cs := [.int .i64 x115.set_]) (runs_plain rfl) rfl (by kernel_rfl) rfl ?_; clear hE hS a w; intro b155 a w hE hS
              refine WL.nil ?_
              refine ⟨⟨fun _ => (hS.tail), fun _ => ((hS.tail).dropAt 1)⟩, ?_⟩
              refine Rg.one (i := 9) false true rfl (by kernel_rfl) (by kernel_rfl) (by kernel_rfl) ?_
              replace hS := hS.borrowM 2 rfl hd153
              replace hS := hS.front 1 rfl
              obtain ⟨x157, hx158, hq95⟩ := bindS hq95
              refine WL.appD hE hS 0 (m := 1) (runs_plain rfl) rfl rfl rfl ap44 rfl hev154 (rfl) (xs := [x115.set_]) (Ev.cons (c1 := [.int .i64 x115.set_]) rfl rfl (Ev.nil)) rfl rfl hx158 rfl ?_; clear hE hS a w; intro a159 c160 cs161 a w h162 hE hS
              refine WL.nil ?_
              refine ⟨⟨fun h => absurd h (by decide), fun _ => ((hS.tail).dropAt 1)⟩, ?_⟩
              obtain ⟨_, hx163, hq95⟩ := bindS hq95
              obtain ⟨h164, h165⟩ := ix_some hx163
              refine Rg.takeP (i := 10) hE rfl (by kernel_rfl) (runs_plain rfl) (Gives.idx hE ((x126).toNat) rfl rfl sl25 h164 (by have := hn113; omega) (hS.hAok 2 rfl (by have := hn113; omega : (x126).toNat < x89.length))) rfl (tw_sel (fun h => absurd h (by decide)) (fun _ => ((hS.tail).dropAt 1))) ?_; clear hE a; intro a hE
              refine Rg.one (i := 11) false true rfl (by kernel_rfl) (by kernel_rfl) (by kernel_rfl) ?_
              obtain ⟨x166, hx167, hq95⟩ := bindS hq95
              refine WL.storeND hE hS 1 rfl (runs_plain rfl) rfl rfl ty44 h112 hn113 (by have := (sx_some hx167).1; omega) hx167 h162 (rfl) rfl ?_; clear hE hS a w; intro ds168 a w h169 hn170 hE hS
              refine WL.nil ?_
              refine ⟨⟨fun h => absurd h (by decide), fun _ => (hS.dropAt 1)⟩, ?_⟩
              refine Rg.done (by kernel_rfl) ?_
              subst hK144
              refine W.seq ?_
              refine W.regionQ (C := fun w => St w s (pt b125 (.cells (Fishref2Event.cells x115).toArray 154 (0, 0)) :: nestC 44 3 1 (some ⟨b91, 0, none⟩) x89.length x89.length ds168 :: vecC 154 3 a64 c65 q63.length cs84 :: R)) mixed (by kernel_rfl) hS.drew ?_
              refine QL.v hE (runs_plain rfl) (Gives.p hE rfl) rfl ?_; clear hE a; intro a hE
              refine QL.v hE (runs_plain rfl) (Gives.p hE rfl) rfl ?_; clear hE a; intro a hE
              obtain ⟨x171, hx172, hq95⟩ := bindS hq95
              obtain ⟨hi173, hlt174, hy175⟩ := gx_some hx172
              obtain ⟨a176, c177, cs178, hd179, hev180⟩ := h169.at hy175
              refine QL.v hE (runs_plain rfl) (Gives.idx hE ((x126).toNat) rfl rfl sl25 hi173 (by have := hn170; omega) (hS.nAok 1 rfl (by have := hn170; omega : (x126).toNat < x89.length))) rfl ?_; clear hE a; intro a hE
              refine QL.v hE (runs_plain rfl) (Gives.load1 (v := .slice a176 x171.length c177) hE rfl (fun w h => St.nSees h 1 rfl hd179) ty44) rfl ?_; clear hE a; intro a hE
              refine QL.v hE (runs_plain rfl) (Gives.len hE rfl sl44) rfl ?_; clear hE a; intro a hE
              refine QL.v hE (runs_plain rfl) (Gives.p hE rfl) rfl ?_; clear hE a; intro a hE
              refine QL.v hE (runs_plain rfl) (Gives.p hE rfl) rfl ?_; clear hE a; intro a hE
              obtain ⟨x181, hx182, hq95⟩ := bindS hq95
              obtain ⟨hi183, hlt184, hy185⟩ := gx_some hx182
              obtain ⟨cs186, hl187, hR188, hat189⟩ := h0.at hy185
              subst hR188
              refine QL.v hE (runs_plain rfl) (Gives.idx hE (x126).toNat rfl rfl sl44 hi183 hlt184 (h0.aok hlt184)) rfl ?_; clear hE a; intro a hE
              refine QL.v hE (runs_plain rfl) (Gives.load1 hE rfl (fun w h => hat189 w _ h) ty3) rfl ?_; clear hE a; intro a hE
              refine QL.v hE (runs_plain rfl) (Gives.p hE rfl) rfl ?_; clear hE a; intro a hE
              refine QL.nil ?_; clear hS w; intro w hS
              refine W.cond hE rfl (fun hc190 => ?_) (fun hc190 => ?_)
              · replace hq95 := iteT hc190 hq95
                refine W.seq ?_
                refine W.region ?_
                refine WL.vS hS hE (runs_plain rfl) (Gives.p hE rfl) rfl ?_; clear hE a; intro a hE
                refine WL.nil ?_
                refine W.ret ?_
                subst hK114
                rw [← Option.some.inj hq95] at hr
                dsimp only at hr
                refine finG (fn := Try.f77) (rs := [.tmp 6]) (vs := [_]) hE rfl ⟨rfl, trivial⟩ ?_
                obtain rfl := Option.some.inj hr
                replace hS := hS.tail
                replace hS := hS.tail
                replace hS := hS.tail
                exact ⟨rfl, hS⟩
              · replace hq95 := iteF hc190 hq95
                refine W.skip ?_
                refine W.exit rfl ?_
                refine W.region ?_
                refine WL.vS hS hE (runs_plain rfl) (Gives.inc hE rfl (by omega)) rfl ?_; clear hE a; intro a hE
                refine WL.vS hS hE (runs_plain rfl) (Gives.p hE rfl) rfl ?_; clear hE a; intro a hE
                refine WL.nil ?_
                replace hS := hS.tail
                subst hK114
                exact ⟨rest99, Nat.lt_succ_self _, rest99, k97 + 1, x166, ds168, rfl, (by omega), hq95, h169, hn170, hE.pick _ ⟨rfl, rfl, rfl, rfl, rfl, rfl, trivial⟩, hS⟩
            · replace hq95 := iteF hc143 hq95
              refine W.skip ?_
              refine W.seq ?_
              refine W.region ?_
              refine WL.vS hS hE (runs_plain rfl) (Gives.p hE rfl) rfl ?_; clear hE a; intro a hE
              refine WL.vS hS hE (runs_plain rfl) (Gives.p hE rfl) rfl ?_; clear hE a; intro a hE
              obtain ⟨x191, hx192, hq95⟩ := bindS hq95
              obtain ⟨hi193, hlt194, hy195⟩ := gx_some hx192
              obtain ⟨a196, c197, cs198, hd199, hev200⟩ := h112.at hy195
              refine WL.vS hS hE (runs_plain rfl) (Gives.idx hE ((x126).toNat) rfl rfl sl25 hi193 (by have := hn113; omega) (hS.nAok 1 rfl (by have := hn113; omega : (x126).toNat < x89.length))) rfl ?_; clear hE a; intro a hE
              refine WL.vS hS hE (runs_plain rfl) (Gives.load1 (v := .slice a196 x191.length c197) hE rfl (fun w h => St.nSees h 1 rfl hd199) ty44) rfl ?_; clear hE a; intro a hE
              refine WL.vS hS hE (runs_plain rfl) (Gives.len hE rfl sl44) rfl ?_; clear hE a; intro a hE
              refine WL.vS hS hE (runs_plain rfl) (Gives.p hE rfl) rfl ?_; clear hE a; intro a hE
              refine WL.vS hS hE (runs_plain rfl) (Gives.p hE rfl) rfl ?_; clear hE a; intro a hE
              refine WL.nil ?_
              refine W.seq ?_
              refine W.seq ?_
              obtain ⟨q202, hq201, hq95⟩ := bindS hq95
              refine W.cut (fun a w => ∃ (q205 : Bool), q205 = q202 ∧ Rep a 111 [(0, .slice a0 x0.length c0), (2, .slice a2 x2.length c2), (10, .slice (some ⟨b91, 0, none⟩) x89.length x89.length), (13, .int .i64 x126), (14, .int .i64 (w64 (((x191).length : Int) - 1))), (39, .slice a64 q63.length c65), (40, .int .i64 ((q63.length : Nat) : Int)), (41, .int .i64 ((k97 : Nat) : Int)), (100, .bool q205)] ∧ St w s (pt b125 (.cells (Fishref2Event.cells x115).toArray 154 (0, 0)) :: nestC 44 3 1 (some ⟨b91, 0, none⟩) x89.length x89.length ds111 :: vecC 154 3 a64 c65 q63.length cs84 :: R)) ?_ ?_
              · refine W.gen fun K206 hK206 => ?_
                refine W.regionQ (C := fun w => St w s (pt b125 (.cells (Fishref2Event.cells x115).toArray 154 (0, 0)) :: nestC 44 3 1 (some ⟨b91, 0, none⟩) x89.length x89.length ds111 :: vecC 154 3 a64 c65 q63.length cs84 :: R)) mixed (by kernel_rfl) hS.drew ?_
                refine QL.v hE (runs_plain rfl) (Gives.p hE rfl) rfl ?_; clear hE a; intro a hE
                refine QL.v hE (runs_plain rfl) (Gives.p hE rfl) rfl ?_; clear hE a; intro a hE
                refine QL.v hE (runs_plain rfl) (Gives.p hE rfl) rfl ?_; clear hE a; intro a hE
                rcases Bool.eq_false_or_eq_true (decide ((w64 (((x191).length : Int) - 1)) < 0)) with hg207 | hg207
                · replace hq201 := iteT hg207 hq201
                  refine QL.no hE (runs_not hE rfl rfl rfl (by rw [hg207]; decide)) rfl ?_; clear hE a; intro a hE
                  refine QL.no hE (runs_not hE rfl rfl rfl (by rw [hg207]; decide)) rfl ?_; clear hE a; intro a hE
                  refine QL.no hE (runs_not hE rfl rfl rfl (by rw [hg207]; decide)) rfl ?_; clear hE a; intro a hE
                  refine QL.no hE (runs_not hE rfl rfl rfl (by rw [hg207]; decide)) rfl ?_; clear hE a; intro a hE
                  refine QL.no hE (runs_not hE rfl rfl rfl (by rw [hg207]; decide)) rfl ?_; clear hE a; intro a hE
                  refine QL.no hE (runs_not hE rfl rfl rfl (by rw [hg207]; decide)) rfl ?_; clear hE a; intro a hE
                  refine QL.no hE (runs_not hE rfl rfl rfl (by rw [hg207]; decide)) rfl ?_; clear hE a; intro a hE
                  refine QL.no hE (runs_not hE rfl rfl rfl (by rw [hg207]; decide)) rfl ?_; clear hE a; intro a hE
                  refine QL.no hE (runs_not hE rfl rfl rfl (by rw [hg207]; decide)) rfl ?_; clear hE a; intro a hE
                  refine QL.no hE (runs_not hE rfl rfl rfl (by rw [hg207]; decide)) rfl ?_; clear hE a; intro a hE
                  refine QL.v hE (runs_plain rfl) (Gives.pickT hE rfl hg207 rfl) rfl ?_; clear hE a; intro a hE
                  refine QL.nil ?_; clear hS w; intro w hS
                  subst hK206
                  exact ⟨true, Option.some.inj hq201, hE.pick _ ⟨rfl, rfl, rfl, rfl, rfl, rfl, rfl, rfl, rfl, trivial⟩, hS⟩
                · replace hq201 := iteF hg207 hq201
                  refine QL.v hE (runs_if hE rfl rfl rfl hg207) (Gives.p hE rfl) rfl ?_; clear hE a; intro a hE
                  refine QL.v hE (runs_if hE rfl rfl rfl hg207) (Gives.p hE rfl) rfl ?_; clear hE a; intro a hE
                  obtain ⟨x208, hx209, hq201⟩ := bindS hq201
                  obtain ⟨hi210, hlt211, hy212⟩ := gx_some hx209
                  obtain ⟨a213, c214, cs215, hd216, hev217⟩ := h112.at hy212
                  refine QL.v hE (runs_if hE rfl rfl rfl hg207) (Gives.idx hE ((x126).toNat) rfl rfl sl25 hi210 (by have := hn113; omega) (hS.nAok 1 rfl (by have := hn113; omega : (x126).toNat < x89.length))) rfl ?_; clear hE a; intro a hE
                  refine QL.v hE (runs_if hE rfl rfl rfl hg207) (Gives.load1 (v := .slice a213 x208.length c214) hE rfl (fun w h => St.nSees h 1 rfl hd216) ty44) rfl ?_; clear hE a; intro a hE
                  refine QL.v hE (runs_if hE rfl rfl rfl hg207) (Gives.p hE rfl) rfl ?_; clear hE a; intro a hE
                  obtain ⟨x218, hx219, hq201⟩ := bindS hq201
                  obtain ⟨hi220, hlt221, hy222⟩ := gx_some hx219
                  obtain ⟨vs223, hl224, hR225, hd226, hget227⟩ := hev217.at hy222
                  subst hR225
                  refine QL.v hE (runs_if hE rfl rfl rfl hg207) (Gives.idx hE ((w64 (((x191).length : Int) - 1)).toNat) rfl rfl sl44 hi220 hlt221 (hS.nnAok 1 rfl hd216 hlt221)) rfl ?_; clear hE a; intro a hE
                  refine QL.v hE (runs_if hE rfl rfl rfl hg207) (Gives.load1 hE rfl (fun w h => St.nnSees h 1 rfl hd216 ((w64 (((x191).length : Int) - 1)).toNat * 1) _ hget227) ty3) rfl ?_; clear hE a; intro a hE
                  refine QL.v hE (runs_if hE rfl rfl rfl hg207) (Gives.fld hE rfl fl154_1) rfl ?_; clear hE a; intro a hE
                  refine QL.v hE (runs_if hE rfl rfl rfl hg207) (Gives.loadB hE 0 rfl rfl rfl ty3) rfl ?_; clear hE a; intro a hE
                  refine QL.v hE (runs_if hE rfl rfl rfl hg207) (Gives.p hE rfl) rfl ?_; clear hE a; intro a hE
                  refine QL.v hE (runs_plain rfl) (Gives.pickF hE rfl hg207 rfl) rfl ?_; clear hE a; intro a hE
                  refine QL.nil ?_; clear hS w; intro w hS
                  subst hK206
                  exact ⟨(x218 != x115.set_), Option.some.inj hq201, hE.pick _ ⟨rfl, rfl, rfl, rfl, rfl, rfl, rfl, rfl, rfl, trivial⟩, hS⟩
              · clear hE hS a w; rintro a w ⟨q205, rfl, hE, hS⟩
                refine W.cond hE rfl (fun hc228 => ?_) (fun hc228 => ?_)
                · replace hq95 := iteT hc228 hq95
                  refine W.seq ?_
                  refine W.region ?_
                  refine WL.vS hS hE (runs_plain rfl) (Gives.p hE rfl) rfl ?_; clear hE a; intro a hE
                  refine WL.nil ?_
                  refine W.ret ?_
                  subst hK114
                  rw [← Option.some.inj hq95] at hr
                  dsimp only at hr
                  refine finG (fn := Try.f77) (rs := [.tmp 6]) (vs := [_]) hE rfl ⟨rfl, trivial⟩ ?_
                  obtain rfl := Option.some.inj hr
                  replace hS := hS.tail
                  replace hS := hS.tail
                  replace hS := hS.tail
                  exact ⟨rfl, hS⟩
                · replace hq95 := iteF hc228 hq95
                  refine W.skip ?_
                  refine W.region ?_
                  refine WL.vS hS hE (runs_plain rfl) (Gives.p hE rfl) rfl ?_; clear hE a; intro a hE
                  refine WL.vS hS hE (runs_plain rfl) (Gives.p hE rfl) rfl ?_; clear hE a; intro a hE
                  refine WL.vS hS hE (runs_plain rfl) (Gives.p hE rfl) rfl ?_; clear hE a; intro a hE
                  refine WL.vS hS hE (runs_plain rfl) (Gives.p hE rfl) rfl ?_; clear hE a; intro a hE
                  obtain ⟨x229, hx230, hq95⟩ := bindS hq95
                  obtain ⟨hi231, hlt232, hy233⟩ := gx_some hx230
                  obtain ⟨a234, c235, cs236, hd237, hev238⟩ := h112.at hy233
                  refine WL.vS hS hE (runs_plain rfl) (Gives.idx hE ((x126).toNat) rfl rfl sl25 hi231 (by have := hn113; omega) (hS.nAok 1 rfl (by have := hn113; omega : (x126).toNat < x89.length))) rfl ?_; clear hE a; intro a hE
                  refine WL.vS hS hE (runs_plain rfl) (Gives.load1 (v := .slice a234 x229.length c235) hE rfl (fun w h => St.nSees h 1 rfl hd237) ty44) rfl ?_; clear hE a; intro a hE
                  refine WL.vS hS hE (runs_plain rfl) (Gives.p hE rfl) rfl ?_; clear hE a; intro a hE
                  replace hS := hS.borrowM 1 rfl hd237
                  obtain ⟨x240, hx241, hq95⟩ := bindS hq95
                  obtain ⟨_, h242, h243, h244, h245, _⟩ := cutl_some hx241
                  have h246 := (hS.vecCap 0 rfl).1
                  have h247 : Ev 1 (RI .i64) s (cs236.take ((w64 (((x191).length : Int) - 1)).toNat * 1)) x240 := by rw [h244]; exact hev238.take _
                  have hn248 : x240.length = (w64 (((x191).length : Int) - 1)).toNat := by rw [h244]; simp; omega
                  replace hS := hS.vecTake 0 rfl (by omega)
                  refine WL.vS hS hE (runs_plain rfl) (Gives.slH hE sl44 rfl rfl h242 (Int.le_trans h243 (by omega)) (sliced_zero _ _ _ _)) rfl ?_; clear hE a; intro a hE
                  obtain ⟨_, hx249, hq95⟩ := bindS hq95
                  obtain ⟨h250, h251⟩ := ix_some hx249
                  refine WL.vS hS hE (runs_plain rfl) (Gives.idx hE ((x126).toNat) rfl rfl sl25 h250 (by have := hn113; omega) (hS.hAok 2 rfl (by have := hn113; omega : (x126).toNat < x89.length))) rfl ?_; clear hE a; intro a hE
                  obtain ⟨x252, hx253, hq95⟩ := bindS hq95
                  refine WL.storeND hE hS 1 rfl (runs_plain rfl) rfl rfl ty44 h112 hn113 (by have := (sx_some hx253).1; omega) hx253 h247 hn248 rfl ?_; clear hE hS a w; intro ds254 a w h255 hn256 hE hS
                  refine WL.nil ?_
                  refine W.region ?_
                  refine WL.vS hS hE (runs_plain rfl) (Gives.inc hE rfl (by omega)) rfl ?_; clear hE a; intro a hE
                  refine WL.vS hS hE (runs_plain rfl) (Gives.p hE rfl) rfl ?_; clear hE a; intro a hE
                  refine WL.nil ?_
                  replace hS := hS.tail
                  subst hK114
                  exact ⟨rest99, Nat.lt_succ_self _, rest99, k97 + 1, x252, ds254, rfl, (by omega), hq95, h255, hn256, hE.pick _ ⟨rfl, rfl, rfl, rfl, rfl, rfl, trivial⟩, hS⟩
    · clear hE hS a w; rintro a w ⟨q107, ds111, rfl, h112, hn113, hE, hS⟩
      dsimp only at hr
      refine W.seq ?_
      refine W.region ?_
      refine WL.vS hS hE (runs_plain rfl) (Gives.p hE rfl) rfl ?_; clear hE a; intro a hE
      refine WL.nil ?_
      refine W.ret ?_
      refine finG (fn := Try.f77) (rs := [.tmp 6]) (vs := [_]) hE rfl ⟨rfl, trivial⟩ ?_
      obtain rfl := Option.some.inj hr
      replace hS := hS.tail
      replace hS := hS.tail
      exact ⟨rfl, hS⟩
set_option maxHeartbeats 8000000 in
theorem SlicesCloneLint_ok  {w : World} {s : Sg} {R : List HP} {x0 : List Int} {a0 : Option Addr} {c0 : Nat} (hS : St w s (R)) (h0 : Sl 1 (RI .i64) s a0 c0 x0) {r : (List Int)} (hr : SlicesCloneLint x0 = some r) :
    Calls Try.prog 41 [.slice a0 x0.length c0].toArray w (fun e w => ∃ (a0 : Option Addr) (c0 n0 : Nat) (cs0 : List Value), e = .returned (.slice a0 n0 c0) ∧ Ev 1 (RI .i64) s cs0 r ∧ r.length = n0 ∧ St w s (vecC 3 1 a0 c0 n0 cs0 :: R)) := by
  refine enter Try.func41 rfl rfl rfl fun a hE => ?_
  rw [SlicesCloneLint] at hr
  refine W.seq ?_
  refine W.region ?_
  refine WL.vS hS hE (runs_plain rfl) (Gives.p hE rfl) rfl ?_; clear hE a; intro a hE
  refine WL.nil ?_
  refine W.seq ?_
  refine W.seq ?_
  refine W.region ?_
  refine WL.vS hS hE (runs_plain rfl) (Gives.p hE rfl) rfl ?_; clear hE a; intro a hE
  refine WL.vS hS hE (runs_plain rfl) (Gives.isNil hE rfl rfl isl44) rfl ?_; clear hE a; intro a hE
  refine WL.nil ?_
  rcases a0 with _ | g51
  · obtain rfl := h0.none_nil
    replace hr : some [] = _ := hr
    refine W.condT hE rfl rfl ?_
    refine W.seq ?_
    refine W.region ?_
    refine WL.vS hS hE (runs_plain rfl) (Gives.p hE rfl) rfl ?_; clear hE a; intro a hE
    refine WL.nil ?_
    refine W.ret ?_
    replace hS := hS.vecNil 3 1
    refine finG (fn := Try.f41) (rs := [.tmp 2]) (vs := [_]) hE rfl ⟨rfl, trivial⟩ ?_
    obtain rfl := Option.some.inj hr
    exact ⟨none, 0, 0, [], rfl, (Ev.nil), (rfl), hS⟩
  · skip
    refine W.condF hE rfl rfl ?_
    refine W.skip ?_
    refine W.seq ?_
    refine W.region ?_
    refine WL.lit hE hS (e := 3) (es := 1) (vs := []) (cs := []) (runs_plain rfl) rfl (by kernel_rfl) rfl ?_; clear hE hS a w; intro b53 a w hE hS
    replace hS := hS.ptVec (es := 1) (m := 0) rfl (by decide)
    have h55 : Ev 1 (RI .i64) s [] [] := (Ev.nil)
    refine WL.vS hS hE (runs_plain rfl) (Gives.p hE rfl) rfl ?_; clear hE a; intro a hE
    obtain ⟨x56, hx57, hr⟩ := bindS hr
    refine WL.appS hE hS 0 (runs_plain rfl) rfl rfl (xs := x0) rfl rfl ap44 RI.one h55 (rfl) h0 hx57 rfl ?_; clear hE hS a w; intro a58 c59 cs60 a w h61 hE hS
    refine WL.vS hS hE (runs_plain rfl) (Gives.p hE rfl) rfl ?_; clear hE a; intro a hE
    refine WL.nil ?_
    refine W.ret ?_
    refine finG (fn := Try.f41) (rs := [.tmp 2]) (vs := [_]) hE rfl ⟨rfl, trivial⟩ ?_
    obtain rfl := Option.some.inj hr
    exact ⟨a58, c59, x56.length, cs60, rfl, h61, (rfl), hS⟩
set_option maxHeartbeats 8000000 in
theorem Fishref2StoreOf_1_v1_ok  {w : World} {s : Sg} {R : List HP} {pb0 : Nat} {pb1 : Nat} {pb2 : Nat} {x0 : List Int} {a0 : Option Addr} {c0 : Nat} {y0 : List Int} {a_y0_0 : Option Addr} {c_y0_0 : Nat} {y1 : List FleetStay} {a_y1_0 : Option Addr} {c_y1_0 : Nat} {y2 : List Int} {a_y2_0 : Option Addr} {c_y2_0 : Nat} (hS : St w s (pt pb0 (.cells #[.slice a_y0_0 y0.length c_y0_0] 44 (0, 0)) :: pt pb1 (.cells #[.slice a_y1_0 y1.length c_y1_0] 53 (0, 0)) :: pt pb2 (.cells #[.slice a_y2_0 y2.length c_y2_0] 44 (0, 0)) :: R)) (h0 : Sl 1 (RI .i64) s a0 c0 x0) (h_y0_0 : Sl 1 (RI .i64) s a_y0_0 c_y0_0 y0) (h_y1_0 : Sl 2 RFleetStay s a_y1_0 c_y1_0 y1) (h_y2_0 : Sl 1 (RI .i64) s a_y2_0 c_y2_0 y2) {r : Bool × (List Int)} (hr : Fishref2StoreOf_1_v1 x0 y0 y1 y2 = some r) :
    Calls Try.prog 76 [.slice a0 x0.length c0, .pointer (some ⟨pb0, 0, none⟩), .pointer (some ⟨pb1, 0, none⟩), .pointer (some ⟨pb2, 0, none⟩)].toArray w (fun e w => ∃ (a56 : Option Addr) (c57 : Nat) (t : Sg), e = .returned (.bool r.1) ∧ s.Le t ∧ Sl 1 (RI .i64) t a56 c57 r.2 ∧ St w t (pt pb0 (.cells #[.slice a_y0_0 y0.length c_y0_0] 44 (0, 0)) :: pt pb1 (.cells #[.slice a_y1_0 y1.length c_y1_0] 53 (0, 0)) :: pt pb2 (.cells #[.slice a56 r.2.length c57] 44 (0, 0)) :: R)) := by
  refine enter Try.func76 rfl rfl rfl fun a hE => ?_
  rw [Fishref2StoreOf_1_v1] at hr
  refine W.seq ?_
  refine W.region ?_
  refine WL.vS hS hE (runs_plain rfl) (Gives.p hE rfl) rfl ?_; clear hE a; intro a hE
  refine WL.nil ?_
  refine W.seq ?_
  refine W.seq ?_
  refine W.region ?_
  refine WL.vS hS hE (runs_plain rfl) (Gives.loadB hE 0 rfl rfl rfl ty44) rfl ?_; clear hE a; intro a hE
  refine WL.vS hS hE (runs_plain rfl) (Gives.loadB hE 1 rfl rfl rfl ty53) rfl ?_; clear hE a; intro a hE
  refine WL.vS hS hE (runs_plain rfl) (Gives.p hE rfl) rfl ?_; clear hE a; intro a hE
  obtain ⟨q59, hq60, hr⟩ := bindS hr
  have hc_ := Fishref2Stands_ok hS h_y0_0 h_y1_0 h0 hq60
  refine WL.fnq hE (hc_) (runs_plain rfl) bd77 rfl rfl rfl ?_
  clear hE hS hc_; rintro e w ⟨rfl, hS⟩; refine ⟨_, rfl, ?_⟩; clear a; intro a hE
  refine WL.vS hS hE (runs_plain rfl) (Gives.p hE rfl) rfl ?_; clear hE a; intro a hE
  refine WL.nil ?_
  refine W.cond hE rfl (fun hc61 => ?_) (fun hc61 => ?_)
  · replace hr := iteT hc61 hr
    refine W.seq ?_
    refine W.region ?_
    refine WL.vS hS hE (runs_plain rfl) (Gives.p hE rfl) rfl ?_; clear hE a; intro a hE
    refine WL.nil ?_
    refine W.ret ?_
    refine finG (fn := Try.f76) (rs := [.tmp 5]) (vs := [_]) hE rfl ⟨rfl, trivial⟩ ?_
    obtain rfl := Option.some.inj hr
    exact ⟨a_y2_0, c_y2_0, s, rfl, (Sg.Le.refl _), h_y2_0, hS⟩
  · replace hr := iteF hc61 hr
    refine W.skip ?_
    refine W.seq ?_
    refine W.region ?_
    refine WL.vS hS hE (runs_plain rfl) (Gives.p hE rfl) rfl ?_; clear hE a; intro a hE
    obtain ⟨q62, hq63, hr⟩ := bindS hr
    have hc_ := SlicesCloneLint_ok hS h0 hq63
    refine WL.fnq hE (hc_) (runs_plain rfl) bd41 rfl rfl rfl ?_
    clear hE hS hc_; rintro e w ⟨a64, c65, n66, cs67, rfl, h68, rfl, hS⟩; refine ⟨_, rfl, ?_⟩; clear a; intro a hE
    refine WL.storeI hE hS 3 rfl [.slice a64 q62.length c65] (runs_plain rfl) rfl rfl rfl ty44 rfl rfl rfl rfl ?_; clear hE hS a w; intro a w hE hS
    refine WL.nil ?_
    refine W.seq ?_
    refine W.region ?_
    refine WL.vS hS hE (runs_plain rfl) (Gives.p hE rfl) rfl ?_; clear hE a; intro a hE
    refine WL.nil ?_
    refine W.ret ?_
    have hF := hS.fixD RI.mono 0 rfl h68 rfl; clear hS; obtain ⟨s70, hle71, hS, h72⟩ := hF
    replace h0 := Sl.mono RI.mono hle71 h0
    replace h_y0_0 := Sl.mono RI.mono hle71 h_y0_0
    replace h_y1_0 := Sl.mono RFleetStay.mono hle71 h_y1_0
    refine finG (fn := Try.f76) (rs := [.tmp 5]) (vs := [_]) hE rfl ⟨rfl, trivial⟩ ?_
    obtain rfl := Option.some.inj hr
    exact ⟨a64, c65, s70, rfl, hle71, h72, hS⟩
set_option maxHeartbeats 8000000 in
theorem Fishref2StoreOf_1_v2_ok  {w : World} {s : Sg} {R : List HP} {pb0 : Nat} {pb1 : Nat} {pb2 : Nat} {x0 : List Int} {a_v0 : Option Addr} {c_v0 n_v0 : Nat} {cs_v0 : List Value} {y0 : List Int} {a_y0_0 : Option Addr} {c_y0_0 : Nat} {y1 : List FleetStay} {a_y1_0 : Option Addr} {c_y1_0 : Nat} {y2 : List Int} {a_y2_0 : Option Addr} {c_y2_0 : Nat} (hS : St w s (pt pb0 (.cells #[.slice a_y0_0 y0.length c_y0_0] 44 (0, 0)) :: pt pb1 (.cells #[.slice a_y1_0 y1.length c_y1_0] 53 (0, 0)) :: pt pb2 (.cells #[.slice a_y2_0 y2.length c_y2_0] 44 (0, 0)) :: vecC 3 1 a_v0 c_v0 n_v0 cs_v0 :: R)) (h_v0 : Ev 1 (RI .i64) s cs_v0 x0) (hn_v0 : x0.length = n_v0) (h_y0_0 : Sl 1 (RI .i64) s a_y0_0 c_y0_0 y0) (h_y1_0 : Sl 2 RFleetStay s a_y1_0 c_y1_0 y1) (h_y2_0 : Sl 1 (RI .i64) s a_y2_0 c_y2_0 y2) {r : Bool × (List Int)} (hr : Fishref2StoreOf_1_v2 x0 y0 y1 y2 = some r) :
    Calls Try.prog 76 [.slice a_v0 n_v0 c_v0, .pointer (some ⟨pb0, 0, none⟩), .pointer (some ⟨pb1, 0, none⟩), .pointer (some ⟨pb2, 0, none⟩)].toArray w (fun e w => ∃ (a56 : Option Addr) (c57 : Nat) (t : Sg), e = .returned (.bool r.1) ∧ s.Le t ∧ Sl 1 (RI .i64) t a56 c57 r.2 ∧ St w t (pt pb0 (.cells #[.slice a_y0_0 y0.length c_y0_0] 44 (0, 0)) :: pt pb1 (.cells #[.slice a_y1_0 y1.length c_y1_0] 53 (0, 0)) :: pt pb2 (.cells #[.slice a56 r.2.length c57] 44 (0, 0)) :: vecC 3 1 a_v0 c_v0 n_v0 cs_v0 :: R)) := by
  refine enter Try.func76 rfl rfl rfl fun a hE => ?_
  rw [Fishref2StoreOf_1_v2] at hr
  subst hn_v0
  refine W.seq ?_
  refine W.region ?_
  refine WL.vS hS hE (runs_plain rfl) (Gives.p hE rfl) rfl ?_; clear hE a; intro a hE
  refine WL.nil ?_
  refine W.seq ?_
  refine W.seq ?_
  refine W.region ?_
  refine WL.vS hS hE (runs_plain rfl) (Gives.loadB hE 0 rfl rfl rfl ty44) rfl ?_; clear hE a; intro a hE
  refine WL.vS hS hE (runs_plain rfl) (Gives.loadB hE 1 rfl rfl rfl ty53) rfl ?_; clear hE a; intro a hE
  refine WL.vS hS hE (runs_plain rfl) (Gives.p hE rfl) rfl ?_; clear hE a; intro a hE
  obtain ⟨q59, hq60, hr⟩ := bindS hr
  have hF := hS.lendV RI.mono 3 rfl h_v0 (rfl); clear hS; obtain ⟨t61, hle62, hS, hs63, bk64⟩ := hF
  have hc_ := Fishref2Stands_ok hS (Sl.mono RI.mono hle62 h_y0_0) (Sl.mono RFleetStay.mono hle62 h_y1_0) hs63 hq60
  refine WL.fnq hE (hc_) (runs_plain rfl) bd77 rfl rfl rfl ?_
  clear hE hS hc_; rintro e w ⟨rfl, hS⟩; refine ⟨_, rfl, ?_⟩; clear a; intro a hE
  replace hS := bk64 _ _ hS
  refine WL.vS hS hE (runs_plain rfl) (Gives.p hE rfl) rfl ?_; clear hE a; intro a hE
  refine WL.nil ?_
  refine W.cond hE rfl (fun hc65 => ?_) (fun hc65 => ?_)
  · replace hr := iteT hc65 hr
    refine W.seq ?_
    refine W.region ?_
    refine WL.vS hS hE (runs_plain rfl) (Gives.p hE rfl) rfl ?_; clear hE a; intro a hE
    refine WL.nil ?_
    refine W.ret ?_
    refine finG (fn := Try.f76) (rs := [.tmp 5]) (vs := [_]) hE rfl ⟨rfl, trivial⟩ ?_
    obtain rfl := Option.some.inj hr
    replace hS := hS.front 3 rfl
    replace hS := hS.front 3 rfl
    replace hS := hS.front 3 rfl
    exact ⟨a_y2_0, c_y2_0, s, rfl, (Sg.Le.refl _), h_y2_0, hS⟩
  · replace hr := iteF hc65 hr
    refine W.skip ?_
    refine W.seq ?_
    refine W.region ?_
    refine WL.vS hS hE (runs_plain rfl) (Gives.p hE rfl) rfl ?_; clear hE a; intro a hE
    obtain ⟨q66, hq67, hr⟩ := bindS hr
    have hF := hS.lendV RI.mono 0 rfl h_v0 (rfl); clear hS; obtain ⟨t74, hle75, hS, hs76, bk77⟩ := hF
    have hc_ := SlicesCloneLint_ok hS hs76 hq67
    refine WL.fnq hE (hc_) (runs_plain rfl) bd41 rfl rfl rfl ?_
    clear hE hS hc_; rintro e w ⟨a68, c69, n70, cs71, rfl, h72, rfl, hS⟩; refine ⟨_, rfl, ?_⟩; clear a; intro a hE
    replace hS := bk77 _ _ hS
    replace h72 := Ev.flat (s2 := s) (fun _ _ _ _ h => h) h72
    refine WL.storeI hE hS 4 rfl [.slice a68 q66.length c69] (runs_plain rfl) rfl rfl rfl ty44 rfl rfl rfl rfl ?_; clear hE hS a w; intro a w hE hS
    refine WL.nil ?_
    refine W.seq ?_
    refine W.region ?_
    refine WL.vS hS hE (runs_plain rfl) (Gives.p hE rfl) rfl ?_; clear hE a; intro a hE
    refine WL.nil ?_
    refine W.ret ?_
    have hF := hS.fixD RI.mono 1 rfl h72 rfl; clear hS; obtain ⟨s78, hle79, hS, h80⟩ := hF
    replace h_y0_0 := Sl.mono RI.mono hle79 h_y0_0
    replace h_y1_0 := Sl.mono RFleetStay.mono hle79 h_y1_0
    replace h_v0 := Ev.mono RI.mono hle79 h_v0
    refine finG (fn := Try.f76) (rs := [.tmp 5]) (vs := [_]) hE rfl ⟨rfl, trivial⟩ ?_
    obtain rfl := Option.some.inj hr
    replace hS := hS.front 3 rfl
    replace hS := hS.front 3 rfl
    replace hS := hS.front 3 rfl
    exact ⟨a68, c69, s78, rfl, hle79, h80, hS⟩
set_option maxHeartbeats 8000000 in
theorem Fishref2counts_v1_ok {fu : Nat}  {w : World} {s : Sg} {R : List HP} {pb0 : Nat} {pb1 : Nat} {pb2 : Nat} {x0 : Int} {x1 : Int} {y0 : List Int} {a_y0_0 : Option Addr} {c_y0_0 : Nat} {y1 : List FleetStay} {a_y1_0 : Option Addr} {c_y1_0 : Nat} {y2 : List Int} {a_y2_0 : Option Addr} {c_y2_0 : Nat} (hS : St w s (pt pb0 (.cells #[.slice a_y0_0 y0.length c_y0_0] 44 (0, 0)) :: pt pb1 (.cells #[.slice a_y1_0 y1.length c_y1_0] 53 (0, 0)) :: pt pb2 (.cells #[.slice a_y2_0 y2.length c_y2_0] 44 (0, 0)) :: R)) (h_y0_0 : Sl 1 (RI .i64) s a_y0_0 c_y0_0 y0) (h_y1_0 : Sl 2 RFleetStay s a_y1_0 c_y1_0 y1) (h_y2_0 : Sl 1 (RI .i64) s a_y2_0 c_y2_0 y2) {r : Bool × (List Int)} (hr : Fishref2counts_v1 fu x0 x1 y0 y1 y2 = some r) :
    Calls Try.prog 46 [.int .i64 x0, .int .i64 x1, .func (.func 76) #[] #[.pointer (some ⟨pb0, 0, none⟩), .pointer (some ⟨pb1, 0, none⟩), .pointer (some ⟨pb2, 0, none⟩)]].toArray w (fun e w => ∃ (a56 : Option Addr) (c57 : Nat) (t : Sg), e = .returned (.bool r.1) ∧ s.Le t ∧ Sl 1 (RI .i64) t a56 c57 r.2 ∧ St w t (pt pb0 (.cells #[.slice a_y0_0 y0.length c_y0_0] 44 (0, 0)) :: pt pb1 (.cells #[.slice a_y1_0 y1.length c_y1_0] 53 (0, 0)) :: pt pb2 (.cells #[.slice a56 r.2.length c57] 44 (0, 0)) :: R)) := by
  refine enter Try.func46 rfl rfl rfl fun a hE => ?_
  rw [Fishref2counts_v1] at hr
  refine W.seq ?_
  refine W.region ?_
  refine WL.vS hS hE (runs_plain rfl) (Gives.p hE rfl) rfl ?_; clear hE a; intro a hE
  refine WL.nil ?_
  refine W.seq ?_
  refine W.region ?_
  refine WL.vS hS hE (runs_plain rfl) (Gives.p hE rfl) rfl ?_; clear hE a; intro a hE
  obtain ⟨x59, hx60, hr⟩ := bindS hr
  refine WL.mkD (Rr := RI .i64) hE hS (runs_plain rfl) rfl rfl ap44 zr3 rfl hx60 rfl ?_; clear hE hS a w; intro b61 cs62 a w h63 hE hS
  refine WL.vS hS hE (runs_plain rfl) (Gives.p hE rfl) rfl ?_; clear hE a; intro a hE
  refine WL.nil ?_
  obtain ⟨q66, hq65, hr⟩ := bindS hr
  refine W.cut (fun _ _ => False) ?_ ?_
  · refine W.block ?_
    refine W.loop (fun m a w => ∃ (n67 : Nat), ∃ (q71 : List Int), ∃ (q77 : List Int), ∃ (cs75 : List Value), ∃ (a78 : Option Addr), ∃ (c79 : Nat), ∃ (s69 : Sg), n67 = m ∧ s.Le s69 ∧ Fishref2counts_v1.loop1 x0 x1 y0 y1 fu n67 q71 q77 = some q66 ∧ Ev 1 (RI .i64) s69 cs75 q71 ∧ q71.length = x59.length ∧ Sl 1 (RI .i64) s69 a78 c79 q77 ∧ Rep a 40 [(0, .int .i64 x0), (1, .int .i64 x1), (2, .func (.func 76) #[] #[.pointer (some ⟨pb0, 0, none⟩), .pointer (some ⟨pb1, 0, none⟩), .pointer (some ⟨pb2, 0, none⟩)]), (7, .slice (some ⟨b61, 0, none⟩) x59.length x59.length)] ∧ St w s69 (vecC 3 1 (some ⟨b61, 0, none⟩) x59.length x59.length cs75 :: pt pb0 (.cells #[.slice a_y0_0 y0.length c_y0_0] 44 (0, 0)) :: pt pb1 (.cells #[.slice a_y1_0 y1.length c_y1_0] 53 (0, 0)) :: pt pb2 (.cells #[.slice a78 q77.length c79] 44 (0, 0)) :: R)) (m := fu) ⟨fu, x59, y2, cs62, a_y2_0, c_y2_0, s, rfl, (Sg.Le.refl _), hq65, h63, (rfl), h_y2_0, hE.pick _ ⟨rfl, rfl, rfl, rfl, trivial⟩, hS⟩ ?_
    clear hE hS a w hq65; rintro m68 a w ⟨n67, q71, q77, cs75, a78, c79, s69, rfl, hle70, hq65, h74, hn76, h80, hE, hS⟩
    refine W.gen fun K81 hK81 => ?_
    replace h63 := Ev.mono RI.mono hle70 h63
    replace h_y0_0 := Sl.mono RI.mono hle70 h_y0_0
    replace h_y1_0 := Sl.mono RFleetStay.mono hle70 h_y1_0
    replace h_y2_0 := Sl.mono RI.mono hle70 h_y2_0
    rcases n67 with _ | n67
    · rw [Fishref2counts_v1.loop1] at hq65; exact absurd hq65 (by simp)
    rw [Fishref2counts_v1.loop1] at hq65
    refine W.block ?_
    refine W.seq ?_
    refine W.seq ?_
    refine W.region ?_
    refine WL.vS hS hE (runs_plain rfl) (Gives.p hE rfl) rfl ?_; clear hE a; intro a hE
    refine WL.vS hS hE (runs_plain rfl) (Gives.p hE rfl) rfl ?_; clear hE a; intro a hE
    obtain ⟨q82, hq83, hq65⟩ := bindS hq65
    replace hS := hS.front 0 rfl
    replace hS := hS.front 3 rfl
    replace hS := hS.front 3 rfl
    replace hS := hS.front 3 rfl
    have hc_ := Fishref2StoreOf_1_v2_ok hS h74 hn76 h_y0_0 h_y1_0 h80 hq83
    refine WL.fnw hE (hc_) rfl (runs_plain rfl) bd76 rfl rfl rfl ?_
    clear hE hS hc_; rintro e w ⟨a84, c85, s87, rfl, hle88, h86, hS⟩; refine ⟨_, rfl, ?_⟩; clear a; intro a hE
    replace h_y0_0 := Sl.mono RI.mono hle88 h_y0_0
    replace h_y1_0 := Sl.mono RFleetStay.mono hle88 h_y1_0
    replace h80 := Sl.mono RI.mono hle88 h80
    replace h74 := Ev.mono RI.mono hle88 h74
    refine WL.nil ?_
    refine W.cond hE rfl (fun hc89 => ?_) (fun hc89 => ?_)
    · replace hq65 := iteT hc89 hq65
      refine W.seq ?_
      refine W.region ?_
      refine WL.vS hS hE (runs_plain rfl) (Gives.p hE rfl) rfl ?_; clear hE a; intro a hE
      refine WL.nil ?_
      refine W.ret ?_
      subst hK81
      rw [← Option.some.inj hq65] at hr
      dsimp only at hr
      refine finG (fn := Try.f46) (rs := [.tmp 6]) (vs := [_]) hE rfl ⟨rfl, trivial⟩ ?_
      obtain rfl := Option.some.inj hr
      replace hS := hS.dropAt 3
      exact ⟨a84, c85, s87, rfl, (Sg.Le.trans hle70 hle88), h86, hS⟩
    · replace hq65 := iteF hc89 hq65
      refine W.skip ?_
      refine W.seq ?_
      refine W.region ?_
      refine WL.vS hS hE (runs_plain rfl) (Gives.p hE rfl) rfl ?_; clear hE a; intro a hE
      refine WL.vS hS hE (runs_plain rfl) (Gives.p hE rfl) rfl ?_; clear hE a; intro a hE
      refine WL.vS hS hE (runs_plain rfl) (Gives.p hE rfl) rfl ?_; clear hE a; intro a hE
      refine WL.nil ?_
      refine W.seq ?_
      obtain ⟨q91, hq90, hq65⟩ := bindS hq65
      refine W.cut (fun a w => ∃ (q96 : Int), ∃ (q97 : List Int), ∃ (cs101 : List Value), (q96, q97) = q91 ∧ Ev 1 (RI .i64) s87 cs101 q97 ∧ q97.length = x59.length ∧ Rep a 40 [(0, .int .i64 x0), (1, .int .i64 x1), (2, .func (.func 76) #[] #[.pointer (some ⟨pb0, 0, none⟩), .pointer (some ⟨pb1, 0, none⟩), .pointer (some ⟨pb2, 0, none⟩)]), (7, .slice (some ⟨b61, 0, none⟩) x59.length x59.length), (8, .int .i64 q96)] ∧ St w s87 (pt pb0 (.cells #[.slice a_y0_0 y0.length c_y0_0] 44 (0, 0)) :: pt pb1 (.cells #[.slice a_y1_0 y1.length c_y1_0] 53 (0, 0)) :: pt pb2 (.cells #[.slice a84 q82.2.length c85] 44 (0, 0)) :: vecC 3 1 (some ⟨b61, 0, none⟩) x59.length x59.length cs101 :: R)) ?_ ?_
      · refine W.block ?_
        refine W.loop (fun m a w => ∃ (n92 : Nat), ∃ (q96 : Int), ∃ (q97 : List Int), ∃ (cs101 : List Value), n92 = m ∧ Fishref2counts_v1.loop2 x1 n92 q96 q97 = some q91 ∧ Ev 1 (RI .i64) s87 cs101 q97 ∧ q97.length = x59.length ∧ Rep a 40 [(0, .int .i64 x0), (1, .int .i64 x1), (2, .func (.func 76) #[] #[.pointer (some ⟨pb0, 0, none⟩), .pointer (some ⟨pb1, 0, none⟩), .pointer (some ⟨pb2, 0, none⟩)]), (7, .slice (some ⟨b61, 0, none⟩) x59.length x59.length), (8, .int .i64 q96)] ∧ St w s87 (pt pb0 (.cells #[.slice a_y0_0 y0.length c_y0_0] 44 (0, 0)) :: pt pb1 (.cells #[.slice a_y1_0 y1.length c_y1_0] 53 (0, 0)) :: pt pb2 (.cells #[.slice a84 q82.2.length c85] 44 (0, 0)) :: vecC 3 1 (some ⟨b61, 0, none⟩) x59.length x59.length cs101 :: R)) (m := fu) ⟨fu, (w64 (x0 - 1)), q71, cs75, rfl, hq90, h74, hn76, hE.pick _ ⟨rfl, rfl, rfl, rfl, rfl, trivial⟩, hS⟩ ?_
        clear hE hS a w hq90; rintro m93 a w ⟨n92, q96, q97, cs101, rfl, hq90, h100, hn102, hE, hS⟩
        refine W.gen fun K103 hK103 => ?_
        rcases n92 with _ | n92
        · rw [Fishref2counts_v1.loop2] at hq90; exact absurd hq90 (by simp)
        rw [Fishref2counts_v1.loop2] at hq90
        refine W.seq ?_
        refine W.seq ?_
        obtain ⟨q105, hq104, hq90⟩ := bindS hq90
        refine W.cut (fun a w => ∃ (q108 : Bool), q108 = q105 ∧ Rep a 40 [(0, .int .i64 x0), (1, .int .i64 x1), (2, .func (.func 76) #[] #[.pointer (some ⟨pb0, 0, none⟩), .pointer (some ⟨pb1, 0, none⟩), .pointer (some ⟨pb2, 0, none⟩)]), (7, .slice (some ⟨b61, 0, none⟩) x59.length x59.length), (8, .int .i64 q96), (26, .bool q108)] ∧ St w s87 (pt pb0 (.cells #[.slice a_y0_0 y0.length c_y0_0] 44 (0, 0)) :: pt pb1 (.cells #[.slice a_y1_0 y1.length c_y1_0] 53 (0, 0)) :: pt pb2 (.cells #[.slice a84 q82.2.length c85] 44 (0, 0)) :: vecC 3 1 (some ⟨b61, 0, none⟩) x59.length x59.length cs101 :: R)) ?_ ?_
        · refine W.gen fun K109 hK109 => ?_
          refine W.region ?_
          refine WL.vS hS hE (runs_plain rfl) (Gives.p hE rfl) rfl ?_; clear hE a; intro a hE
          refine WL.vS hS hE (runs_plain rfl) (Gives.p hE rfl) rfl ?_; clear hE a; intro a hE
          refine WL.vS hS hE (runs_plain rfl) (Gives.p hE rfl) rfl ?_; clear hE a; intro a hE
          rcases Bool.eq_false_or_eq_true (decide (q96 ≥ 0)) with hg110 | hg110
          · replace hq104 := iteT hg110 hq104
            refine WL.vS hS hE (runs_if hE rfl rfl rfl hg110) (Gives.p hE rfl) rfl ?_; clear hE a; intro a hE
            refine WL.vS hS hE (runs_if hE rfl rfl rfl hg110) (Gives.p hE rfl) rfl ?_; clear hE a; intro a hE
            obtain ⟨x111, hx112, hq104⟩ := bindS hq104
            obtain ⟨hi113, hlt114, hy115⟩ := gx_some hx112
            obtain ⟨vs116, hl117, hR118, hd119, hget120⟩ := h100.at hy115
            subst hR118
            refine WL.vS hS hE (runs_if hE rfl rfl rfl hg110) (Gives.idx hE ((q96).toNat) rfl rfl sl44 hi113 (by have := hn102; omega) (hS.vecAok 3 rfl (by have := hn102; omega : (q96).toNat < x59.length))) rfl ?_; clear hE a; intro a hE
            refine WL.vS hS hE (runs_if hE rfl rfl rfl hg110) (Gives.load1 hE rfl (fun w h => St.vecSees h 3 rfl ((q96).toNat * 1) _ hget120) ty3) rfl ?_; clear hE a; intro a hE
            refine WL.vS hS hE (runs_if hE rfl rfl rfl hg110) (Gives.p hE rfl) rfl ?_; clear hE a; intro a hE
            refine WL.vS hS hE (runs_if hE rfl rfl rfl hg110) (Gives.p hE rfl) rfl ?_; clear hE a; intro a hE
            refine WL.vS hS hE (runs_if hE rfl rfl rfl hg110) (Gives.p hE rfl) rfl ?_; clear hE a; intro a hE
            refine WL.vS hS hE (runs_plain rfl) (Gives.pickT hE rfl hg110 rfl) rfl ?_; clear hE a; intro a hE
            refine WL.nil ?_
            subst hK109
            exact ⟨(x111 == (w64 (x1 - 1))), Option.some.inj hq104, hE.pick _ ⟨rfl, rfl, rfl, rfl, rfl, rfl, trivial⟩, hS⟩
          · replace hq104 := iteF hg110 hq104
            refine WL.no hE (runs_not hE rfl rfl rfl (by rw [hg110]; decide)) rfl ?_; clear hE a; intro a hE
            refine WL.no hE (runs_not hE rfl rfl rfl (by rw [hg110]; decide)) rfl ?_; clear hE a; intro a hE
            refine WL.no hE (runs_not hE rfl rfl rfl (by rw [hg110]; decide)) rfl ?_; clear hE a; intro a hE
            refine WL.no hE (runs_not hE rfl rfl rfl (by rw [hg110]; decide)) rfl ?_; clear hE a; intro a hE
            refine WL.no hE (runs_not hE rfl rfl rfl (by rw [hg110]; decide)) rfl ?_; clear hE a; intro a hE
            refine WL.no hE (runs_not hE rfl rfl rfl (by rw [hg110]; decide)) rfl ?_; clear hE a; intro a hE
            refine WL.no hE (runs_not hE rfl rfl rfl (by rw [hg110]; decide)) rfl ?_; clear hE a; intro a hE
            refine WL.vS hS hE (runs_plain rfl) (Gives.pickF hE rfl hg110 rfl) rfl ?_; clear hE a; intro a hE
            refine WL.nil ?_
            subst hK109
            exact ⟨false, Option.some.inj hq104, hE.pick _ ⟨rfl, rfl, rfl, rfl, rfl, rfl, trivial⟩, hS⟩
        · clear hE hS a w; rintro a w ⟨q108, rfl, hE, hS⟩
          refine W.cond hE rfl (fun hc121 => ?_) (fun hc121 => ?_)
          · replace hq90 := iteT hc121 hq90
            refine W.skip ?_
            refine W.block ?_
            refine W.seq ?_
            refine W.region ?_
            refine WL.vS hS hE (runs_plain rfl) (Gives.p hE rfl) rfl ?_; clear hE a; intro a hE
            refine WL.vS hS hE (runs_plain rfl) (Gives.p hE rfl) rfl ?_; clear hE a; intro a hE
            obtain ⟨_, hx123, hq90⟩ := bindS hq90
            obtain ⟨h124, h125⟩ := ix_some hx123
            refine WL.vS hS hE (runs_plain rfl) (Gives.idx hE ((q96).toNat) rfl rfl sl44 h124 (by have := hn102; omega) (hS.vecAok 3 rfl (by have := hn102; omega : (q96).toNat < x59.length))) rfl ?_; clear hE a; intro a hE
            obtain ⟨x127, hx128, hq90⟩ := bindS hq90
            refine WL.setD hE hS 3 rfl (runs_plain rfl) rfl rfl (vs := [.int .i64 0]) rfl ty3 rfl rfl rfl h100 hn102 (sx_some hx128).1 hx128 rfl rfl ?_; clear hE hS a w; intro cs129 a w h130 hn131 hE hS
            refine WL.nil ?_
            refine W.region ?_
            refine WL.vS hS hE (runs_plain rfl) (Gives.p hE rfl) rfl ?_; clear hE a; intro a hE
            refine WL.vS hS hE (runs_plain rfl) (Gives.p hE rfl) rfl ?_; clear hE a; intro a hE
            refine WL.vS hS hE (runs_plain rfl) (Gives.p hE rfl) rfl ?_; clear hE a; intro a hE
            refine WL.nil ?_
            subst hK103
            exact ⟨n92, Nat.lt_succ_self _, n92, (w64 (q96 - 1)), x127, cs129, rfl, hq90, h130, hn131, hE.pick _ ⟨rfl, rfl, rfl, rfl, rfl, trivial⟩, hS⟩
          · replace hq90 := iteF hc121 hq90
            subst hK103
            refine W.exit rfl ?_
            exact ⟨q96, q97, cs101, Option.some.inj hq90, h100, hn102, hE.pick _ ⟨rfl, rfl, rfl, rfl, rfl, trivial⟩, hS⟩
      · clear hE hS a w; rintro a w ⟨q96, q97, cs101, rfl, h100, hn102, hE, hS⟩
        dsimp only at hq65
        refine W.seq ?_
        refine W.seq ?_
        refine W.region ?_
        refine WL.vS hS hE (runs_plain rfl) (Gives.p hE rfl) rfl ?_; clear hE a; intro a hE
        refine WL.vS hS hE (runs_plain rfl) (Gives.p hE rfl) rfl ?_; clear hE a; intro a hE
        refine WL.nil ?_
        refine W.cond hE rfl (fun hc132 => ?_) (fun hc132 => ?_)
        · replace hq65 := iteT hc132 hq65
          refine W.seq ?_
          refine W.region ?_
          refine WL.vS hS hE (runs_plain rfl) (Gives.p hE rfl) rfl ?_; clear hE a; intro a hE
          refine WL.nil ?_
          refine W.ret ?_
          subst hK81
          rw [← Option.some.inj hq65] at hr
          dsimp only at hr
          refine finG (fn := Try.f46) (rs := [.tmp 6]) (vs := [_]) hE rfl ⟨rfl, trivial⟩ ?_
          obtain rfl := Option.some.inj hr
          replace hS := hS.dropAt 3
          exact ⟨a84, c85, s87, rfl, (Sg.Le.trans hle70 hle88), h86, hS⟩
        · replace hq65 := iteF hc132 hq65
          refine W.skip ?_
          refine W.region ?_
          refine WL.vS hS hE (runs_plain rfl) (Gives.p hE rfl) rfl ?_; clear hE a; intro a hE
          refine WL.vS hS hE (runs_plain rfl) (Gives.p hE rfl) rfl ?_; clear hE a; intro a hE
          obtain ⟨x133, hx134, hq65⟩ := bindS hq65
          obtain ⟨hi135, hlt136, hy137⟩ := gx_some hx134
          obtain ⟨vs138, hl139, hR140, hd141, hget142⟩ := h100.at hy137
          subst hR140
          refine WL.vS hS hE (runs_plain rfl) (Gives.idx hE ((q96).toNat) rfl rfl sl44 hi135 (by have := hn102; omega) (hS.vecAok 3 rfl (by have := hn102; omega : (q96).toNat < x59.length))) rfl ?_; clear hE a; intro a hE
          refine WL.vS hS hE (runs_plain rfl) (Gives.load1 hE rfl (fun w h => St.vecSees h 3 rfl ((q96).toNat * 1) _ hget142) ty3) rfl ?_; clear hE a; intro a hE
          refine WL.vS hS hE (runs_plain rfl) (Gives.p hE rfl) rfl ?_; clear hE a; intro a hE
          obtain ⟨_, hx144, hq65⟩ := bindS hq65
          obtain ⟨h145, h146⟩ := ix_some hx144
          refine WL.vS hS hE (runs_plain rfl) (Gives.idx hE ((q96).toNat) rfl rfl sl44 h145 (by have := hn102; omega) (hS.vecAok 3 rfl (by have := hn102; omega : (q96).toNat < x59.length))) rfl ?_; clear hE a; intro a hE
          obtain ⟨x148, hx149, hq65⟩ := bindS hq65
          refine WL.setD hE hS 3 rfl (runs_plain rfl) rfl rfl (vs := [.int .i64 (w64 (x133 + 1))]) rfl ty3 rfl rfl rfl h100 hn102 (sx_some hx149).1 hx149 rfl rfl ?_; clear hE hS a w; intro cs150 a w h151 hn152 hE hS
          refine WL.nil ?_
          replace hS := hS.front 2 rfl
          replace hS := hS.front 2 rfl
          replace hS := hS.front 2 rfl
          replace hS := hS.front 3 rfl
          subst hK81
          exact ⟨n67, Nat.lt_succ_self _, n67, x148, q82.2, cs150, a84, c85, s87, rfl, (Sg.Le.trans hle70 hle88), hq65, h151, hn152, h86, hE.pick _ ⟨rfl, rfl, rfl, rfl, trivial⟩, hS⟩
  · exact fun _ _ h => h.elim
set_option maxHeartbeats 8000000 in
theorem Fishref2StoreOf_ok {fu : Nat}  {w : World} {s : Sg} {R : List HP} {x0 : List Int} {a0 : Option Addr} {c0 : Nat} {x1 : List FleetStay} {a1 : Option Addr} {c1 : Nat} (hS : St w s (R)) (h0 : Sl 1 (RI .i64) s a0 c0 x0) (h1 : Sl 2 RFleetStay s a1 c1 x1) {r : (List Int) × Int} (hr : Fishref2StoreOf fu x0 x1 = some r) :
    Calls Try.prog 28 [.slice a0 x0.length c0, .slice a1 x1.length c1].toArray w (fun e w => ∃ (a0 : Option Addr) (c0 : Nat) (t : Sg), e = .returned (.tuple #[.slice a0 r.1.length c0, .int .i64 r.2]) ∧ s.Le t ∧ Sl 1 (RI .i64) t a0 c0 r.1 ∧ St w t (R)) := by
  refine enter Try.func28 rfl rfl rfl fun a hE => ?_
  rw [Fishref2StoreOf] at hr
  refine W.seq ?_
  refine W.region ?_
  refine WL.box hE hS (runs_plain rfl) rfl rfl rfl ?_; clear hE hS a w; intro b51 a w hE hS
  refine WL.box hE hS (runs_plain rfl) rfl rfl rfl ?_; clear hE hS a w; intro b52 a w hE hS
  refine WL.vS hS hE (runs_plain rfl) (Gives.p hE rfl) rfl ?_; clear hE a; intro a hE
  refine WL.vS hS hE (runs_plain rfl) (Gives.p hE rfl) rfl ?_; clear hE a; intro a hE
  refine WL.nil ?_
  refine W.seq ?_
  refine W.seq ?_
  refine W.region ?_
  refine WL.vS hS hE (runs_plain rfl) (Gives.loadB hE 1 rfl rfl rfl ty44) rfl ?_; clear hE a; intro a hE
  refine WL.vS hS hE (runs_plain rfl) (Gives.loadB hE 0 rfl rfl rfl ty53) rfl ?_; clear hE a; intro a hE
  obtain ⟨q53, hq54, hr⟩ := bindS hr
  have hc_ := Fishref2StoreFault_ok hS h0 h1 hq54
  refine WL.fnq hE (hc_) (runs_plain rfl) bd75 rfl rfl rfl ?_
  clear hE hS hc_; rintro e w ⟨rfl, hS⟩; refine ⟨_, rfl, ?_⟩; clear a; intro a hE
  refine WL.vS hS hE (runs_plain rfl) (Gives.p hE rfl) rfl ?_; clear hE a; intro a hE
  refine WL.nil ?_
  refine W.seq ?_
  refine W.region ?_
  refine WL.vS hS hE (runs_plain rfl) (Gives.p hE rfl) rfl ?_; clear hE a; intro a hE
  refine WL.vS hS hE (runs_plain rfl) (Gives.p hE rfl) rfl ?_; clear hE a; intro a hE
  refine WL.nil ?_
  refine W.cond hE rfl (fun hc55 => ?_) (fun hc55 => ?_)
  · replace hr := iteT hc55 hr
    refine W.seq ?_
    refine W.region ?_
    refine WL.vS hS hE (runs_plain rfl) (Gives.p hE rfl) rfl ?_; clear hE a; intro a hE
    refine WL.vS hS hE (runs_plain rfl) (Gives.p hE rfl) rfl ?_; clear hE a; intro a hE
    refine WL.vS hS hE (runs_plain rfl) (Gives.p hE rfl) rfl ?_; clear hE a; intro a hE
    refine WL.nil ?_
    refine W.ret ?_
    refine finG (fn := Try.f28) (rs := [.tmp 4, .tmp 5]) (vs := [_, _]) hE rfl ⟨rfl, rfl, trivial⟩ ?_
    obtain rfl := Option.some.inj hr
    replace hS := hS.tail
    replace hS := hS.tail
    exact ⟨none, 0, s, rfl, (Sg.Le.refl _), Sl.nil, hS⟩
  · replace hr := iteF hc55 hr
    refine W.skip ?_
    refine W.seq ?_
    refine W.region ?_
    refine WL.alloc hE hS (runs_plain rfl) zr44 rfl ?_; clear hE hS a w; intro b56 a w hE hS
    refine WL.nil ?_
    refine W.seq ?_
    refine W.region ?_
    refine WL.vS hS hE (runs_plain rfl) (Gives.loadB hE 1 rfl rfl rfl ty53) rfl ?_; clear hE a; intro a hE
    refine WL.vS hS hE (runs_plain rfl) (Gives.len hE rfl sl53) rfl ?_; clear hE a; intro a hE
    refine WL.vS hS hE (runs_plain rfl) (Gives.loadB hE 2 rfl rfl rfl ty44) rfl ?_; clear hE a; intro a hE
    refine WL.vS hS hE (runs_plain rfl) (Gives.len hE rfl sl44) rfl ?_; clear hE a; intro a hE
    refine WL.vS hS hE (runs_plain rfl) (Gives.mkfn hE (vs := [.pointer (some ⟨b51, 0, none⟩), .pointer (some ⟨b52, 0, none⟩), .pointer (some ⟨b56, 0, none⟩)]) rfl) rfl ?_; clear hE a; intro a hE
    obtain ⟨q57, hq58, hr⟩ := bindS hr
    replace hS := hS.front 0 rfl
    replace hS := hS.front 1 rfl
    replace hS := hS.front 2 rfl
    have hc_ := Fishref2counts_v1_ok hS h0 h1 Sl.nil hq58
    refine WL.fnq hE (hc_) (runs_plain rfl) bd46 rfl rfl rfl ?_
    clear hE hS hc_; rintro e w ⟨a59, c60, s62, rfl, hle63, h61, hS⟩; refine ⟨_, rfl, ?_⟩; clear a; intro a hE
    replace h0 := Sl.mono RI.mono hle63 h0
    replace h1 := Sl.mono RFleetStay.mono hle63 h1
    refine WL.vS hS hE (runs_plain rfl) (Gives.p hE rfl) rfl ?_; clear hE a; intro a hE
    refine WL.nil ?_
    refine W.seq ?_
    refine W.seq ?_
    refine W.region ?_
    refine WL.vS hS hE (runs_plain rfl) (Gives.p hE rfl) rfl ?_; clear hE a; intro a hE
    refine WL.vS hS hE (runs_plain rfl) (Gives.p hE rfl) rfl ?_; clear hE a; intro a hE
    refine WL.nil ?_
    refine W.cond hE rfl (fun hc64 => ?_) (fun hc64 => ?_)
    · replace hr := iteT hc64 hr
      refine W.seq ?_
      refine W.region ?_
      refine WL.vS hS hE (runs_plain rfl) (Gives.p hE rfl) rfl ?_; clear hE a; intro a hE
      refine WL.vS hS hE (runs_plain rfl) (Gives.p hE rfl) rfl ?_; clear hE a; intro a hE
      refine WL.nil ?_
      refine W.ret ?_
      refine finG (fn := Try.f28) (rs := [.tmp 4, .tmp 5]) (vs := [_, _]) hE rfl ⟨rfl, rfl, trivial⟩ ?_
      obtain rfl := Option.some.inj hr
      replace hS := hS.tail
      replace hS := hS.tail
      replace hS := hS.tail
      exact ⟨none, 0, s62, rfl, hle63, Sl.nil, hS⟩
    · replace hr := iteF hc64 hr
      refine W.skip ?_
      refine W.seq ?_
      refine W.region ?_
      refine WL.vS hS hE (runs_plain rfl) (Gives.loadB hE 2 rfl rfl rfl ty44) rfl ?_; clear hE a; intro a hE
      refine WL.vS hS hE (runs_plain rfl) (Gives.p hE rfl) rfl ?_; clear hE a; intro a hE
      refine WL.vS hS hE (runs_plain rfl) (Gives.p hE rfl) rfl ?_; clear hE a; intro a hE
      refine WL.nil ?_
      refine W.ret ?_
      refine finG (fn := Try.f28) (rs := [.tmp 4, .tmp 5]) (vs := [_, _]) hE rfl ⟨rfl, rfl, trivial⟩ ?_
      obtain rfl := Option.some.inj hr
      replace hS := hS.tail
      replace hS := hS.tail
      replace hS := hS.tail
      exact ⟨a59, c60, s62, rfl, hle63, h61, hS⟩
set_option maxHeartbeats 8000000 in
theorem FleetCheckDepot_ok  {w : World} {s : Sg} {R : List HP} {x0 : FleetDepot} {a0_0 : Option Addr} {c0_0 : Nat} {a0_1 : Option Addr} {c0_1 : Nat} (hS : St w s (R)) (h0_0 : Sl 1 (RI .i64) s a0_0 c0_0 x0.Room) (h0_1 : Sl 1 (RL 1 (RI .i64)) s a0_1 c0_1 x0.Tracks) {r : Int} (hr : FleetCheckDepot x0 = some r) :
    Calls Try.prog 118 [.agg [.slice a0_0 x0.Room.length c0_0, .slice a0_1 x0.Tracks.length c0_1].toArray].toArray w (fun e w => e = .returned (.int .i64 r) ∧ St w s (R)) := by
  refine enter Try.func118 rfl rfl rfl fun a hE => ?_
  rw [FleetCheckDepot] at hr
  refine W.seq ?_
  refine W.region ?_
  refine WL.box hE hS (runs_plain rfl) rfl rfl rfl ?_; clear hE hS a w; intro b51 a w hE hS
  refine WL.vS hS hE (runs_plain rfl) (Gives.p hE rfl) rfl ?_; clear hE a; intro a hE
  refine WL.nil ?_
  refine W.seq ?_
  refine W.block ?_
  refine W.seq ?_
  refine W.region ?_
  refine WL.vS hS hE (runs_plain rfl) (Gives.fld hE rfl fl109_0) rfl ?_; clear hE a; intro a hE
  refine WL.vS hS hE (runs_plain rfl) (Gives.loadB hE 0 rfl rfl rfl ty44) rfl ?_; clear hE a; intro a hE
  refine WL.vS hS hE (runs_plain rfl) (Gives.len hE rfl sl44) rfl ?_; clear hE a; intro a hE
  refine WL.fnq hE (Fleetwithin_ok hS  rfl (r := Fleetwithin ((x0.Room).length : Int) 1 4)) (runs_plain rfl) bd37 rfl rfl rfl ?_
  clear hE hS; rintro e w ⟨rfl, hS⟩; refine ⟨_, rfl, ?_⟩; clear a; intro a hE
  refine WL.vS hS hE (runs_plain rfl) (Gives.p hE rfl) rfl ?_; clear hE a; intro a hE
  refine WL.vS hS hE (runs_plain rfl) (Gives.p hE rfl) rfl ?_; clear hE a; intro a hE
  refine WL.nil ?_
  refine W.cond hE rfl (fun hc52 => ?_) (fun hc52 => ?_)
  · replace hr := iteT hc52 hr
    refine W.seq ?_
    refine W.region ?_
    refine WL.vS hS hE (runs_plain rfl) (Gives.p hE rfl) rfl ?_; clear hE a; intro a hE
    refine WL.nil ?_
    refine W.ret ?_
    refine finG (fn := Try.f118) (rs := [.tmp 2]) (vs := [_]) hE rfl ⟨rfl, trivial⟩ ?_
    obtain rfl := Option.some.inj hr
    replace hS := hS.tail
    exact ⟨rfl, hS⟩
  · replace hr := iteF hc52 hr
    refine W.seq ?_
    refine W.region ?_
    refine WL.vS hS hE (runs_plain rfl) (Gives.fld hE rfl fl109_1) rfl ?_; clear hE a; intro a hE
    refine WL.vS hS hE (runs_plain rfl) (Gives.loadB hE 0 rfl rfl rfl ty25) rfl ?_; clear hE a; intro a hE
    refine WL.vS hS hE (runs_plain rfl) (Gives.len hE rfl sl25) rfl ?_; clear hE a; intro a hE
    refine WL.vS hS hE (runs_plain rfl) (Gives.fld hE rfl fl109_0) rfl ?_; clear hE a; intro a hE
    refine WL.vS hS hE (runs_plain rfl) (Gives.loadB hE 0 rfl rfl rfl ty44) rfl ?_; clear hE a; intro a hE
    refine WL.vS hS hE (runs_plain rfl) (Gives.len hE rfl sl44) rfl ?_; clear hE a; intro a hE
    refine WL.vS hS hE (runs_plain rfl) (Gives.p hE rfl) rfl ?_; clear hE a; intro a hE
    refine WL.vS hS hE (runs_plain rfl) (Gives.p hE rfl) rfl ?_; clear hE a; intro a hE
    refine WL.nil ?_
    refine W.cond hE rfl (fun hc53 => ?_) (fun hc53 => ?_)
    · replace hr := iteT hc53 hr
      refine W.seq ?_
      refine W.region ?_
      refine WL.vS hS hE (runs_plain rfl) (Gives.p hE rfl) rfl ?_; clear hE a; intro a hE
      refine WL.nil ?_
      refine W.ret ?_
      refine finG (fn := Try.f118) (rs := [.tmp 2]) (vs := [_]) hE rfl ⟨rfl, trivial⟩ ?_
      obtain rfl := Option.some.inj hr
      replace hS := hS.tail
      exact ⟨rfl, hS⟩
    · replace hr := iteF hc53 hr
      refine W.skip ?_
      refine W.seq ?_
      refine W.region ?_
      refine WL.mkMap (fk := keyI.f) (fv := Value.bool) hE hS (runs_plain rfl) rfl ?_; clear hE hS a w; intro b54 a w hE hS
      refine WL.vS hS hE (runs_plain rfl) (Gives.p hE rfl) rfl ?_; clear hE a; intro a hE
      refine WL.nil ?_
      refine W.seq ?_
      refine W.seq ?_
      refine W.region ?_
      refine WL.vS hS hE (runs_plain rfl) (Gives.fld hE rfl fl109_1) rfl ?_; clear hE a; intro a hE
      refine WL.vS hS hE (runs_plain rfl) (Gives.loadB hE 1 rfl rfl rfl ty25) rfl ?_; clear hE a; intro a hE
      refine WL.vS hS hE (runs_plain rfl) (Gives.len hE rfl sl25) rfl ?_; clear hE a; intro a hE
      refine WL.vS hS hE (runs_plain rfl) (Gives.p hE rfl) rfl ?_; clear hE a; intro a hE
      refine WL.nil ?_
      obtain ⟨q56, hq55, hr⟩ := bindS hr
      refine W.cut (fun a w => ∃ (q66 : List (Int × Bool)), (.next q66) = q56 ∧ Rep a 66 [] ∧ St w s (mapC keyI.f Value.bool b54 q66 :: pt b51 (.cells #[.slice a0_0 x0.Room.length c0_0, .slice a0_1 x0.Tracks.length c0_1] 109 (0, 0)) :: R)) ?_ ?_
      · refine W.block ?_
        refine W.loop (fun m a w => ∃ (rest59 : List (List Int)) (k57 : Nat), ∃ (q66 : List (Int × Bool)), rest59.length = m ∧ x0.Tracks.drop k57 = rest59 ∧ FleetCheckDepot.loop1 x0 rest59 k57 q66 = some q56 ∧ Rep a 66 [(1, .pointer (some ⟨b51, 0, none⟩)), (3, .map (some b54)), (24, .slice a0_1 x0.Tracks.length c0_1), (25, .int .i64 ((x0.Tracks).length : Int)), (26, .int .i64 ((k57 : Nat) : Int))] ∧ St w s (mapC keyI.f Value.bool b54 q66 :: pt b51 (.cells #[.slice a0_0 x0.Room.length c0_0, .slice a0_1 x0.Tracks.length c0_1] 109 (0, 0)) :: R)) (m := x0.Tracks.length) ⟨x0.Tracks, 0, [], rfl, rfl, hq55, hE.pick _ ⟨rfl, rfl, rfl, rfl, rfl, trivial⟩, hS⟩ ?_
        clear hE hS a w hq55; rintro m63 a w ⟨rest59, k57, q66, rfl, hd60, hq55, hE, hS⟩
        refine W.gen fun K67 hK67 => ?_
        rcases rest59 with _ | ⟨x58, rest59⟩
        · have hlt61 := drop_nil hd60
          refine W.seq ?_
          refine W.region ?_
          refine WL.vS hS hE (runs_plain rfl) (Gives.p hE rfl) rfl ?_; clear hE a; intro a hE
          refine WL.nil ?_
          refine W.seq ?_
          refine W.condF hE rfl (decide_eq_false (by omega)) ?_
          subst hK67
          refine W.exit rfl ?_
          exact ⟨q66, Option.some.inj hq55, hE.pick _ trivial, hS⟩
        · obtain ⟨hlt61, hx62, hd60⟩ := drop_cons hd60
          rw [FleetCheckDepot.loop1] at hq55
          refine W.seq ?_
          refine W.region ?_
          refine WL.vS hS hE (runs_plain rfl) (Gives.p hE rfl) rfl ?_; clear hE a; intro a hE
          refine WL.nil ?_
          refine W.seq ?_
          refine W.condT hE rfl (decide_eq_true (by omega)) ?_
          refine W.skip ?_
          refine W.seq ?_
          refine W.block ?_
          refine W.seq ?_
          refine W.region ?_
          refine WL.vS hS hE (runs_plain rfl) (Gives.p hE rfl) rfl ?_; clear hE a; intro a hE
          obtain ⟨cs68, hl69, hR70, hat71⟩ := h0_1.at hx62
          obtain ⟨a72, c73, rfl, h74⟩ := hR70
          refine WL.vS hS hE (runs_plain rfl) (Gives.idx hE k57 rfl rfl sl25 rfl hlt61 (h0_1.aok hlt61)) rfl ?_; clear hE a; intro a hE
          refine WL.vS hS hE (runs_plain rfl) (Gives.load1 hE rfl (fun w h => hat71 w _ h) ty44) rfl ?_; clear hE a; intro a hE
          refine WL.vS hS hE (runs_plain rfl) (Gives.p hE rfl) rfl ?_; clear hE a; intro a hE
          refine WL.vS hS hE (runs_plain rfl) (Gives.p hE rfl) rfl ?_; clear hE a; intro a hE
          refine WL.nil ?_
          refine W.seq ?_
          refine W.block ?_
          refine W.seq ?_
          refine W.region ?_
          refine WL.vS hS hE (runs_plain rfl) (Gives.fld hE rfl fl109_0) rfl ?_; clear hE a; intro a hE
          refine WL.vS hS hE (runs_plain rfl) (Gives.loadB hE 1 rfl rfl rfl ty44) rfl ?_; clear hE a; intro a hE
          refine WL.vS hS hE (runs_plain rfl) (Gives.p hE rfl) rfl ?_; clear hE a; intro a hE
          obtain ⟨x75, hx76, hq55⟩ := bindS hq55
          obtain ⟨hi77, hlt78, hy79⟩ := gx_some hx76
          obtain ⟨cs80, hl81, hR82, hat83⟩ := h0_0.at hy79
          subst hR82
          refine WL.vS hS hE (runs_plain rfl) (Gives.idx hE (((k57 : Nat) : Int)).toNat rfl rfl sl44 hi77 hlt78 (h0_0.aok hlt78)) rfl ?_; clear hE a; intro a hE
          refine WL.vS hS hE (runs_plain rfl) (Gives.load1 hE rfl (fun w h => hat83 w _ h) ty3) rfl ?_; clear hE a; intro a hE
          refine WL.fnq hE (Fleetwithin_ok hS  rfl (r := Fleetwithin x75 1 4)) (runs_plain rfl) bd37 rfl rfl rfl ?_
          clear hE hS; rintro e w ⟨rfl, hS⟩; refine ⟨_, rfl, ?_⟩; clear a; intro a hE
          refine WL.vS hS hE (runs_plain rfl) (Gives.p hE rfl) rfl ?_; clear hE a; intro a hE
          refine WL.vS hS hE (runs_plain rfl) (Gives.p hE rfl) rfl ?_; clear hE a; intro a hE
          refine WL.nil ?_
          refine W.cond hE rfl (fun hc84 => ?_) (fun hc84 => ?_)
          · replace hq55 := iteT hc84 hq55
            refine W.seq ?_
            refine W.region ?_
            refine WL.vS hS hE (runs_plain rfl) (Gives.p hE rfl) rfl ?_; clear hE a; intro a hE
            refine WL.nil ?_
            refine W.ret ?_
            subst hK67
            rw [← Option.some.inj hq55] at hr
            dsimp only at hr
            refine finG (fn := Try.f118) (rs := [.tmp 2]) (vs := [_]) hE rfl ⟨rfl, trivial⟩ ?_
            obtain rfl := Option.some.inj hr
            replace hS := hS.tail
            replace hS := hS.tail
            exact ⟨rfl, hS⟩
          · replace hq55 := iteF hc84 hq55
            refine W.seq ?_
            refine W.region ?_
            refine WL.vS hS hE (runs_plain rfl) (Gives.p hE rfl) rfl ?_; clear hE a; intro a hE
            refine WL.vS hS hE (runs_plain rfl) (Gives.len hE rfl sl44) rfl ?_; clear hE a; intro a hE
            refine WL.vS hS hE (runs_plain rfl) (Gives.fld hE rfl fl109_0) rfl ?_; clear hE a; intro a hE
            refine WL.vS hS hE (runs_plain rfl) (Gives.loadB hE 1 rfl rfl rfl ty44) rfl ?_; clear hE a; intro a hE
            refine WL.vS hS hE (runs_plain rfl) (Gives.p hE rfl) rfl ?_; clear hE a; intro a hE
            obtain ⟨x85, hx86, hq55⟩ := bindS hq55
            obtain ⟨hi87, hlt88, hy89⟩ := gx_some hx86
            obtain ⟨cs90, hl91, hR92, hat93⟩ := h0_0.at hy89
            subst hR92
            refine WL.vS hS hE (runs_plain rfl) (Gives.idx hE (((k57 : Nat) : Int)).toNat rfl rfl sl44 hi87 hlt88 (h0_0.aok hlt88)) rfl ?_; clear hE a; intro a hE
            refine WL.vS hS hE (runs_plain rfl) (Gives.load1 hE rfl (fun w h => hat93 w _ h) ty3) rfl ?_; clear hE a; intro a hE
            refine WL.vS hS hE (runs_plain rfl) (Gives.p hE rfl) rfl ?_; clear hE a; intro a hE
            refine WL.vS hS hE (runs_plain rfl) (Gives.p hE rfl) rfl ?_; clear hE a; intro a hE
            refine WL.nil ?_
            refine W.cond hE rfl (fun hc94 => ?_) (fun hc94 => ?_)
            · replace hq55 := iteT hc94 hq55
              refine W.seq ?_
              refine W.region ?_
              refine WL.vS hS hE (runs_plain rfl) (Gives.p hE rfl) rfl ?_; clear hE a; intro a hE
              refine WL.nil ?_
              refine W.ret ?_
              subst hK67
              rw [← Option.some.inj hq55] at hr
              dsimp only at hr
              refine finG (fn := Try.f118) (rs := [.tmp 2]) (vs := [_]) hE rfl ⟨rfl, trivial⟩ ?_
              obtain rfl := Option.some.inj hr
              replace hS := hS.tail
              replace hS := hS.tail
              exact ⟨rfl, hS⟩
            · replace hq55 := iteF hc94 hq55
              refine W.skip ?_
              refine W.seq ?_
              refine W.region ?_
              refine WL.vS hS hE (runs_plain rfl) (Gives.p hE rfl) rfl ?_; clear hE a; intro a hE
              refine WL.vS hS hE (runs_plain rfl) (Gives.len hE rfl sl44) rfl ?_; clear hE a; intro a hE
              refine WL.vS hS hE (runs_plain rfl) (Gives.p hE rfl) rfl ?_; clear hE a; intro a hE
              refine WL.nil ?_
              obtain ⟨q96, hq95, hq55⟩ := bndS hq55
              refine W.cut (fun a w => ∃ (q106 : List (Int × Bool)), (.next q106) = q96 ∧ Rep a 66 [(1, .pointer (some ⟨b51, 0, none⟩)), (3, .map (some b54)), (24, .slice a0_1 x0.Tracks.length c0_1), (25, .int .i64 ((x0.Tracks).length : Int)), (26, .int .i64 ((k57 : Nat) : Int))] ∧ St w s (mapC keyI.f Value.bool b54 q106 :: pt b51 (.cells #[.slice a0_0 x0.Room.length c0_0, .slice a0_1 x0.Tracks.length c0_1] 109 (0, 0)) :: R)) ?_ ?_
              · refine W.block ?_
                refine W.loop (fun m a w => ∃ (rest99 : List Int) (k97 : Nat), ∃ (q106 : List (Int × Bool)), rest99.length = m ∧ x58.drop k97 = rest99 ∧ FleetCheckDepot.loop2 rest99 q106 = q96 ∧ Rep a 66 [(1, .pointer (some ⟨b51, 0, none⟩)), (3, .map (some b54)), (24, .slice a0_1 x0.Tracks.length c0_1), (25, .int .i64 ((x0.Tracks).length : Int)), (26, .int .i64 ((k57 : Nat) : Int)), (48, .slice a72 x58.length c73), (49, .int .i64 ((x58).length : Int)), (50, .int .i64 ((k97 : Nat) : Int))] ∧ St w s (mapC keyI.f Value.bool b54 q106 :: pt b51 (.cells #[.slice a0_0 x0.Room.length c0_0, .slice a0_1 x0.Tracks.length c0_1] 109 (0, 0)) :: R)) (m := x58.length) ⟨x58, 0, q66, rfl, rfl, hq95, hE.pick _ ⟨rfl, rfl, rfl, rfl, rfl, rfl, rfl, rfl, trivial⟩, hS⟩ ?_
                clear hE hS a w hq95; rintro m103 a w ⟨rest99, k97, q106, rfl, hd100, hq95, hE, hS⟩
                refine W.gen fun K107 hK107 => ?_
                rcases rest99 with _ | ⟨x98, rest99⟩
                · have hlt101 := drop_nil hd100
                  refine W.seq ?_
                  refine W.region ?_
                  refine WL.vS hS hE (runs_plain rfl) (Gives.p hE rfl) rfl ?_; clear hE a; intro a hE
                  refine WL.nil ?_
                  refine W.seq ?_
                  refine W.condF hE rfl (decide_eq_false (by omega)) ?_
                  subst hK107
                  refine W.exit rfl ?_
                  exact ⟨q106, hq95, hE.pick _ ⟨rfl, rfl, rfl, rfl, rfl, trivial⟩, hS⟩
                · obtain ⟨hlt101, hx102, hd100⟩ := drop_cons hd100
                  rw [FleetCheckDepot.loop2] at hq95
                  refine W.seq ?_
                  refine W.region ?_
                  refine WL.vS hS hE (runs_plain rfl) (Gives.p hE rfl) rfl ?_; clear hE a; intro a hE
                  refine WL.nil ?_
                  refine W.seq ?_
                  refine W.condT hE rfl (decide_eq_true (by omega)) ?_
                  refine W.skip ?_
                  refine W.seq ?_
                  refine W.block ?_
                  refine W.seq ?_
                  refine W.region ?_
                  obtain ⟨cs108, hl109, hR110, hat111⟩ := h74.at hx102
                  subst hR110
                  refine WL.vS hS hE (runs_plain rfl) (Gives.idx hE k97 rfl rfl sl44 rfl hlt101 (h74.aok hlt101)) rfl ?_; clear hE a; intro a hE
                  refine WL.vS hS hE (runs_plain rfl) (Gives.load1 hE rfl (fun w h => hat111 w _ h) ty3) rfl ?_; clear hE a; intro a hE
                  refine WL.vS hS hE (runs_plain rfl) (Gives.p hE rfl) rfl ?_; clear hE a; intro a hE
                  refine WL.nil ?_
                  refine W.seq ?_
                  refine W.block ?_
                  refine W.seq ?_
                  refine W.region ?_
                  refine WL.vS hS hE (runs_plain rfl) (Gives.p hE rfl) rfl ?_; clear hE a; intro a hE
                  refine WL.fnq hE (Fleetwithin_ok hS  rfl (r := Fleetwithin x98 0 99)) (runs_plain rfl) bd37 rfl rfl rfl ?_
                  clear hE hS; rintro e w ⟨rfl, hS⟩; refine ⟨_, rfl, ?_⟩; clear a; intro a hE
                  refine WL.vS hS hE (runs_plain rfl) (Gives.p hE rfl) rfl ?_; clear hE a; intro a hE
                  refine WL.vS hS hE (runs_plain rfl) (Gives.p hE rfl) rfl ?_; clear hE a; intro a hE
                  refine WL.nil ?_
                  refine W.cond hE rfl (fun hc112 => ?_) (fun hc112 => ?_)
                  · replace hq95 := iteT hc112 hq95
                    refine W.seq ?_
                    refine W.region ?_
                    refine WL.vS hS hE (runs_plain rfl) (Gives.p hE rfl) rfl ?_; clear hE a; intro a hE
                    refine WL.nil ?_
                    refine W.ret ?_
                    subst hK107
                    subst hK67
                    rw [← hq95] at hq55
                    dsimp only at hq55
                    rw [← Option.some.inj hq55] at hr
                    dsimp only at hr
                    refine finG (fn := Try.f118) (rs := [.tmp 2]) (vs := [_]) hE rfl ⟨rfl, trivial⟩ ?_
                    obtain rfl := Option.some.inj hr
                    replace hS := hS.tail
                    replace hS := hS.tail
                    exact ⟨rfl, hS⟩
                  · replace hq95 := iteF hc112 hq95
                    refine W.seq ?_
                    refine W.region ?_
                    refine WL.vS hS hE (runs_plain rfl) (Gives.p hE rfl) rfl ?_; clear hE a; intro a hE
                    refine WL.vS hS hE (runs_plain rfl) (Gives.p hE rfl) rfl ?_; clear hE a; intro a hE
                    refine WL.vS hS hE (runs_plain rfl) (Gives.mapGet keyI hE 0 (k := x98) (z := false) rfl rfl rfl mp174 zm4) rfl ?_; clear hE a; intro a hE
                    refine WL.vS hS hE (runs_plain rfl) (Gives.p hE rfl) rfl ?_; clear hE a; intro a hE
                    refine WL.nil ?_
                    refine W.cond hE rfl (fun hc113 => ?_) (fun hc113 => ?_)
                    · replace hq95 := iteT hc113 hq95
                      refine W.seq ?_
                      refine W.region ?_
                      refine WL.vS hS hE (runs_plain rfl) (Gives.p hE rfl) rfl ?_; clear hE a; intro a hE
                      refine WL.nil ?_
                      refine W.ret ?_
                      subst hK107
                      subst hK67
                      rw [← hq95] at hq55
                      dsimp only at hq55
                      rw [← Option.some.inj hq55] at hr
                      dsimp only at hr
                      refine finG (fn := Try.f118) (rs := [.tmp 2]) (vs := [_]) hE rfl ⟨rfl, trivial⟩ ?_
                      obtain rfl := Option.some.inj hr
                      replace hS := hS.tail
                      replace hS := hS.tail
                      exact ⟨rfl, hS⟩
                    · replace hq95 := iteF hc113 hq95
                      refine W.skip ?_
                      refine W.region ?_
                      refine WL.vS hS hE (runs_plain rfl) (Gives.p hE rfl) rfl ?_; clear hE a; intro a hE
                      refine WL.vS hS hE (runs_plain rfl) (Gives.p hE rfl) rfl ?_; clear hE a; intro a hE
                      refine WL.mapSet keyI hE hS 0 (k := x98) (v := true) (.inl rfl) (runs_plain rfl) rfl rfl rfl rfl mp174 rfl ?_; clear hE hS a w; intro a w hE hS
                      refine WL.nil ?_
                      refine W.region ?_
                      refine WL.vS hS hE (runs_plain rfl) (Gives.inc hE rfl (by have := h74.small; omega)) rfl ?_; clear hE a; intro a hE
                      refine WL.vS hS hE (runs_plain rfl) (Gives.p hE rfl) rfl ?_; clear hE a; intro a hE
                      refine WL.nil ?_
                      subst hK107
                      exact ⟨rest99.length, Nat.lt_succ_self _, rest99, k97 + 1, (mput q106 x98 true), rfl, hd100, hq95, hE.pick _ ⟨rfl, rfl, rfl, rfl, rfl, rfl, rfl, rfl, trivial⟩, hS⟩
              · clear hE hS a w; rintro a w ⟨q106, rfl, hE, hS⟩
                dsimp only at hq55
                refine W.region ?_
                refine WL.vS hS hE (runs_plain rfl) (Gives.inc hE rfl (by have := h0_1.small; omega)) rfl ?_; clear hE a; intro a hE
                refine WL.vS hS hE (runs_plain rfl) (Gives.p hE rfl) rfl ?_; clear hE a; intro a hE
                refine WL.nil ?_
                subst hK67
                exact ⟨rest59.length, Nat.lt_succ_self _, rest59, k57 + 1, q106, rfl, hd60, hq55, hE.pick _ ⟨rfl, rfl, rfl, rfl, rfl, trivial⟩, hS⟩
      · clear hE hS a w; rintro a w ⟨q66, rfl, hE, hS⟩
        dsimp only at hr
        refine W.seq ?_
        refine W.region ?_
        refine WL.vS hS hE (runs_plain rfl) (Gives.p hE rfl) rfl ?_; clear hE a; intro a hE
        refine WL.nil ?_
        refine W.ret ?_
        refine finG (fn := Try.f118) (rs := [.tmp 2]) (vs := [_]) hE rfl ⟨rfl, trivial⟩ ?_
        obtain rfl := Option.some.inj hr
        replace hS := hS.tail
        replace hS := hS.tail
        exact ⟨rfl, hS⟩
set_option maxHeartbeats 8000000 in
theorem FleetBehind_ok  {w : World} {s : Sg} {R : List HP} {x0 : FleetDepot} {a0_0 : Option Addr} {c0_0 : Nat} {a0_1 : Option Addr} {c0_1 : Nat} {x1 : Int} (hS : St w s (R)) (h0_0 : Sl 1 (RI .i64) s a0_0 c0_0 x0.Room) (h0_1 : Sl 1 (RL 1 (RI .i64)) s a0_1 c0_1 x0.Tracks) {r : Int × Int} (hr : FleetBehind x0 x1 = some r) :
    Calls Try.prog 78 [.agg [.slice a0_0 x0.Room.length c0_0, .slice a0_1 x0.Tracks.length c0_1].toArray, .int .i64 x1].toArray w (fun e w => e = .returned (.tuple #[.int .i64 r.1, .int .i64 r.2]) ∧ St w s (R)) := by
  refine enter Try.func78 rfl rfl rfl fun a hE => ?_
  rw [FleetBehind] at hr
  refine W.seq ?_
  refine W.region ?_
  refine WL.box hE hS (runs_plain rfl) rfl rfl rfl ?_; clear hE hS a w; intro b51 a w hE hS
  refine WL.vS hS hE (runs_plain rfl) (Gives.p hE rfl) rfl ?_; clear hE a; intro a hE
  refine WL.vS hS hE (runs_plain rfl) (Gives.p hE rfl) rfl ?_; clear hE a; intro a hE
  refine WL.nil ?_
  refine W.seq ?_
  refine W.seq ?_
  refine W.region ?_
  refine WL.vS hS hE (runs_plain rfl) (Gives.loadBA hE 0 rfl rfl ty109) rfl ?_; clear hE a; intro a hE
  obtain ⟨q52, hq53, hr⟩ := bindS hr
  have hc_ := FleetCheckDepot_ok hS h0_0 h0_1 hq53
  refine WL.fnq hE (hc_) (runs_plain rfl) bd118 rfl rfl rfl ?_
  clear hE hS hc_; rintro e w ⟨rfl, hS⟩; refine ⟨_, rfl, ?_⟩; clear a; intro a hE
  refine WL.vS hS hE (runs_plain rfl) (Gives.p hE rfl) rfl ?_; clear hE a; intro a hE
  refine WL.nil ?_
  refine W.seq ?_
  refine W.region ?_
  refine WL.vS hS hE (runs_plain rfl) (Gives.p hE rfl) rfl ?_; clear hE a; intro a hE
  refine WL.vS hS hE (runs_plain rfl) (Gives.p hE rfl) rfl ?_; clear hE a; intro a hE
  refine WL.nil ?_
  refine W.cond hE rfl (fun hc54 => ?_) (fun hc54 => ?_)
  · replace hr := iteT hc54 hr
    refine W.seq ?_
    refine W.region ?_
    refine WL.vS hS hE (runs_plain rfl) (Gives.p hE rfl) rfl ?_; clear hE a; intro a hE
    refine WL.vS hS hE (runs_plain rfl) (Gives.p hE rfl) rfl ?_; clear hE a; intro a hE
    refine WL.vS hS hE (runs_plain rfl) (Gives.p hE rfl) rfl ?_; clear hE a; intro a hE
    refine WL.nil ?_
    refine W.ret ?_
    refine finG (fn := Try.f78) (rs := [.tmp 4, .tmp 5]) (vs := [_, _]) hE rfl ⟨rfl, rfl, trivial⟩ ?_
    obtain rfl := Option.some.inj hr
    replace hS := hS.tail
    exact ⟨rfl, hS⟩
  · replace hr := iteF hc54 hr
    refine W.skip ?_
    refine W.seq ?_
    refine W.seq ?_
    refine W.region ?_
    refine WL.vS hS hE (runs_plain rfl) (Gives.fld hE rfl fl109_1) rfl ?_; clear hE a; intro a hE
    refine WL.vS hS hE (runs_plain rfl) (Gives.loadB hE 0 rfl rfl rfl ty25) rfl ?_; clear hE a; intro a hE
    refine WL.vS hS hE (runs_plain rfl) (Gives.len hE rfl sl25) rfl ?_; clear hE a; intro a hE
    refine WL.vS hS hE (runs_plain rfl) (Gives.p hE rfl) rfl ?_; clear hE a; intro a hE
    refine WL.nil ?_
    obtain ⟨q56, hq55, hr⟩ := bndS hr
    refine W.cut (fun a w => (.next ()) = q56 ∧ Rep a 33 [] ∧ St w s (pt b51 (.cells #[.slice a0_0 x0.Room.length c0_0, .slice a0_1 x0.Tracks.length c0_1] 109 (0, 0)) :: R)) ?_ ?_
    · refine W.block ?_
      refine W.loop (fun m a w => ∃ (rest59 : List (List Int)) (k57 : Nat), rest59.length = m ∧ x0.Tracks.drop k57 = rest59 ∧ FleetBehind.loop1 x1 rest59 = q56 ∧ Rep a 33 [(1, .int .i64 x1), (16, .slice a0_1 x0.Tracks.length c0_1), (17, .int .i64 ((x0.Tracks).length : Int)), (18, .int .i64 ((k57 : Nat) : Int))] ∧ St w s (pt b51 (.cells #[.slice a0_0 x0.Room.length c0_0, .slice a0_1 x0.Tracks.length c0_1] 109 (0, 0)) :: R)) (m := x0.Tracks.length) ⟨x0.Tracks, 0, rfl, rfl, hq55, hE.pick _ ⟨rfl, rfl, rfl, rfl, trivial⟩, hS⟩ ?_
      clear hE hS a w hq55; rintro m63 a w ⟨rest59, k57, rfl, hd60, hq55, hE, hS⟩
      refine W.gen fun K66 hK66 => ?_
      rcases rest59 with _ | ⟨x58, rest59⟩
      · have hlt61 := drop_nil hd60
        refine W.seq ?_
        refine W.region ?_
        refine WL.vS hS hE (runs_plain rfl) (Gives.p hE rfl) rfl ?_; clear hE a; intro a hE
        refine WL.nil ?_
        refine W.seq ?_
        refine W.condF hE rfl (decide_eq_false (by omega)) ?_
        subst hK66
        refine W.exit rfl ?_
        exact ⟨hq55, hE.pick _ trivial, hS⟩
      · obtain ⟨hlt61, hx62, hd60⟩ := drop_cons hd60
        rw [FleetBehind.loop1] at hq55
        refine W.seq ?_
        refine W.region ?_
        refine WL.vS hS hE (runs_plain rfl) (Gives.p hE rfl) rfl ?_; clear hE a; intro a hE
        refine WL.nil ?_
        refine W.seq ?_
        refine W.condT hE rfl (decide_eq_true (by omega)) ?_
        refine W.skip ?_
        refine W.seq ?_
        refine W.block ?_
        refine W.seq ?_
        refine W.region ?_
        obtain ⟨cs67, hl68, hR69, hat70⟩ := h0_1.at hx62
        obtain ⟨a71, c72, rfl, h73⟩ := hR69
        refine WL.vS hS hE (runs_plain rfl) (Gives.idx hE k57 rfl rfl sl25 rfl hlt61 (h0_1.aok hlt61)) rfl ?_; clear hE a; intro a hE
        refine WL.vS hS hE (runs_plain rfl) (Gives.load1 hE rfl (fun w h => hat70 w _ h) ty44) rfl ?_; clear hE a; intro a hE
        refine WL.vS hS hE (runs_plain rfl) (Gives.p hE rfl) rfl ?_; clear hE a; intro a hE
        refine WL.nil ?_
        refine W.seq ?_
        refine W.region ?_
        refine WL.vS hS hE (runs_plain rfl) (Gives.p hE rfl) rfl ?_; clear hE a; intro a hE
        refine WL.vS hS hE (runs_plain rfl) (Gives.p hE rfl) rfl ?_; clear hE a; intro a hE
        refine WL.fnq hE (SlicesIndexLint_ok hS h73 rfl (r := SlicesIndexLint x58 x1)) (runs_plain rfl) bd71 rfl rfl rfl ?_
        clear hE hS; rintro e w ⟨rfl, hS⟩; refine ⟨_, rfl, ?_⟩; clear a; intro a hE
        refine WL.vS hS hE (runs_plain rfl) (Gives.p hE rfl) rfl ?_; clear hE a; intro a hE
        refine WL.nil ?_
        refine W.seq ?_
        refine W.region ?_
        refine WL.vS hS hE (runs_plain rfl) (Gives.p hE rfl) rfl ?_; clear hE a; intro a hE
        refine WL.vS hS hE (runs_plain rfl) (Gives.p hE rfl) rfl ?_; clear hE a; intro a hE
        refine WL.nil ?_
        refine W.cond hE rfl (fun hc74 => ?_) (fun hc74 => ?_)
        · replace hq55 := iteT hc74 hq55
          refine W.seq ?_
          refine W.region ?_
          refine WL.vS hS hE (runs_plain rfl) (Gives.p hE rfl) rfl ?_; clear hE a; intro a hE
          refine WL.vS hS hE (runs_plain rfl) (Gives.len hE rfl sl44) rfl ?_; clear hE a; intro a hE
          refine WL.vS hS hE (runs_plain rfl) (Gives.p hE rfl) rfl ?_; clear hE a; intro a hE
          refine WL.vS hS hE (runs_plain rfl) (Gives.p hE rfl) rfl ?_; clear hE a; intro a hE
          refine WL.vS hS hE (runs_plain rfl) (Gives.p hE rfl) rfl ?_; clear hE a; intro a hE
          refine WL.vS hS hE (runs_plain rfl) (Gives.p hE rfl) rfl ?_; clear hE a; intro a hE
          refine WL.vS hS hE (runs_plain rfl) (Gives.p hE rfl) rfl ?_; clear hE a; intro a hE
          refine WL.nil ?_
          refine W.ret ?_
          subst hK66
          rw [← hq55] at hr
          dsimp only at hr
          refine finG (fn := Try.f78) (rs := [.tmp 4, .tmp 5]) (vs := [_, _]) hE rfl ⟨rfl, rfl, trivial⟩ ?_
          obtain rfl := Option.some.inj hr
          replace hS := hS.tail
          exact ⟨rfl, hS⟩
        · replace hq55 := iteF hc74 hq55
          refine W.skip ?_
          refine W.region ?_
          refine WL.vS hS hE (runs_plain rfl) (Gives.inc hE rfl (by have := h0_1.small; omega)) rfl ?_; clear hE a; intro a hE
          refine WL.vS hS hE (runs_plain rfl) (Gives.p hE rfl) rfl ?_; clear hE a; intro a hE
          refine WL.nil ?_
          subst hK66
          exact ⟨rest59.length, Nat.lt_succ_self _, rest59, k57 + 1, rfl, hd60, hq55, hE.pick _ ⟨rfl, rfl, rfl, rfl, trivial⟩, hS⟩
    · clear hE hS a w; rintro a w ⟨rfl, hE, hS⟩
      dsimp only at hr
      refine W.seq ?_
      refine W.region ?_
      refine WL.vS hS hE (runs_plain rfl) (Gives.p hE rfl) rfl ?_; clear hE a; intro a hE
      refine WL.vS hS hE (runs_plain rfl) (Gives.p hE rfl) rfl ?_; clear hE a; intro a hE
      refine WL.nil ?_
      refine W.ret ?_
      refine finG (fn := Try.f78) (rs := [.tmp 4, .tmp 5]) (vs := [_, _]) hE rfl ⟨rfl, rfl, trivial⟩ ?_
      obtain rfl := Option.some.inj hr
      replace hS := hS.tail
      exact ⟨rfl, hS⟩
set_option maxHeartbeats 8000000 in
theorem Fishlaw2yards_ok  {w : World} {s : Sg} {R : List HP}  (hS : St w s (R))  {r : Bool} (hr : Fishlaw2yards = some r) :
    Calls Try.prog 29 [].toArray w (fun e w => e = .returned (.bool r) ∧ St w s (R)) := by
  refine enter Try.func29 rfl rfl rfl fun a hE => ?_
  rw [Fishlaw2yards] at hr
  refine W.seq ?_
  refine W.region ?_
  refine WL.vS hS hE (runs_plain rfl) (Gives.p hE rfl) rfl ?_; clear hE a; intro a hE
  refine WL.nil ?_
  refine W.seq ?_
  refine W.region ?_
  refine WL.lit hE hS (e := 3) (es := 1) (vs := [(0, .int .i64 3), (1, .int .i64 1)]) (cs := [.int .i64 3, .int .i64 1]) (runs_plain rfl) rfl (by kernel_rfl) rfl ?_; clear hE hS a w; intro b51 a w hE hS
  replace hS := hS.ptVec (es := 1) (m := 2) rfl (by decide)
  have h53 : Ev 1 (RI .i64) s [.int .i64 3, .int .i64 1] [3, 1] := (Ev.cons (c1 := [.int .i64 3]) rfl rfl (Ev.cons (c1 := [.int .i64 1]) rfl rfl (Ev.nil)))
  have hF := hS.fixD RI.mono 0 rfl h53 (rfl); clear hS; obtain ⟨s54, hle55, hS, h56⟩ := hF
  refine WL.lit hE hS (e := 3) (es := 1) (vs := [(0, .int .i64 0), (1, .int .i64 1)]) (cs := [.int .i64 0, .int .i64 1]) (runs_plain rfl) rfl (by kernel_rfl) rfl ?_; clear hE hS a w; intro b57 a w hE hS
  replace hS := hS.ptVec (es := 1) (m := 2) rfl (by decide)
  have h59 : Ev 1 (RI .i64) s54 [.int .i64 0, .int .i64 1] [0, 1] := (Ev.cons (c1 := [.int .i64 0]) rfl rfl (Ev.cons (c1 := [.int .i64 1]) rfl rfl (Ev.nil)))
  have hF := hS.fixD RI.mono 0 rfl h59 (rfl); clear hS; obtain ⟨s60, hle61, hS, h62⟩ := hF
  replace h56 := Sl.mono RI.mono hle61 h56
  refine WL.lit hE hS (e := 3) (es := 1) (vs := []) (cs := []) (runs_plain rfl) rfl (by kernel_rfl) rfl ?_; clear hE hS a w; intro b63 a w hE hS
  replace hS := hS.ptVec (es := 1) (m := 0) rfl (by decide)
  have h65 : Ev 1 (RI .i64) s60 [] [] := (Ev.nil)
  have hF := hS.fixD RI.mono 0 rfl h65 (rfl); clear hS; obtain ⟨s66, hle67, hS, h68⟩ := hF
  replace h56 := Sl.mono RI.mono hle67 h56
  replace h62 := Sl.mono RI.mono hle67 h62
  refine WL.lit hE hS (e := 44) (es := 1) (vs := [(0, .slice (some ⟨b57, 0, none⟩) 2 2), (1, .slice (some ⟨b63, 0, none⟩) 0 0)]) (cs := [.slice (some ⟨b57, 0, none⟩) 2 2, .slice (some ⟨b63, 0, none⟩) 0 0]) (runs_plain rfl) rfl (by kernel_rfl) rfl ?_; clear hE hS a w; intro b69 a w hE hS
  replace hS := hS.ptVec (es := 1) (m := 2) rfl (by decide)
  have h71 : Ev 1 (RL 1 (RI .i64)) s66 [.slice (some ⟨b57, 0, none⟩) 2 2, .slice (some ⟨b63, 0, none⟩) 0 0] [[0, 1], []] := (Ev.cons (c1 := [.slice (some ⟨b57, 0, none⟩) 2 2]) ⟨_, _, rfl, h62⟩ rfl (Ev.cons (c1 := [.slice (some ⟨b63, 0, none⟩) 0 0]) ⟨_, _, rfl, h68⟩ rfl (Ev.nil)))
  have hF := hS.fixD (RL.mono RI.mono) 0 rfl h71 (rfl); clear hS; obtain ⟨s72, hle73, hS, h74⟩ := hF
  replace h56 := Sl.mono RI.mono hle73 h56
  replace h62 := Sl.mono RI.mono hle73 h62
  replace h68 := Sl.mono RI.mono hle73 h68
  refine WL.vS hS hE (runs_plain rfl) (Gives.build hE (vs := [(0, .slice (some ⟨b51, 0, none⟩) 2 2), (1, .slice (some ⟨b69, 0, none⟩) 2 2)]) [.slice (some ⟨b51, 0, none⟩) 2 2, .slice (some ⟨b69, 0, none⟩) 2 2] rfl (by kernel_rfl)) rfl ?_; clear hE a; intro a hE
  refine WL.alloc hE hS (runs_plain rfl) zr109 rfl ?_; clear hE hS a w; intro b75 a w hE hS
  refine WL.storeI hE hS 0 rfl [.slice (some ⟨b51, 0, none⟩) 2 2, .slice (some ⟨b69, 0, none⟩) 2 2] (runs_plain rfl) rfl rfl rfl ty109 rfl rfl rfl rfl ?_; clear hE hS a w; intro a w hE hS
  refine WL.nil ?_
  refine W.seq ?_
  refine W.region ?_
  refine WL.vS hS hE (runs_plain rfl) (Gives.loadBA hE 0 rfl rfl ty109) rfl ?_; clear hE a; intro a hE
  obtain ⟨q76, hq77, hr⟩ := bindS hr
  have hc_ := FleetBehind_ok hS h56 h74 hq77
  refine WL.fnq hE (hc_) (runs_plain rfl) bd78 rfl rfl rfl ?_
  clear hE hS hc_; rintro e w ⟨rfl, hS⟩; refine ⟨_, rfl, ?_⟩; clear a; intro a hE
  refine WL.vS hS hE (runs_plain rfl) (Gives.p hE rfl) rfl ?_; clear hE a; intro a hE
  refine WL.vS hS hE (runs_plain rfl) (Gives.p hE rfl) rfl ?_; clear hE a; intro a hE
  refine WL.vS hS hE (runs_plain rfl) (Gives.p hE rfl) rfl ?_; clear hE a; intro a hE
  refine WL.vS hS hE (runs_plain rfl) (Gives.p hE rfl) rfl ?_; clear hE a; intro a hE
  refine WL.vS hS hE (runs_plain rfl) (Gives.p hE rfl) rfl ?_; clear hE a; intro a hE
  refine WL.nil ?_
  refine W.seq ?_
  obtain ⟨q79, hq78, hr⟩ := bndS hr
  refine W.cut (fun a w => ∃ (q82 : Bool), q82 = q79 ∧ Rep a 20 [(0, .bool q82)] ∧ St w s72 (pt b75 (.cells #[.slice (some ⟨b51, 0, none⟩) 2 2, .slice (some ⟨b69, 0, none⟩) 2 2] 109 (0, 0)) :: R)) ?_ ?_
  · refine W.gen fun K83 hK83 => ?_
    refine W.region ?_
    refine WL.vS hS hE (runs_plain rfl) (Gives.p hE rfl) rfl ?_; clear hE a; intro a hE
    refine WL.vS hS hE (runs_plain rfl) (Gives.p hE rfl) rfl ?_; clear hE a; intro a hE
    refine WL.vS hS hE (runs_plain rfl) (Gives.p hE rfl) rfl ?_; clear hE a; intro a hE
    rcases Bool.eq_false_or_eq_true (q76.2 == 0) with hg84 | hg84
    · replace hq78 := iteT hg84 hq78
      refine WL.vS hS hE (runs_if hE rfl rfl rfl hg84) (Gives.p hE rfl) rfl ?_; clear hE a; intro a hE
      refine WL.vS hS hE (runs_if hE rfl rfl rfl hg84) (Gives.p hE rfl) rfl ?_; clear hE a; intro a hE
      refine WL.vS hS hE (runs_plain rfl) (Gives.pickT hE rfl hg84 rfl) rfl ?_; clear hE a; intro a hE
      refine WL.vS hS hE (runs_plain rfl) (Gives.p hE rfl) rfl ?_; clear hE a; intro a hE
      refine WL.nil ?_
      subst hK83
      exact ⟨(q76.1 == 1), hq78, hE.pick _ ⟨rfl, trivial⟩, hS⟩
    · replace hq78 := iteF hg84 hq78
      refine WL.no hE (runs_not hE rfl rfl rfl (by rw [hg84]; decide)) rfl ?_; clear hE a; intro a hE
      refine WL.no hE (runs_not hE rfl rfl rfl (by rw [hg84]; decide)) rfl ?_; clear hE a; intro a hE
      refine WL.vS hS hE (runs_plain rfl) (Gives.pickF hE rfl hg84 rfl) rfl ?_; clear hE a; intro a hE
      refine WL.vS hS hE (runs_plain rfl) (Gives.p hE rfl) rfl ?_; clear hE a; intro a hE
      refine WL.nil ?_
      subst hK83
      exact ⟨false, hq78, hE.pick _ ⟨rfl, trivial⟩, hS⟩
  · clear hE hS a w; rintro a w ⟨q82, rfl, hE, hS⟩
    refine W.ret ?_
    refine finG (fn := Try.f29) (rs := [.tmp 0]) (vs := [_]) hE rfl ⟨rfl, trivial⟩ ?_
    obtain rfl := Option.some.inj hr
    replace hS := hS.tail
    exact ⟨rfl, (hS.down (Sg.Le.trans (Sg.Le.trans (Sg.Le.trans hle55 hle61) hle67) hle73))⟩
set_option maxHeartbeats 8000000 in
theorem SlicesEqualLint_ok  {w : World} {s : Sg} {R : List HP} {x0 : List Int} {a0 : Option Addr} {c0 : Nat} {x1 : List Int} {a1 : Option Addr} {c1 : Nat} (hS : St w s (R)) (h0 : Sl 1 (RI .i64) s a0 c0 x0) (h1 : Sl 1 (RI .i64) s a1 c1 x1) {r : Bool} (hr : SlicesEqualLint x0 x1 = some r) :
    Calls Try.prog 30 [.slice a0 x0.length c0, .slice a1 x1.length c1].toArray w (fun e w => e = .returned (.bool r) ∧ St w s (R)) := by
  refine enter Try.func30 rfl rfl rfl fun a hE => ?_
  rw [SlicesEqualLint] at hr
  refine W.seq ?_
  refine W.region ?_
  refine WL.vS hS hE (runs_plain rfl) (Gives.p hE rfl) rfl ?_; clear hE a; intro a hE
  refine WL.nil ?_
  refine W.seq ?_
  refine W.seq ?_
  refine W.region ?_
  refine WL.vS hS hE (runs_plain rfl) (Gives.p hE rfl) rfl ?_; clear hE a; intro a hE
  refine WL.vS hS hE (runs_plain rfl) (Gives.len hE rfl sl44) rfl ?_; clear hE a; intro a hE
  refine WL.vS hS hE (runs_plain rfl) (Gives.p hE rfl) rfl ?_; clear hE a; intro a hE
  refine WL.vS hS hE (runs_plain rfl) (Gives.len hE rfl sl44) rfl ?_; clear hE a; intro a hE
  refine WL.vS hS hE (runs_plain rfl) (Gives.p hE rfl) rfl ?_; clear hE a; intro a hE
  refine WL.nil ?_
  refine W.cond hE rfl (fun hc51 => ?_) (fun hc51 => ?_)
  · replace hr := iteT hc51 hr
    refine W.seq ?_
    refine W.region ?_
    refine WL.vS hS hE (runs_plain rfl) (Gives.p hE rfl) rfl ?_; clear hE a; intro a hE
    refine WL.nil ?_
    refine W.ret ?_
    refine finG (fn := Try.f30) (rs := [.tmp 4]) (vs := [_]) hE rfl ⟨rfl, trivial⟩ ?_
    obtain rfl := Option.some.inj hr
    exact ⟨rfl, hS⟩
  · replace hr := iteF hc51 hr
    refine W.skip ?_
    refine W.seq ?_
    refine W.seq ?_
    refine W.region ?_
    refine WL.vS hS hE (runs_plain rfl) (Gives.p hE rfl) rfl ?_; clear hE a; intro a hE
    refine WL.vS hS hE (runs_plain rfl) (Gives.len hE rfl sl44) rfl ?_; clear hE a; intro a hE
    refine WL.vS hS hE (runs_plain rfl) (Gives.p hE rfl) rfl ?_; clear hE a; intro a hE
    refine WL.nil ?_
    obtain ⟨q53, hq52, hr⟩ := bindS hr
    refine W.cut (fun a w => (.next ()) = q53 ∧ Rep a 26 [] ∧ St w s (R)) ?_ ?_
    · refine W.block ?_
      refine W.loop (fun m a w => ∃ (rest56 : List Int) (k54 : Nat), rest56.length = m ∧ x0.drop k54 = rest56 ∧ SlicesEqualLint.loop1 x1 rest56 k54 = some q53 ∧ Rep a 26 [(0, .slice a0 x0.length c0), (1, .slice a1 x1.length c1), (12, .int .i64 ((x0).length : Int)), (13, .int .i64 ((k54 : Nat) : Int))] ∧ St w s (R)) (m := x0.length) ⟨x0, 0, rfl, rfl, hq52, hE.pick _ ⟨rfl, rfl, rfl, rfl, trivial⟩, hS⟩ ?_
      clear hE hS a w hq52; rintro m60 a w ⟨rest56, k54, rfl, hd57, hq52, hE, hS⟩
      refine W.gen fun K63 hK63 => ?_
      rcases rest56 with _ | ⟨x55, rest56⟩
      · have hlt58 := drop_nil hd57
        refine W.seq ?_
        refine W.region ?_
        refine WL.vS hS hE (runs_plain rfl) (Gives.p hE rfl) rfl ?_; clear hE a; intro a hE
        refine WL.nil ?_
        refine W.seq ?_
        refine W.condF hE rfl (decide_eq_false (by omega)) ?_
        subst hK63
        refine W.exit rfl ?_
        exact ⟨Option.some.inj hq52, hE.pick _ trivial, hS⟩
      · obtain ⟨hlt58, hx59, hd57⟩ := drop_cons hd57
        rw [SlicesEqualLint.loop1] at hq52
        refine W.seq ?_
        refine W.region ?_
        refine WL.vS hS hE (runs_plain rfl) (Gives.p hE rfl) rfl ?_; clear hE a; intro a hE
        refine WL.nil ?_
        refine W.seq ?_
        refine W.condT hE rfl (decide_eq_true (by omega)) ?_
        refine W.skip ?_
        refine W.seq ?_
        refine W.block ?_
        refine W.seq ?_
        refine W.region ?_
        refine WL.vS hS hE (runs_plain rfl) (Gives.p hE rfl) rfl ?_; clear hE a; intro a hE
        refine WL.vS hS hE (runs_plain rfl) (Gives.p hE rfl) rfl ?_; clear hE a; intro a hE
        refine WL.nil ?_
        refine W.seq ?_
        refine W.regionQ (C := fun w => St w s (R)) mixed (by kernel_rfl) hS.drew ?_
        refine QL.v hE (runs_plain rfl) (Gives.p hE rfl) rfl ?_; clear hE a; intro a hE
        refine QL.v hE (runs_plain rfl) (Gives.p hE rfl) rfl ?_; clear hE a; intro a hE
        obtain ⟨cs64, hl65, hR66, hat67⟩ := h0.at hx59
        subst hR66
        refine QL.v hE (runs_plain rfl) (Gives.idx hE k54 rfl rfl sl44 rfl hlt58 (h0.aok hlt58)) rfl ?_; clear hE a; intro a hE
        refine QL.v hE (runs_plain rfl) (Gives.load1 hE rfl (fun w h => hat67 w _ h) ty3) rfl ?_; clear hE a; intro a hE
        refine QL.v hE (runs_plain rfl) (Gives.p hE rfl) rfl ?_; clear hE a; intro a hE
        refine QL.v hE (runs_plain rfl) (Gives.p hE rfl) rfl ?_; clear hE a; intro a hE
        obtain ⟨x68, hx69, hq52⟩ := bindS hq52
        obtain ⟨hi70, hlt71, hy72⟩ := gx_some hx69
        obtain ⟨cs73, hl74, hR75, hat76⟩ := h1.at hy72
        subst hR75
        refine QL.v hE (runs_plain rfl) (Gives.idx hE (((k54 : Nat) : Int)).toNat rfl rfl sl44 hi70 hlt71 (h1.aok hlt71)) rfl ?_; clear hE a; intro a hE
        refine QL.v hE (runs_plain rfl) (Gives.load1 hE rfl (fun w h => hat76 w _ h) ty3) rfl ?_; clear hE a; intro a hE
        refine QL.v hE (runs_plain rfl) (Gives.p hE rfl) rfl ?_; clear hE a; intro a hE
        refine QL.nil ?_; clear hS w; intro w hS
        refine W.cond hE rfl (fun hc77 => ?_) (fun hc77 => ?_)
        · replace hq52 := iteT hc77 hq52
          refine W.seq ?_
          refine W.region ?_
          refine WL.vS hS hE (runs_plain rfl) (Gives.p hE rfl) rfl ?_; clear hE a; intro a hE
          refine WL.nil ?_
          refine W.ret ?_
          subst hK63
          rw [← Option.some.inj hq52] at hr
          dsimp only at hr
          refine finG (fn := Try.f30) (rs := [.tmp 4]) (vs := [_]) hE rfl ⟨rfl, trivial⟩ ?_
          obtain rfl := Option.some.inj hr
          exact ⟨rfl, hS⟩
        · replace hq52 := iteF hc77 hq52
          refine W.skip ?_
          refine W.region ?_
          refine WL.vS hS hE (runs_plain rfl) (Gives.inc hE rfl (by have := h0.small; omega)) rfl ?_; clear hE a; intro a hE
          refine WL.vS hS hE (runs_plain rfl) (Gives.p hE rfl) rfl ?_; clear hE a; intro a hE
          refine WL.nil ?_
          subst hK63
          exact ⟨rest56.length, Nat.lt_succ_self _, rest56, k54 + 1, rfl, hd57, hq52, hE.pick _ ⟨rfl, rfl, rfl, rfl, trivial⟩, hS⟩
    · clear hE hS a w; rintro a w ⟨rfl, hE, hS⟩
      dsimp only at hr
      refine W.seq ?_
      refine W.region ?_
      refine WL.vS hS hE (runs_plain rfl) (Gives.p hE rfl) rfl ?_; clear hE a; intro a hE
      refine WL.nil ?_
      refine W.ret ?_
      refine finG (fn := Try.f30) (rs := [.tmp 4]) (vs := [_]) hE rfl ⟨rfl, trivial⟩ ?_
      obtain rfl := Option.some.inj hr
      exact ⟨rfl, hS⟩
end Go.Proofs.Ytfhkpdnohcidgaa
