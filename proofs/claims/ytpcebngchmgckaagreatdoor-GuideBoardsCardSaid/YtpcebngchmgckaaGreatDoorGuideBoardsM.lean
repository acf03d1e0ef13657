/- The mirrors of the functions that GuideBoards reaches: plain Lean functions on data. No condition. -/
import Derived.Test.YtpcebngchmgckaaGreatDoorFpAllX
import Derived.Test.YtpcebngchmgckaaGreatDoorFpInD
import Derived.Test.YtpcebngchmgckaaGreatDoorFpMapG
import Derived.Test.YtpcebngchmgckaaGreatDoorFpMaps
import Derived.Test.YtpcebngchmgckaaGreatDoorFpOrc
namespace Go.Fp
structure ApiStop where
  Station : Int
  Track : Int
  Arr : Int
  Dep : Int
  deriving DecidableEq, Inhabited
-- ApiStop is of one size
def InApiStop (x : ApiStop) : Prop := inI x.Station ∧ inI x.Track ∧ inI x.Arr ∧ inI x.Dep
def ApiStop.cells (x : ApiStop) : List Go.Value := [.int .i64 x.Station, .int .i64 x.Track, .int .i64 x.Arr, .int .i64 x.Dep]
def RApiStop : Rd ApiStop := fun _ cs x => cs = x.cells
theorem RApiStop.mono : Rmono RApiStop := fun _ _ _ _ _ h => h
theorem RApiStop.one : Rone RApiStop := by intro s cs x h; subst h; rfl

structure ApiTrain where
  No : Int
  Stock : Int
  Stops : List ApiStop
  Legs : List (List Int)
  deriving DecidableEq, Inhabited
def szApiTrain (x : ApiTrain) : Nat := (szL sz1) x.Stops + (szL (szL sz1)) x.Legs + 1
def InApiTrain (x : ApiTrain) : Prop := inI x.No ∧ inI x.Stock ∧ (inL InApiStop) x.Stops ∧ (inL (inL inI)) x.Legs
def RApiTrain : Rd ApiTrain := fun s cs x => ∃ a0 c0 a1 c1, cs = [.int .i64 x.No, .int .i64 x.Stock, .slice a0 x.Stops.length c0, .slice a1 x.Legs.length c1] ∧ Sl 4 RApiStop s a0 c0 x.Stops ∧ Sl 1 (RL 1 (RI .i64)) s a1 c1 x.Legs
theorem RApiTrain.one : Rone RApiTrain := by rintro s cs x ⟨a0, c0, a1, c1, rfl, _⟩; rfl
theorem RApiTrain.mono : Rmono RApiTrain := fun _ _ h _ _ ⟨a0, c0, a1, c1, e, h0, h1⟩ => ⟨a0, c0, a1, c1, e, h0.mono RApiStop.mono h, h1.mono (RL.mono RI.mono) h⟩

structure ApiDay where
  Trains : List ApiTrain
  Turns : List (List Int)
  deriving DecidableEq, Inhabited
def szApiDay (x : ApiDay) : Nat := (szL szApiTrain) x.Trains + (szL (szL sz1)) x.Turns + 1
def InApiDay (x : ApiDay) : Prop := (inL InApiTrain) x.Trains ∧ (inL (inL inI)) x.Turns
def RApiDay : Rd ApiDay := fun s cs x => ∃ a0 c0 a1 c1, cs = [.slice a0 x.Trains.length c0, .slice a1 x.Turns.length c1] ∧ Sl 4 RApiTrain s a0 c0 x.Trains ∧ Sl 1 (RL 1 (RI .i64)) s a1 c1 x.Turns
theorem RApiDay.one : Rone RApiDay := by rintro s cs x ⟨a0, c0, a1, c1, rfl, _⟩; rfl
theorem RApiDay.mono : Rmono RApiDay := fun _ _ h _ _ ⟨a0, c0, a1, c1, e, h0, h1⟩ => ⟨a0, c0, a1, c1, e, h0.mono RApiTrain.mono h, h1.mono (RL.mono RI.mono) h⟩

structure Ar3i64 where
  f0 : Int
  f1 : Int
  f2 : Int
  deriving DecidableEq, Inhabited
-- Ar3i64 is of one size
def Ar3i64.cells (x : Ar3i64) : List Go.Value := [.int .i64 x.f0, .int .i64 x.f1, .int .i64 x.f2]
def RAr3i64 : Rd Ar3i64 := fun _ cs x => cs = x.cells
theorem RAr3i64.mono : Rmono RAr3i64 := fun _ _ _ _ _ h => h
theorem RAr3i64.one : Rone RAr3i64 := by intro s cs x h; subst h; rfl

structure GuideLine where
  Time : Int
  Late : Int
  No : Int
  To : Int
  Track : Int
  Ends : Bool
  deriving DecidableEq, Inhabited
-- GuideLine is of one size
def InGuideLine (x : GuideLine) : Prop := inI x.Time ∧ inI x.Late ∧ inI x.No ∧ inI x.To ∧ inI x.Track ∧ inA x.Ends
def GuideLine.cells (x : GuideLine) : List Go.Value := [.int .i64 x.Time, .int .i64 x.Late, .int .i64 x.No, .int .i64 x.To, .int .i64 x.Track, .bool x.Ends]
def RGuideLine : Rd GuideLine := fun _ cs x => cs = x.cells
theorem RGuideLine.mono : Rmono RGuideLine := fun _ _ _ _ _ h => h
theorem RGuideLine.one : Rone RGuideLine := by intro s cs x h; subst h; rfl

structure Fishref2Row where
  Line : GuideLine
  stop : Int
  deriving DecidableEq, Inhabited
-- Fishref2Row is of one size
def InFishref2Row (x : Fishref2Row) : Prop := InGuideLine x.Line ∧ inI x.stop
def Fishref2Row.cells (x : Fishref2Row) : List Go.Value := [.int .i64 x.Line.Time, .int .i64 x.Line.Late, .int .i64 x.Line.No, .int .i64 x.Line.To, .int .i64 x.Line.Track, .bool x.Line.Ends, .int .i64 x.stop]
def RFishref2Row : Rd Fishref2Row := fun _ cs x => cs = x.cells
theorem RFishref2Row.mono : Rmono RFishref2Row := fun _ _ _ _ _ h => h
theorem RFishref2Row.one : Rone RFishref2Row := by intro s cs x h; subst h; rfl

structure GuideRide where
  Train : Int
  On : Int
  Off : Int
  deriving DecidableEq, Inhabited
-- GuideRide is of one size
def InGuideRide (x : GuideRide) : Prop := inI x.Train ∧ inI x.On ∧ inI x.Off
def GuideRide.cells (x : GuideRide) : List Go.Value := [.int .i64 x.Train, .int .i64 x.On, .int .i64 x.Off]
def RGuideRide : Rd GuideRide := fun _ cs x => cs = x.cells
theorem RGuideRide.mono : Rmono RGuideRide := fun _ _ _ _ _ h => h
theorem RGuideRide.one : Rone RGuideRide := by intro s cs x h; subst h; rfl

structure GuideJourney where
  Rides : List GuideRide
  deriving DecidableEq, Inhabited
def szGuideJourney (x : GuideJourney) : Nat := (szL sz1) x.Rides + 1
def InGuideJourney (x : GuideJourney) : Prop := (inL InGuideRide) x.Rides
def RGuideJourney : Rd GuideJourney := fun s cs x => ∃ a0 c0, cs = [.slice a0 x.Rides.length c0] ∧ Sl 3 RGuideRide s a0 c0 x.Rides
theorem RGuideJourney.one : Rone RGuideJourney := by rintro s cs x ⟨a0, c0, rfl, _⟩; rfl
theorem RGuideJourney.mono : Rmono RGuideJourney := fun _ _ h _ _ ⟨a0, c0, e, h0⟩ => ⟨a0, c0, e, h0.mono RGuideRide.mono h⟩

structure GuideNet where
  Day : ApiDay
  least : Int
  deriving DecidableEq, Inhabited
def szGuideNet (x : GuideNet) : Nat := szApiDay x.Day + 1
def InGuideNet (x : GuideNet) : Prop := InApiDay x.Day ∧ inI x.least
def RGuideNet : Rd GuideNet := fun s cs x => ∃ a0 c0 a1 c1, cs = [.slice a0 x.Day.Trains.length c0, .slice a1 x.Day.Turns.length c1, .int .i64 x.least] ∧ Sl 4 RApiTrain s a0 c0 x.Day.Trains ∧ Sl 1 (RL 1 (RI .i64)) s a1 c1 x.Day.Turns
theorem RGuideNet.one : Rone RGuideNet := by rintro s cs x ⟨a0, c0, a1, c1, rfl, _⟩; rfl
theorem RGuideNet.mono : Rmono RGuideNet := fun _ _ h _ _ ⟨a0, c0, a1, c1, e, h0, h1⟩ => ⟨a0, c0, a1, c1, e, h0.mono RApiTrain.mono h, h1.mono (RL.mono RI.mono) h⟩

structure GuidePlace where
  train : Int
  off : Int
  deriving DecidableEq, Inhabited
-- GuidePlace is of one size
def InGuidePlace (x : GuidePlace) : Prop := inI x.train ∧ inI x.off
def GuidePlace.cells (x : GuidePlace) : List Go.Value := [.int .i64 x.train, .int .i64 x.off]
def RGuidePlace : Rd GuidePlace := fun _ cs x => cs = x.cells
theorem RGuidePlace.mono : Rmono RGuidePlace := fun _ _ _ _ _ h => h
theorem RGuidePlace.one : Rone RGuidePlace := by intro s cs x h; subst h; rfl

structure GuidePoint where
  Dep : Int
  Arr : Int
  Rides : Int
  deriving DecidableEq, Inhabited
-- GuidePoint is of one size
def InGuidePoint (x : GuidePoint) : Prop := inI x.Dep ∧ inI x.Arr ∧ inI x.Rides
def GuidePoint.cells (x : GuidePoint) : List Go.Value := [.int .i64 x.Dep, .int .i64 x.Arr, .int .i64 x.Rides]
def RGuidePoint : Rd GuidePoint := fun _ cs x => cs = x.cells
theorem RGuidePoint.mono : Rmono RGuidePoint := fun _ _ _ _ _ h => h
theorem RGuidePoint.one : Rone RGuidePoint := by intro s cs x h; subst h; rfl

structure GuideRow where
  Line : GuideLine
  stop : Int
  deriving DecidableEq, Inhabited
-- GuideRow is of one size
def InGuideRow (x : GuideRow) : Prop := InGuideLine x.Line ∧ inI x.stop
def GuideRow.cells (x : GuideRow) : List Go.Value := [.int .i64 x.Line.Time, .int .i64 x.Line.Late, .int .i64 x.Line.No, .int .i64 x.Line.To, .int .i64 x.Line.Track, .bool x.Line.Ends, .int .i64 x.stop]
def RGuideRow : Rd GuideRow := fun _ cs x => cs = x.cells
theorem RGuideRow.mono : Rmono RGuideRow := fun _ _ _ _ _ h => h
theorem RGuideRow.one : Rone RGuideRow := by intro s cs x h; subst h; rfl
def Planform.loop2 : (List (List Int)) → Out Int Unit
  | [] => (.next ())
  | x94 :: rest95 => (if (((x94).length : Int) == 0) then (.ret 1) else Planform.loop2 rest95)
def Planform.loop3 : (List (List Int)) → Out Int Unit
  | [] => (.next ())
  | x115 :: rest116 => (if decide (((x115).length : Int) > 4) then (.ret 4) else Planform.loop3 rest116)
def Planform.loop1 : (List ApiTrain) → Out Int Unit
  | [] => (.next ())
  | x63 :: rest64 => (bnd ((if (((x63.Stops).length : Int) == 0) then true else (((x63.Legs).length : Int) != (w64 (((x63.Stops).length : Int) - 1)))) : Bool) fun q87 => (if q87 then (.ret 1) else (bnd (Planform.loop2 x63.Legs) fun q92 => match q92 with | .ret r => (.ret r) | .next () => (if decide (((x63.Stops).length : Int) > 8) then (.ret 4) else (bnd (Planform.loop3 x63.Legs) fun q113 => match q113 with | .ret r => (.ret r) | .next () => Planform.loop1 rest64)))))
def Planform.loop4 : (List (List Int)) → Out Int Unit
  | [] => (.next ())
  | x135 :: rest136 => (if (((x135).length : Int) == 0) then (.ret 1) else (if decide (((x135).length : Int) > 12) then (.ret 4) else Planform.loop4 rest136))
def Planform (x0 : ApiDay) : Int := (bnd ((if decide (((x0.Trains).length : Int) > 12) then true else decide (((x0.Turns).length : Int) > 8)) : Bool) fun q56 => (if q56 then 4 else (bnd (Planform.loop1 x0.Trains) fun q61 => match q61 with | .ret r => r | .next () => (bnd (Planform.loop4 x0.Turns) fun q133 => match q133 with | .ret r => r | .next () => 0))))
def Planwithin (x0 : Int) (x1 : Int) (x2 : Int) : Bool := (bnd ((if decide (x0 ≥ x1) then decide (x0 ≤ x2) else false) : Bool) fun q55 => q55)
def Plansentence.loop1 : (List Int) → ByteArray → Option ByteArray
  | [], q62 => some q62
  | x54 :: rest55, q62 => ((itoa x54).bind fun q68 => ((scat (str [32]) q68).bind fun x70 => ((scat q62 x70).bind fun x72 => Plansentence.loop1 rest55 x72)))
def Plansentence (x0 : ByteArray) (x1 : List Int) : Option ByteArray := ((Plansentence.loop1 x1 x0).bind fun q62 => ((scat q62 (str [10])).bind fun x74 => some x74))
def PlanText_1_v1.loop1 : (List Int) → Bool → Bool
  | [], q64 => q64
  | x56 :: rest57, q64 => (bnd ((if q64 then (Planwithin x56 0 999999) else false) : Bool) fun q74 => PlanText_1_v1.loop1 rest57 q74)
def PlanText_1_v1 (x0 : ByteArray) (x1 : List Int) (y0 : Bool) (y1_0 : ByteArray) : Option (Bool × ByteArray) := (bnd (PlanText_1_v1.loop1 x1 y0) fun q64 => ((Plansentence x0 x1).bind fun q77 => ((sbw y1_0 q77).bind fun q79 => some (q64, q79))))
def PlanText.loop2 : (List ApiStop) → ByteArray → Bool → Option (ByteArray × Bool)
  | [], q99, q100 => some (q99, q100)
  | x91 :: rest92, q99, q100 => ((PlanText_1_v1 (str [115, 116, 111, 112]) [x91.Station, x91.Track, x91.Arr, x91.Dep] q100 q99).bind fun q113 => PlanText.loop2 rest92 q113.2 q113.1)
def PlanText.loop3 : (List (List Int)) → ByteArray → Bool → Option (ByteArray × Bool)
  | [], q126, q127 => some (q126, q127)
  | x118 :: rest119, q126, q127 => ((PlanText_1_v1 (str [108, 101, 103]) x118 q127 q126).bind fun q136 => PlanText.loop3 rest119 q136.2 q136.1)
def PlanText.loop1 : (List ApiTrain) → ByteArray → Bool → Option (ByteArray × Bool)
  | [], q66, q67 => some (q66, q67)
  | x58 :: rest59, q66, q67 => ((PlanText_1_v1 (str [116, 114, 97, 105, 110]) [x58.No, x58.Stock] q67 q66).bind fun q86 => ((PlanText.loop2 x58.Stops q86.2 q86.1).bind fun q89 => match q89 with | (q99, q100) => ((PlanText.loop3 x58.Legs q99 q100).bind fun q116 => match q116 with | (q126, q127) => PlanText.loop1 rest59 q126 q127)))
def PlanText.loop4 : (List (List Int)) → ByteArray → Bool → Option (ByteArray × Bool)
  | [], q149, q150 => some (q149, q150)
  | x141 :: rest142, q149, q150 => ((PlanText_1_v1 (str [116, 117, 114, 110]) x141 q150 q149).bind fun q159 => PlanText.loop4 rest142 q159.2 q159.1)
def PlanText (x0 : ApiDay) : Option (ByteArray × Int) := (if ((Planform x0) != 0) then some ((str []), (Planform x0)) else ((PlanText.loop1 x0.Trains ByteArray.empty true).bind fun q56 => match q56 with | (q66, q67) => ((PlanText.loop4 x0.Turns q66 q67).bind fun q139 => match q139 with | (q149, q150) => (if !q150 then some ((str []), 2) else some (q149, 0)))))
def Guidewithin (x0 : Int) (x1 : Int) (x2 : Int) : Bool := (bnd ((if decide (x0 ≥ x1) then decide (x0 ≤ x2) else false) : Bool) fun q55 => q55)
def GuideCheck.loop2 (x59 : ApiTrain) : (List ApiStop) → Nat → Option (Out Int Unit)
  | [], _ => some (.next ())
  | x86 :: rest87, k85 => (bnd ((if !(Guidewithin x86.Station 0 11) then true else (if !(Guidewithin x86.Arr 0 28800) then true else !(Guidewithin x86.Dep 0 28800))) : Bool) fun q104 => (if q104 then some (.ret 2) else (((if decide (x86.Dep < x86.Arr) then some true else (if decide (((k85 : Nat) : Int) > 0) then ((gx x59.Stops (w64 (((k85 : Nat) : Int) - 1))).bind fun x117 => some (decide (x86.Arr ≤ x117.Dep))) else some false)) : Option Bool).bind fun q113 => (if q113 then some (.ret 5) else GuideCheck.loop2 x59 rest87 (k85 + 1)))))
def GuideCheck.loop1 : (List ApiTrain) → (List (Int × Bool)) → Option (Out Int (List (Int × Bool)))
  | [], q67 => some (.next q67)
  | x59 :: rest60, q67 => (if !(Guidewithin x59.No 1 9999) then some (.ret 2) else (if ((mget q67 x59.No).getD false) then some (.ret 6) else (if decide (((x59.Stops).length : Int) < 2) then some (.ret 1) else ((GuideCheck.loop2 x59 x59.Stops 0).bind fun q84 => match q84 with | .ret r => some (.ret r) | .next () => GuideCheck.loop1 rest60 (mput q67 x59.No true)))))
def GuideCheck (x0 : ApiDay) : Option Int := ((PlanText x0).bind fun q52 => (if (q52.2 != 0) then some q52.2 else ((GuideCheck.loop1 x0.Trains []).bind fun q57 => match q57 with | .ret r => some r | .next _ => some 0)))
def GuideBoard_1_v1.loop1 (x0 : ApiTrain) (x1 : Bool) (y0 : Int) (y1_0 : List (Int × ApiTrain)) (y2 : Int) : (List ApiStop) → Nat → (List GuideRow) → Option (List GuideRow)
  | [], _, q79 => some q79
  | x71 :: rest72, k70, q79 => (if (x71.Station != y0) then GuideBoard_1_v1.loop1 x0 x1 y0 y1_0 y2 rest72 (k70 + 1) q79 else ((gx x0.Stops (w64 (((x0.Stops).length : Int) - 1))).bind fun x94 => (((if x1 then some (x71.Dep, 0, (-1)) else (bnd ((mget y1_0 x0.No).getD (ApiTrain.mk 0 0 [] [])) fun x113 => (((if decide (((k70 : Nat) : Int) < ((x113.Stops).length : Int)) then ((gx x113.Stops ((k70 : Nat) : Int)).bind fun x131 => some (x131.Station == y0)) else some false) : Option Bool).bind fun q128 => (((if q128 then ((gx x113.Stops ((k70 : Nat) : Int)).bind fun x148 => some (x148.Dep, mx 0 (w64 (x71.Dep - x148.Dep)))) else some (x71.Dep, 0)) : Option (Int × Int)).bind fun q141 => match q141 with | (q144, q145) => some (q144, q145, x71.Track))))) : Option (Int × Int × Int)).bind fun q105 => match q105 with | (q108, q109, q110) => (((if decide ((w64 (q108 + q109)) ≥ y2) then ((apd q79 [(GuideRow.mk (GuideLine.mk q108 q109 x0.No x94.Station q110 x1) ((k70 : Nat) : Int))]).bind fun x171 => some x171) else some q79) : Option (List GuideRow)).bind fun q161 => GuideBoard_1_v1.loop1 x0 x1 y0 y1_0 y2 rest72 (k70 + 1) q161))))
def GuideBoard_1_v1 (x0 : ApiTrain) (x1 : Bool) (y0 : Int) (y1_0 : List (Int × ApiTrain)) (y2 : Int) (y3 : List GuideRow) : Option (List GuideRow) := ((cutl x0.Stops 0 (w64 (((x0.Stops).length : Int) - 1))).bind fun x59 => ((GuideBoard_1_v1.loop1 x0 x1 y0 y1_0 y2 x59 0 y3).bind fun q79 => some q79))
def CmpisNaNint (x0 : Int) : Bool := (x0 != x0)
def CmpCompareint (x0 : Int) (x1 : Int) : Int := (if (CmpisNaNint x0) then (if (CmpisNaNint x1) then 0 else (-1)) else (if (CmpisNaNint x1) then 1 else (if decide (x0 < x1) then (-1) else (if decide (x0 > x1) then 1 else 0))))
def CmpOrint.loop1 : (List Int) → Out Int Unit
  | [] => (.next ())
  | x54 :: rest55 => (if (x54 != 0) then (.ret x54) else CmpOrint.loop1 rest55)
def CmpOrint (x0 : List Int) : Int := (bnd (CmpOrint.loop1 x0) fun q52 => match q52 with | .ret r => r | .next () => 0)
def GuideBoard_2 (x0 : GuideRow) (x1 : GuideRow) : Int := (CmpOrint [(CmpCompareint x0.Line.Time x1.Line.Time), (CmpCompareint x0.Line.No x1.Line.No), (CmpCompareint x0.stop x1.stop)])
def SlicesinsertionSortCmpFuncguiderow_v1.loop2 (x1 : Int) : Nat → Int → (List GuideRow) → Option (Int × (List GuideRow))
  | 0, _, _ => none
  | n74 + 1, q78, q79 => (((if decide (q78 > x1) then ((gx q79 q78).bind fun x93 => ((gx q79 (w64 (q78 - 1))).bind fun x103 => some (decide ((GuideBoard_2 x93 x103) < 0)))) else some false) : Option Bool).bind fun q90 => (if q90 then ((gx q79 (w64 (q78 - 1))).bind fun x115 => ((gx q79 q78).bind fun x125 => ((ix q79 q78).bind fun _ => ((sx q79 q78 x115).bind fun x140 => ((ix x140 (w64 (q78 - 1))).bind fun _ => ((sx x140 (w64 (q78 - 1)) x125).bind fun x150 => SlicesinsertionSortCmpFuncguiderow_v1.loop2 x1 n74 (w64 (q78 - 1)) x150)))))) else some (q78, q79)))
def SlicesinsertionSortCmpFuncguiderow_v1.loop1 (x1 : Int) (x2 : Int) (fu : Nat) : Nat → Int → (List GuideRow) → Option (Int × (List GuideRow))
  | 0, _, _ => none
  | n59 + 1, q63, q64 => (if decide (q63 < x2) then ((SlicesinsertionSortCmpFuncguiderow_v1.loop2 x1 fu q63 q64).bind fun q73 => match q73 with | (_, q79) => SlicesinsertionSortCmpFuncguiderow_v1.loop1 x1 x2 fu n59 (w64 (q63 + 1)) q79) else some (q63, q64))
def SlicesinsertionSortCmpFuncguiderow_v1 (fu : Nat) (x0 : List GuideRow) (x1 : Int) (x2 : Int) : Option (List GuideRow) := ((SlicesinsertionSortCmpFuncguiderow_v1.loop1 x1 x2 fu fu (w64 (x1 + 1)) x0).bind fun q58 => match q58 with | (_, q64) => some q64)
def SlicesswapRangeCmpFuncguiderow_v1.loop1 (x1 : Int) (x2 : Int) (x3 : Int) : Nat → Int → (List GuideRow) → Option (Int × (List GuideRow))
  | 0, _, _ => none
  | n59 + 1, q63, q64 => (if decide (q63 < x3) then ((gx q64 (w64 (x2 + q63))).bind fun x73 => ((gx q64 (w64 (x1 + q63))).bind fun x83 => ((ix q64 (w64 (x1 + q63))).bind fun _ => ((sx q64 (w64 (x1 + q63)) x73).bind fun x98 => ((ix x98 (w64 (x2 + q63))).bind fun _ => ((sx x98 (w64 (x2 + q63)) x83).bind fun x108 => SlicesswapRangeCmpFuncguiderow_v1.loop1 x1 x2 x3 n59 (w64 (q63 + 1)) x108)))))) else some (q63, q64))
def SlicesswapRangeCmpFuncguiderow_v1 (fu : Nat) (x0 : List GuideRow) (x1 : Int) (x2 : Int) (x3 : Int) : Option (List GuideRow) := ((SlicesswapRangeCmpFuncguiderow_v1.loop1 x1 x2 x3 fu 0 x0).bind fun q58 => match q58 with | (_, q64) => some q64)
def SlicesrotateCmpFuncguiderow_v1.loop1 (x2 : Int) (fu : Nat) : Nat → Int → Int → (List GuideRow) → Option (Int × Int × (List GuideRow))
  | 0, _, _, _ => none
  | n59 + 1, q63, q64, q65 => (if (q63 != q64) then (((if decide (q63 > q64) then ((SlicesswapRangeCmpFuncguiderow_v1 fu q65 (w64 (x2 - q63)) x2 q64).bind fun q87 => some (w64 (q63 - q64), q64, q87)) else ((SlicesswapRangeCmpFuncguiderow_v1 fu q65 (w64 (x2 - q63)) (w64 ((w64 (x2 + q64)) - q63)) q63).bind fun q92 => some (q63, w64 (q64 - q63), q92))) : Option (Int × Int × (List GuideRow))).bind fun q74 => match q74 with | (q77, q78, q79) => SlicesrotateCmpFuncguiderow_v1.loop1 x2 fu n59 q77 q78 q79) else some (q63, q64, q65))
def SlicesrotateCmpFuncguiderow_v1 (fu : Nat) (x0 : List GuideRow) (x1 : Int) (x2 : Int) (x3 : Int) : Option (List GuideRow) := ((SlicesrotateCmpFuncguiderow_v1.loop1 x2 fu fu (w64 (x2 - x1)) (w64 (x3 - x2)) x0).bind fun q58 => match q58 with | (q63, _, q65) => ((SlicesswapRangeCmpFuncguiderow_v1 fu q65 (w64 (x2 - q63)) x2 q63).bind fun q97 => some q97))
def SlicessymMergeCmpFuncguiderow_v1.loop1 (x0 : List GuideRow) (x1 : Int) : Nat → Int → Int → Option (Int × Int)
  | 0, _, _ => none
  | n60 + 1, q64, q65 => (if decide (q64 < q65) then ((gx x0 (w64 (Int.fdiv (IntKind.wrap .u64 (w64 (q64 + q65))) (2 ^ (min (Int.toNat 1) (IntKind.bits .u64)))))).bind fun x68 => ((gx x0 x1).bind fun x78 => (bnd ((if decide ((GuideBoard_2 x68 x78) < 0) then (w64 ((w64 (Int.fdiv (IntKind.wrap .u64 (w64 (q64 + q65))) (2 ^ (min (Int.toNat 1) (IntKind.bits .u64))))) + 1), q65) else (q64, w64 (Int.fdiv (IntKind.wrap .u64 (w64 (q64 + q65))) (2 ^ (min (Int.toNat 1) (IntKind.bits .u64)))))) : Int × Int) fun q89 => match q89 with | (q92, q93) => SlicessymMergeCmpFuncguiderow_v1.loop1 x0 x1 n60 q92 q93))) else some (q64, q65))
def SlicessymMergeCmpFuncguiderow_v1.loop2 (q64 : Int) : Nat → Int → (List GuideRow) → Option (Int × (List GuideRow))
  | 0, _, _ => none
  | n98 + 1, q102, q103 => (if decide (q102 < (w64 (q64 - 1))) then ((gx q103 (w64 (q102 + 1))).bind fun x112 => ((gx q103 q102).bind fun x122 => ((ix q103 q102).bind fun _ => ((sx q103 q102 x112).bind fun x137 => ((ix x137 (w64 (q102 + 1))).bind fun _ => ((sx x137 (w64 (q102 + 1)) x122).bind fun x147 => SlicessymMergeCmpFuncguiderow_v1.loop2 q64 n98 (w64 (q102 + 1)) x147)))))) else some (q102, q103))
def SlicessymMergeCmpFuncguiderow_v1.loop3 (x0 : List GuideRow) (x2 : Int) : Nat → Int → Int → Option (Int × Int)
  | 0, _, _ => none
  | n155 + 1, q159, q160 => (if decide (q159 < q160) then ((gx x0 x2).bind fun x163 => ((gx x0 (w64 (Int.fdiv (IntKind.wrap .u64 (w64 (q159 + q160))) (2 ^ (min (Int.toNat 1) (IntKind.bits .u64)))))).bind fun x173 => (bnd ((if !(decide ((GuideBoard_2 x163 x173) < 0)) then (w64 ((w64 (Int.fdiv (IntKind.wrap .u64 (w64 (q159 + q160))) (2 ^ (min (Int.toNat 1) (IntKind.bits .u64))))) + 1), q160) else (q159, w64 (Int.fdiv (IntKind.wrap .u64 (w64 (q159 + q160))) (2 ^ (min (Int.toNat 1) (IntKind.bits .u64)))))) : Int × Int) fun q184 => match q184 with | (q187, q188) => SlicessymMergeCmpFuncguiderow_v1.loop3 x0 x2 n155 q187 q188))) else some (q159, q160))
def SlicessymMergeCmpFuncguiderow_v1.loop4 (q159 : Int) : Nat → Int → (List GuideRow) → Option (Int × (List GuideRow))
  | 0, _, _ => none
  | n193 + 1, q197, q198 => (if decide (q197 > q159) then ((gx q198 (w64 (q197 - 1))).bind fun x207 => ((gx q198 q197).bind fun x217 => ((ix q198 q197).bind fun _ => ((sx q198 q197 x207).bind fun x232 => ((ix x232 (w64 (q197 - 1))).bind fun _ => ((sx x232 (w64 (q197 - 1)) x217).bind fun x242 => SlicessymMergeCmpFuncguiderow_v1.loop4 q159 n193 (w64 (q197 - 1)) x242)))))) else some (q197, q198))
def SlicessymMergeCmpFuncguiderow_v1.loop5 (x0 : List GuideRow) (x1 : Int) (x2 : Int) (x3 : Int) : Nat → Int → Int → Option (Int × Int)
  | 0, _, _ => none
  | n257 + 1, q261, q262 => (if decide (q261 < q262) then ((gx x0 (w64 ((w64 ((w64 ((w64 (Int.fdiv (IntKind.wrap .u64 (w64 (x1 + x3))) (2 ^ (min (Int.toNat 1) (IntKind.bits .u64))))) + x2)) - 1)) - (w64 (Int.fdiv (IntKind.wrap .u64 (w64 (q261 + q262))) (2 ^ (min (Int.toNat 1) (IntKind.bits .u64)))))))).bind fun x265 => ((gx x0 (w64 (Int.fdiv (IntKind.wrap .u64 (w64 (q261 + q262))) (2 ^ (min (Int.toNat 1) (IntKind.bits .u64)))))).bind fun x275 => (bnd ((if !(decide ((GuideBoard_2 x265 x275) < 0)) then (w64 ((w64 (Int.fdiv (IntKind.wrap .u64 (w64 (q261 + q262))) (2 ^ (min (Int.toNat 1) (IntKind.bits .u64))))) + 1), q262) else (q261, w64 (Int.fdiv (IntKind.wrap .u64 (w64 (q261 + q262))) (2 ^ (min (Int.toNat 1) (IntKind.bits .u64)))))) : Int × Int) fun q286 => match q286 with | (q289, q290) => SlicessymMergeCmpFuncguiderow_v1.loop5 x0 x1 x2 x3 n257 q289 q290))) else some (q261, q262))
def SlicessymMergeCmpFuncguiderow_v1 : Nat → (List GuideRow) → Int → Int → Int → Option (List GuideRow)
  | 0, _, _, _, _ => none
  | fu + 1, x0, x1, x2, x3 => (if ((w64 (x2 - x1)) == 1) then ((SlicessymMergeCmpFuncguiderow_v1.loop1 x0 x1 fu x2 x3).bind fun q59 => match q59 with | (q64, _) => ((SlicessymMergeCmpFuncguiderow_v1.loop2 q64 fu x1 x0).bind fun q97 => match q97 with | (_, q103) => some q103)) else (if ((w64 (x3 - x2)) == 1) then ((SlicessymMergeCmpFuncguiderow_v1.loop3 x0 x2 fu x1 x2).bind fun q154 => match q154 with | (q159, _) => ((SlicessymMergeCmpFuncguiderow_v1.loop4 q159 fu x2 x0).bind fun q192 => match q192 with | (_, q198) => some q198)) else (bnd ((if decide (x2 > (w64 (Int.fdiv (IntKind.wrap .u64 (w64 (x1 + x3))) (2 ^ (min (Int.toNat 1) (IntKind.bits .u64)))))) then (w64 ((w64 ((w64 (Int.fdiv (IntKind.wrap .u64 (w64 (x1 + x3))) (2 ^ (min (Int.toNat 1) (IntKind.bits .u64))))) + x2)) - x3), w64 (Int.fdiv (IntKind.wrap .u64 (w64 (x1 + x3))) (2 ^ (min (Int.toNat 1) (IntKind.bits .u64))))) else (x1, x2)) : Int × Int) fun q248 => match q248 with | (q251, q252) => ((SlicessymMergeCmpFuncguiderow_v1.loop5 x0 x1 x2 x3 fu q251 q252).bind fun q256 => match q256 with | (q261, _) => (bnd ((if decide (q261 < x2) then decide (x2 < (w64 ((w64 ((w64 (Int.fdiv (IntKind.wrap .u64 (w64 (x1 + x3))) (2 ^ (min (Int.toNat 1) (IntKind.bits .u64))))) + x2)) - q261))) else false) : Bool) fun q297 => (if q297 then ((SlicesrotateCmpFuncguiderow_v1 fu x0 q261 x2 (w64 ((w64 ((w64 (Int.fdiv (IntKind.wrap .u64 (w64 (x1 + x3))) (2 ^ (min (Int.toNat 1) (IntKind.bits .u64))))) + x2)) - q261))).bind fun q301 => (bnd ((if decide (x1 < q261) then decide (q261 < (w64 (Int.fdiv (IntKind.wrap .u64 (w64 (x1 + x3))) (2 ^ (min (Int.toNat 1) (IntKind.bits .u64)))))) else false) : Bool) fun q310 => (if q310 then (((SlicessymMergeCmpFuncguiderow_v1 fu) q301 x1 q261 (w64 (Int.fdiv (IntKind.wrap .u64 (w64 (x1 + x3))) (2 ^ (min (Int.toNat 1) (IntKind.bits .u64)))))).bind fun q314 => (bnd ((if decide ((w64 (Int.fdiv (IntKind.wrap .u64 (w64 (x1 + x3))) (2 ^ (min (Int.toNat 1) (IntKind.bits .u64))))) < (w64 ((w64 ((w64 (Int.fdiv (IntKind.wrap .u64 (w64 (x1 + x3))) (2 ^ (min (Int.toNat 1) (IntKind.bits .u64))))) + x2)) - q261))) then decide ((w64 ((w64 ((w64 (Int.fdiv (IntKind.wrap .u64 (w64 (x1 + x3))) (2 ^ (min (Int.toNat 1) (IntKind.bits .u64))))) + x2)) - q261)) < x3) else false) : Bool) fun q323 => (if q323 then (((SlicessymMergeCmpFuncguiderow_v1 fu) q314 (w64 (Int.fdiv (IntKind.wrap .u64 (w64 (x1 + x3))) (2 ^ (min (Int.toNat 1) (IntKind.bits .u64))))) (w64 ((w64 ((w64 (Int.fdiv (IntKind.wrap .u64 (w64 (x1 + x3))) (2 ^ (min (Int.toNat 1) (IntKind.bits .u64))))) + x2)) - q261)) x3).bind fun q327 => some q327) else some q314))) else (bnd ((if decide ((w64 (Int.fdiv (IntKind.wrap .u64 (w64 (x1 + x3))) (2 ^ (min (Int.toNat 1) (IntKind.bits .u64))))) < (w64 ((w64 ((w64 (Int.fdiv (IntKind.wrap .u64 (w64 (x1 + x3))) (2 ^ (min (Int.toNat 1) (IntKind.bits .u64))))) + x2)) - q261))) then decide ((w64 ((w64 ((w64 (Int.fdiv (IntKind.wrap .u64 (w64 (x1 + x3))) (2 ^ (min (Int.toNat 1) (IntKind.bits .u64))))) + x2)) - q261)) < x3) else false) : Bool) fun q336 => (if q336 then (((SlicessymMergeCmpFuncguiderow_v1 fu) q301 (w64 (Int.fdiv (IntKind.wrap .u64 (w64 (x1 + x3))) (2 ^ (min (Int.toNat 1) (IntKind.bits .u64))))) (w64 ((w64 ((w64 (Int.fdiv (IntKind.wrap .u64 (w64 (x1 + x3))) (2 ^ (min (Int.toNat 1) (IntKind.bits .u64))))) + x2)) - q261)) x3).bind fun q340 => some q340) else some q301))))) else (bnd ((if decide (x1 < q261) then decide (q261 < (w64 (Int.fdiv (IntKind.wrap .u64 (w64 (x1 + x3))) (2 ^ (min (Int.toNat 1) (IntKind.bits .u64)))))) else false) : Bool) fun q349 => (if q349 then (((SlicessymMergeCmpFuncguiderow_v1 fu) x0 x1 q261 (w64 (Int.fdiv (IntKind.wrap .u64 (w64 (x1 + x3))) (2 ^ (min (Int.toNat 1) (IntKind.bits .u64)))))).bind fun q353 => (bnd ((if decide ((w64 (Int.fdiv (IntKind.wrap .u64 (w64 (x1 + x3))) (2 ^ (min (Int.toNat 1) (IntKind.bits .u64))))) < (w64 ((w64 ((w64 (Int.fdiv (IntKind.wrap .u64 (w64 (x1 + x3))) (2 ^ (min (Int.toNat 1) (IntKind.bits .u64))))) + x2)) - q261))) then decide ((w64 ((w64 ((w64 (Int.fdiv (IntKind.wrap .u64 (w64 (x1 + x3))) (2 ^ (min (Int.toNat 1) (IntKind.bits .u64))))) + x2)) - q261)) < x3) else false) : Bool) fun q362 => (if q362 then (((SlicessymMergeCmpFuncguiderow_v1 fu) q353 (w64 (Int.fdiv (IntKind.wrap .u64 (w64 (x1 + x3))) (2 ^ (min (Int.toNat 1) (IntKind.bits .u64))))) (w64 ((w64 ((w64 (Int.fdiv (IntKind.wrap .u64 (w64 (x1 + x3))) (2 ^ (min (Int.toNat 1) (IntKind.bits .u64))))) + x2)) - q261)) x3).bind fun q366 => some q366) else some q353))) else (bnd ((if decide ((w64 (Int.fdiv (IntKind.wrap .u64 (w64 (x1 + x3))) (2 ^ (min (Int.toNat 1) (IntKind.bits .u64))))) < (w64 ((w64 ((w64 (Int.fdiv (IntKind.wrap .u64 (w64 (x1 + x3))) (2 ^ (min (Int.toNat 1) (IntKind.bits .u64))))) + x2)) - q261))) then decide ((w64 ((w64 ((w64 (Int.fdiv (IntKind.wrap .u64 (w64 (x1 + x3))) (2 ^ (min (Int.toNat 1) (IntKind.bits .u64))))) + x2)) - q261)) < x3) else false) : Bool) fun q375 => (if q375 then (((SlicessymMergeCmpFuncguiderow_v1 fu) x0 (w64 (Int.fdiv (IntKind.wrap .u64 (w64 (x1 + x3))) (2 ^ (min (Int.toNat 1) (IntKind.bits .u64))))) (w64 ((w64 ((w64 (Int.fdiv (IntKind.wrap .u64 (w64 (x1 + x3))) (2 ^ (min (Int.toNat 1) (IntKind.bits .u64))))) + x2)) - q261)) x3).bind fun q379 => some q379) else some x0))))))))))
def SlicesstableCmpFuncguiderow_v1.loop1 (x1 : Int) (fu : Nat) : Nat → Int → Int → (List GuideRow) → Option (Int × Int × (List GuideRow))
  | 0, _, _, _ => none
  | n59 + 1, q63, q64, q65 => (if decide (q64 ≤ x1) then ((SlicesinsertionSortCmpFuncguiderow_v1 fu q65 q63 q64).bind fun q73 => SlicesstableCmpFuncguiderow_v1.loop1 x1 fu n59 q64 (w64 (q64 + 20)) q73) else some (q63, q64, q65))
def SlicesstableCmpFuncguiderow_v1.loop3 (x1 : Int) (fu : Nat) (q89 : Int) : Nat → Int → Int → (List GuideRow) → Option (Int × Int × (List GuideRow))
  | 0, _, _, _ => none
  | n100 + 1, q104, q105, q106 => (if decide (q105 ≤ x1) then ((SlicessymMergeCmpFuncguiderow_v1 fu q106 q104 (w64 (q104 + q89)) q105).bind fun q114 => SlicesstableCmpFuncguiderow_v1.loop3 x1 fu q89 n100 q105 (w64 (q105 + (w64 (2 * q89)))) q114) else some (q104, q105, q106))
def SlicesstableCmpFuncguiderow_v1.loop2 (x1 : Int) (fu : Nat) : Nat → Int → (List GuideRow) → Option (Int × (List GuideRow))
  | 0, _, _ => none
  | n85 + 1, q89, q90 => (if decide (q89 < x1) then ((SlicesstableCmpFuncguiderow_v1.loop3 x1 fu q89 fu 0 (w64 (2 * q89)) q90).bind fun q99 => match q99 with | (q104, _, q106) => (if decide ((w64 (q104 + q89)) < x1) then ((SlicessymMergeCmpFuncguiderow_v1 fu q106 q104 (w64 (q104 + q89)) x1).bind fun q120 => SlicesstableCmpFuncguiderow_v1.loop2 x1 fu n85 (w64 (q89 * 2)) q120) else SlicesstableCmpFuncguiderow_v1.loop2 x1 fu n85 (w64 (q89 * 2)) q106)) else some (q89, q90))
def SlicesstableCmpFuncguiderow_v1 (fu : Nat) (x0 : List GuideRow) (x1 : Int) : Option (List GuideRow) := ((SlicesstableCmpFuncguiderow_v1.loop1 x1 fu fu 0 20 x0).bind fun q58 => match q58 with | (q63, _, q65) => ((SlicesinsertionSortCmpFuncguiderow_v1 fu q65 q63 x1).bind fun q78 => ((SlicesstableCmpFuncguiderow_v1.loop2 x1 fu fu 20 q78).bind fun q84 => match q84 with | (_, q90) => some q90)))
def SlicesSortStableFuncLguiderow_v1 (fu : Nat) (x0 : List GuideRow) : Option (List GuideRow) := ((SlicesstableCmpFuncguiderow_v1 fu x0 ((x0.length : Nat) : Int)).bind fun q57 => some q57)
def GuideBoard.loop1 (x0 : ApiDay) (x1 : ApiDay) : Nat → Nat → Option (Out ((List GuideLine) × Int) Unit)
  | 0, _ => some (.next ())
  | rest59 + 1, k57 => ((gx [x0, x1] ((k57 : Nat) : Int)).bind fun x67 => ((GuideCheck x67).bind fun q82 => (if (q82 != 0) then some (.ret ([], q82)) else GuideBoard.loop1 x0 x1 rest59 (k57 + 1))))
def GuideBoard.loop2 : (List ApiTrain) → (List (Int × ApiTrain)) → (List (Int × ApiTrain))
  | [], q112 => q112
  | x104 :: rest105, q112 => GuideBoard.loop2 rest105 (mput q112 x104.No x104)
def GuideBoard.loop3 (x2 : Int) (x3 : Int) (q112 : List (Int × ApiTrain)) : (List ApiTrain) → (List GuideRow) → (List (Int × Bool)) → Option ((List GuideRow) × (List (Int × Bool)))
  | [], q140, q147 => some (q140, q147)
  | x132 :: rest133, q140, q147 => ((GuideBoard_1_v1 x132 false x2 q112 x3 q140).bind fun q160 => GuideBoard.loop3 x2 x3 q112 rest133 q160 (mput q147 x132.No true))
def GuideBoard.loop4 (x2 : Int) (x3 : Int) (q112 : List (Int × ApiTrain)) (q147 : List (Int × Bool)) : (List ApiTrain) → (List GuideRow) → Option (List GuideRow)
  | [], q178 => some q178
  | x170 :: rest171, q178 => (if !((mget q147 x170.No).getD false) then ((GuideBoard_1_v1 x170 true x2 q112 x3 q178).bind fun q198 => GuideBoard.loop4 x2 x3 q112 q147 rest171 q198) else GuideBoard.loop4 x2 x3 q112 q147 rest171 q178)
def GuideBoard.loop5 : (List GuideRow) → (List GuideLine) → Option (List GuideLine)
  | [], q234 => some q234
  | x226 :: rest227, q234 => ((apd q234 [x226.Line]).bind fun x248 => GuideBoard.loop5 rest227 x248)
def GuideBoard (fu : Nat) (x0 : ApiDay) (x1 : ApiDay) (x2 : Int) (x3 : Int) (x4 : Int) : Option ((List GuideLine) × Int) := ((GuideBoard.loop1 x0 x1 2 0).bind fun q56 => match q56 with | .ret r => some r | .next () => (if !(Guidewithin x2 0 11) then some ([], 3) else (bnd ((if !(Guidewithin x3 0 28800) then true else !(Guidewithin x4 0 40)) : Bool) fun q92 => (if q92 then some ([], 2) else (bnd (GuideBoard.loop2 x1.Trains []) fun q112 => ((GuideBoard.loop3 x2 x3 q112 x0.Trains [] []).bind fun q130 => match q130 with | (q140, q147) => ((GuideBoard.loop4 x2 x3 q112 q147 x1.Trains q140).bind fun q178 => ((SlicesSortStableFuncLguiderow_v1 fu q178).bind fun q205 => ((cutl q205 0 (mn x4 ((q205.length : Nat) : Int))).bind fun x214 => ((GuideBoard.loop5 x214 []).bind fun q234 => some (q234, 0)))))))))))
def Fishref2numbersIn.loop2 : (List ApiStop) → (List (List Int)) → Option (List (List Int))
  | [], q107 => some q107
  | x99 :: rest100, q107 => ((apd q107 [[x99.Station, x99.Track, x99.Arr, x99.Dep]]).bind fun x127 => Fishref2numbersIn.loop2 rest100 x127)
def Fishref2numbersIn.loop1 : (List ApiTrain) → (List (List Int)) → Option (List (List Int))
  | [], q64 => some q64
  | x56 :: rest57, q64 => ((apd q64 [[x56.No, x56.Stock]]).bind fun x90 => ((Fishref2numbersIn.loop2 x56.Stops x90).bind fun q107 => ((apd q107 x56.Legs).bind fun x133 => Fishref2numbersIn.loop1 rest57 x133)))
def Fishref2numbersIn (x0 : ApiDay) : Option (List (List Int)) := ((Fishref2numbersIn.loop1 x0.Trains []).bind fun q64 => ((apd q64 x0.Turns).bind fun x139 => some x139))
def Fishref2within (x0 : Int) (x1 : Int) (x2 : Int) : Bool := (bnd ((if decide (x0 ≥ x1) then decide (x0 ≤ x2) else false) : Bool) fun q55 => q55)
def Fishref2TextFault.loop2 : (List (List Int)) → Out Int Unit
  | [] => (.next ())
  | x94 :: rest95 => (if (((x94).length : Int) == 0) then (.ret 1) else Fishref2TextFault.loop2 rest95)
def Fishref2TextFault.loop3 : (List (List Int)) → Out Int Unit
  | [] => (.next ())
  | x115 :: rest116 => (if decide (((x115).length : Int) > 4) then (.ret 4) else Fishref2TextFault.loop3 rest116)
def Fishref2TextFault.loop1 : (List ApiTrain) → Out Int Unit
  | [] => (.next ())
  | x63 :: rest64 => (bnd ((if (((x63.Stops).length : Int) == 0) then true else (((x63.Legs).length : Int) != (w64 (((x63.Stops).length : Int) - 1)))) : Bool) fun q87 => (if q87 then (.ret 1) else (bnd (Fishref2TextFault.loop2 x63.Legs) fun q92 => match q92 with | .ret r => (.ret r) | .next () => (if decide (((x63.Stops).length : Int) > 8) then (.ret 4) else (bnd (Fishref2TextFault.loop3 x63.Legs) fun q113 => match q113 with | .ret r => (.ret r) | .next () => Fishref2TextFault.loop1 rest64)))))
def Fishref2TextFault.loop4 : (List (List Int)) → Out Int Unit
  | [] => (.next ())
  | x135 :: rest136 => (if (((x135).length : Int) == 0) then (.ret 1) else (if decide (((x135).length : Int) > 12) then (.ret 4) else Fishref2TextFault.loop4 rest136))
def Fishref2TextFault.loop6 : (List Int) → Out Int Unit
  | [] => (.next ())
  | x192 :: rest193 => (if !(Fishref2within x192 0 999999) then (.ret 2) else Fishref2TextFault.loop6 rest193)
def Fishref2TextFault.loop5 (q153 : (List (List Int))) : Nat → Nat → Option (Out Int Unit)
  | 0, _ => some (.next ())
  | rest167 + 1, k165 => ((gx q153 ((k165 : Nat) : Int)).bind fun x176 => (bnd (Fishref2TextFault.loop6 x176) fun q190 => match q190 with | .ret r => some (.ret r) | .next () => Fishref2TextFault.loop5 q153 rest167 (k165 + 1)))
def Fishref2TextFault (x0 : ApiDay) : Option Int := (bnd ((if decide (((x0.Trains).length : Int) > 12) then true else decide (((x0.Turns).length : Int) > 8)) : Bool) fun q56 => (if q56 then some 4 else (bnd (Fishref2TextFault.loop1 x0.Trains) fun q61 => match q61 with | .ret r => some r | .next () => (bnd (Fishref2TextFault.loop4 x0.Turns) fun q133 => match q133 with | .ret r => some r | .next () => ((Fishref2numbersIn x0).bind fun q153 => ((Fishref2TextFault.loop5 q153 q153.length 0).bind fun q164 => match q164 with | .ret r => some r | .next () => some 0))))))
def Fishref2GuideFault.loop2 (x58 : ApiTrain) : (List ApiTrain) → Out Int Unit
  | [] => (.next ())
  | x91 :: rest92 => (if (x91.No == x58.No) then (.ret 6) else Fishref2GuideFault.loop2 x58 rest92)
def Fishref2GuideFault.loop3 (x58 : ApiTrain) : (List ApiStop) → Nat → Option (Out Int Unit)
  | [], _ => some (.next ())
  | x116 :: rest117, k115 => (bnd ((if !(Fishref2within x116.Station 0 11) then true else (if !(Fishref2within x116.Arr 0 28800) then true else !(Fishref2within x116.Dep 0 28800))) : Bool) fun q134 => (if q134 then some (.ret 2) else (((if decide (x116.Dep < x116.Arr) then some true else (if decide (((k115 : Nat) : Int) > 0) then ((gx x58.Stops (w64 (((k115 : Nat) : Int) - 1))).bind fun x147 => some (decide (x116.Arr ≤ x147.Dep))) else some false)) : Option Bool).bind fun q143 => (if q143 then some (.ret 5) else Fishref2GuideFault.loop3 x58 rest117 (k115 + 1)))))
def Fishref2GuideFault.loop1 (x0 : ApiDay) : (List ApiTrain) → Nat → Option (Out Int Unit)
  | [], _ => some (.next ())
  | x58 :: rest59, k57 => (if !(Fishref2within x58.No 1 9999) then some (.ret 2) else ((cutl x0.Trains 0 ((k57 : Nat) : Int)).bind fun x79 => (bnd (Fishref2GuideFault.loop2 x58 x79) fun q89 => match q89 with | .ret r => some (.ret r) | .next () => (if decide (((x58.Stops).length : Int) < 2) then some (.ret 1) else ((Fishref2GuideFault.loop3 x58 x58.Stops 0).bind fun q114 => match q114 with | .ret r => some (.ret r) | .next () => Fishref2GuideFault.loop1 x0 rest59 (k57 + 1))))))
def Fishref2GuideFault (x0 : ApiDay) : Option Int := ((Fishref2TextFault x0).bind fun q52 => (if (q52 != 0) then some q52 else ((Fishref2GuideFault.loop1 x0 x0.Trains 0).bind fun q56 => match q56 with | .ret r => some r | .next () => some 0)))
def Fishlaw2small_1 (x0 : Int) (x1 : Int) (x2 : Int) : ApiStop := (ApiStop.mk x0 0 x1 x2)
def Fishlaw2small : ApiDay := (bnd (Fishlaw2small_1 0 100 100) fun q52 => (bnd (Fishlaw2small_1 1 200 230) fun q58 => (bnd (Fishlaw2small_1 2 300 300) fun q64 => (bnd (Fishlaw2small_1 1 250 250) fun q94 => (bnd (Fishlaw2small_1 3 400 400) fun q100 => (ApiDay.mk [(ApiTrain.mk 1 0 [q52, q58, q64] [[0], [1]]), (ApiTrain.mk 2 0 [q94, q100] [[2]])] []))))))
def GuidecheckLeast (x0 : ApiDay) (x1 : Int) : Option Int := ((GuideCheck x0).bind fun q52 => (if (q52 != 0) then some q52 else (if !(Guidewithin x1 0 28800) then some 2 else some 0)))
def Guidecheck.loop1 : (List Int) → Out Int Unit
  | [] => (.next ())
  | x67 :: rest68 => (if !(Guidewithin x67 0 28800) then (.ret 2) else Guidecheck.loop1 rest68)
def Guidecheck (x0 : ApiDay) (x1 : Int) (x2 : Int) (x3 : Int) (x4 : List Int) : Option Int := ((GuidecheckLeast x0 x1).bind fun q52 => (if (q52 != 0) then some q52 else (bnd ((if !(Guidewithin x2 0 11) then true else !(Guidewithin x3 0 11)) : Bool) fun q59 => (if q59 then some 3 else (if (x2 == x3) then some 1 else (bnd (Guidecheck.loop1 x4) fun q65 => match q65 with | .ret r => some r | .next () => some 0))))))

    def ridesF (t on : Nat) : Nat → Nat → List GuideRide
      | 0, _ => []
      | r + 1, off => ⟨(t : Int), (on : Int), (off : Int)⟩ :: ridesF t on r (off + 1)
    def ridesS (station at_ : Int) (t len : Nat) : List ApiStop → Nat → List GuideRide
      | [], _ => []
      | x :: r, on => (if x.Station ≠ station ∨ x.Dep < at_ then [] else ridesF t on (len - (on + 1)) (on + 1)) ++ ridesS station at_ t len r (on + 1)
    def ridesT (station at_ nt : Int) : List ApiTrain → Nat → List GuideRide
      | [], _ => []
      | x :: r, t => (if (t : Int) = nt then [] else ridesS station at_ t x.Stops.length x.Stops 0) ++ ridesT station at_ nt r (t + 1)
    
def GuideNetrides (x0 : GuideNet) (x1 : Int) (x2 : Int) (x3 : Int) : (List GuideRide) := (ridesT x1 x2 x3 x0.Day.Trains 0)
def GuideNeton (x0 : GuideNet) (x1 : GuideRide) : Option ApiStop := ((gx x0.Day.Trains x1.Train).bind fun x55 => ((gx x55.Stops x1.On).bind fun x70 => some x70))
def GuideNetoff (x0 : GuideNet) (x1 : GuideRide) : Option ApiStop := ((gx x0.Day.Trains x1.Train).bind fun x55 => ((gx x55.Stops x1.Off).bind fun x70 => some x70))
def GuideNetbehind (x0 : GuideNet) (x1 : GuideRide) : Option (List GuideRide) := ((GuideNetoff x0 x1).bind fun q53 => (bnd (GuideNetrides x0 q53.Station (w64 (q53.Arr + x0.least)) x1.Train) fun q60 => some q60))
def SlicesAppendSeqLguideRide_v1.loop1 : List GuideRide → (List GuideRide) → Option (List GuideRide)
  | [], q65 => some q65
  | x54 :: rest55, q65 => ((apd q65 [x54]).bind fun x76 => SlicesAppendSeqLguideRide_v1.loop1 rest55 x76)
def SlicesAppendSeqLguideRide_v1 (x0 : List GuideRide) (x1 : List GuideRide) : Option (List GuideRide) := ((SlicesAppendSeqLguideRide_v1.loop1 x1 x0).bind fun q65 => some q65)
def GuideNetends.loop2 (x0 : GuideNet) (k56 : Nat) : (List GuideRide) → (List GuideRide) → (List (List (GuidePlace × Bool))) → Option ((List GuideRide) × (List (List (GuidePlace × Bool))))
  | [], q89, q96 => some (q89, q96)
  | x81 :: rest82, q89, q96 => ((mgx 4 q96 ((k56 : Nat) : Int)).bind fun x105 => (if ((mget x105 (GuidePlace.mk x81.Train x81.Off)).getD false) then GuideNetends.loop2 x0 k56 rest82 q89 q96 else ((mgx 4 q96 ((k56 : Nat) : Int)).bind fun x114 => ((GuideNetbehind x0 x81).bind fun q121 => ((SlicesAppendSeqLguideRide_v1 q89 q121).bind fun q127 => GuideNetends.loop2 x0 k56 rest82 q127 (q96.set ((((k56 : Nat) : Int)).toNat) (mput x114 (GuidePlace.mk x81.Train x81.Off) true)))))))
def GuideNetends.loop1 (x0 : GuideNet) : Nat → Nat → (List GuideRide) → (List (List (GuidePlace × Bool))) → Option ((List GuideRide) × (List (List (GuidePlace × Bool))))
  | 0, _, q65, q69 => some (q65, q69)
  | rest58 + 1, k56, q65, q69 => ((mst 4 q69 ((k56 : Nat) : Int)).bind fun _ => ((GuideNetends.loop2 x0 k56 q65 [] (q69 ++ [[]])).bind fun q79 => match q79 with | (q89, q96) => GuideNetends.loop1 x0 rest58 (k56 + 1) q89 q96))
def GuideNetends (x0 : GuideNet) (x1 : List GuideRide) : Option (List (List (GuidePlace × Bool))) := ((GuideNetends.loop1 x0 4 0 x1 []).bind fun q55 => match q55 with | (_, q69) => ((mall 4 q69).bind fun _ => some q69))
def GuidecomparePoints (x0 : GuidePoint) (x1 : GuidePoint) : Int := (CmpOrint [(CmpCompareint x0.Dep x1.Dep), (CmpCompareint x0.Arr x1.Arr), (CmpCompareint x0.Rides x1.Rides)])
def GuideNetpoints.loop1 (x0 : GuideNet) : List GuideRide → (List (Int × (List GuideRide))) → Option (List (Int × (List GuideRide)))
  | [], q73 => some q73
  | x62 :: rest63, q73 => ((GuideNeton x0 x62).bind fun q80 => ((GuideNeton x0 x62).bind fun q80 => (bnd ((mget q73 q80.Dep).getD []) fun x92 => ((apd x92 [x62]).bind fun x101 => GuideNetpoints.loop1 x0 rest63 (mput q73 q80.Dep x101)))))
def GuideNetpoints.loop4.step (x0 : GuideNet) (x2 : Int) (k127 : Int) (k177 : Nat) (k219 : GuidePlace) (_ : Bool) (q224 : List GuidePoint) (q231 : List (GuidePoint × Bool)) : Orc → Option ((List GuidePoint) × (List (GuidePoint × Bool))) := fun o => ((gx x0.Day.Trains k219.train).bind fun x246 => ((gx x246.Stops k219.off).bind fun x261 => (bnd ((if (x261.Station == x2) then !((mget q231 (GuidePoint.mk k127 x261.Arr ((k177 + 1 : Nat) : Int))).getD false) else false) : Bool) fun q276 => (((if q276 then ((apd q224 [(GuidePoint.mk k127 x261.Arr ((k177 + 1 : Nat) : Int))]).bind fun x294 => some (x294, (mput q231 (GuidePoint.mk k127 x261.Arr ((k177 + 1 : Nat) : Int)) true))) else some (q224, q231)) : Option ((List GuidePoint) × (List (GuidePoint × Bool)))).bind fun q280 => match q280 with | (q283, q290) => some (q283, q290)))))
def GuideNetpoints.loop4 (x0 : GuideNet) (x2 : Int) (k127 : Int) (k177 : Nat) (l : List (GuidePlace × Bool)) (q224 : List GuidePoint) (q231 : List (GuidePoint × Bool)) : Orc → Option ((List GuidePoint) × (List (GuidePoint × Bool))) := rngO (fun x st => GuideNetpoints.loop4.step x0 x2 k127 k177 x.1 x.2 st.1 st.2) l.length l (q224, q231)
def GuideNetpoints.loop3.step (x0 : GuideNet) (x2 : Int) (k127 : Int) (q159 : (List (List (GuidePlace × Bool)))) (k177 : Nat) (q182 : List GuidePoint) (q189 : List (GuidePoint × Bool)) : Orc → Option ((List GuidePoint) × (List (GuidePoint × Bool))) := fun o => ((gx q159 ((k177 : Nat) : Int)).bind fun x199 => (bindO (GuideNetpoints.loop4 x0 x2 k127 k177 x199 q182 q189) (fun q209 o => match q209 with | (q224, q231) => some (q224, q231)) o))
def GuideNetpoints.loop3 (x0 : GuideNet) (x2 : Int) (k127 : Int) (q159 : (List (List (GuidePlace × Bool)))) (n : Nat) (q182 : List GuidePoint) (q189 : List (GuidePoint × Bool)) : Orc → Option ((List GuidePoint) × (List (GuidePoint × Bool))) := cntO (fun x st => GuideNetpoints.loop3.step x0 x2 k127 q159 x st.1 st.2) n 0 (q182, q189)
def GuideNetpoints.loop2.step (x0 : GuideNet) (x2 : Int) (k127 : Int) (x128 : List GuideRide) (q132 : List GuidePoint) (q139 : List (GuidePoint × Bool)) : Orc → Option ((List GuidePoint) × (List (GuidePoint × Bool))) := fun o => ((GuideNetends x0 x128).bind fun q159 => (bindO (GuideNetpoints.loop3 x0 x2 k127 q159 4 q132 q139) (fun q167 o => match q167 with | (q182, q189) => some (q182, q189)) o))
def GuideNetpoints.loop2 (x0 : GuideNet) (x2 : Int) (l : List (Int × (List GuideRide))) (q132 : List GuidePoint) (q139 : List (GuidePoint × Bool)) : Orc → Option ((List GuidePoint) × (List (GuidePoint × Bool))) := rngO (fun x st => GuideNetpoints.loop2.step x0 x2 x.1 x.2 st.1 st.2) l.length l (q132, q139)
def GuideNetpoints.o (x0 : GuideNet) (x1 : Int) (x2 : Int) : Orc → Option (List GuidePoint) := fun o => (bnd (GuideNetrides x0 x1 0 (-1)) fun q54 => ((GuideNetpoints.loop1 x0 q54 []).bind fun q73 => (bindO (GuideNetpoints.loop2 x0 x2 q73 [] []) (fun q117 o => match q117 with | (q132, _) => ((srtF GuidecomparePoints q132).bind fun q303 => some q303)) o)))
noncomputable def GuideNetpoints (x0 : GuideNet) (x1 : Int) (x2 : Int) : Option (List GuidePoint) := same (GuideNetpoints.o x0 x1 x2)
def GuideNetearliest_1_v1 (x0 : GuidePoint) (y0 : Int) : Bool := decide (x0.Dep < y0)
def SlicesIndexFuncLguidePoint_v1.loop1 (y0 : Int) : (List GuidePoint) → Nat → Out Int Unit
  | [], _ => (.next ())
  | x54 :: rest55, k53 => (if (GuideNetearliest_1_v1 x54 y0) then (.ret ((k53 : Nat) : Int)) else SlicesIndexFuncLguidePoint_v1.loop1 y0 rest55 (k53 + 1))
def SlicesIndexFuncLguidePoint_v1 (x0 : List GuidePoint) (y0 : Int) : Int := (bnd (SlicesIndexFuncLguidePoint_v1.loop1 y0 x0 0) fun q52 => match q52 with | .ret r => r | .next () => (-1))
def SlicesDeleteFuncLguidePoint_v1.loop1 (x0 : List GuidePoint) (y0 : Int) : Nat → Int → Int → (List GuidePoint) → Option (Int × Int × (List GuidePoint))
  | 0, _, _, _ => none
  | n58 + 1, q62, q63, q64 => (if decide (q63 < ((x0.length : Nat) : Int)) then ((gx q64 q63).bind fun x72 => (((if !(GuideNetearliest_1_v1 x72 y0) then ((ix q64 q62).bind fun _ => ((sx q64 q62 x72).bind fun x101 => some (w64 (q62 + 1), x101))) else some (q62, q64)) : Option (Int × (List GuidePoint))).bind fun q84 => match q84 with | (q87, q88) => SlicesDeleteFuncLguidePoint_v1.loop1 x0 y0 n58 q87 (w64 (q63 + 1)) q88)) else some (q62, q63, q64))
def SlicesDeleteFuncLguidePoint_v1 (fu : Nat) (x0 : List GuidePoint) (y0 : Int) : Option (List GuidePoint) := (if ((SlicesIndexFuncLguidePoint_v1 x0 y0) == (-1)) then some x0 else ((SlicesDeleteFuncLguidePoint_v1.loop1 x0 y0 fu (SlicesIndexFuncLguidePoint_v1 x0 y0) (w64 ((SlicesIndexFuncLguidePoint_v1 x0 y0) + 1)) x0).bind fun q57 => match q57 with | (q62, _, q64) => ((cutl q64 0 q62).bind fun x106 => some x106)))
def GuideNetearliest_2 (x0 : GuidePoint) (x1 : GuidePoint) : Int := (CmpOrint [(CmpCompareint x0.Arr x1.Arr), (CmpCompareint x0.Rides x1.Rides), (CmpCompareint x1.Dep x0.Dep)])
def SlicesMinFuncLguidePoint_v1.loop1 (x0 : List GuidePoint) : Nat → Int → Int → Int → Int → Option (Int × Int × Int × Int)
  | 0, _, _, _, _ => none
  | n65 + 1, q69, q70, q71, q72 => (if decide (q69 < ((x0).length : Int)) then ((gx x0 q69).bind fun x75 => (((if decide ((GuideNetearliest_2 x75 (GuidePoint.mk q70 q71 q72)) < 0) then ((gx x0 q69).bind fun x93 => some (x93.Dep, x93.Arr, x93.Rides)) else some (q70, q71, q72)) : Option (Int × Int × Int)).bind fun q85 => match q85 with | (q88, q89, q90) => SlicesMinFuncLguidePoint_v1.loop1 x0 n65 (w64 (q69 + 1)) q88 q89 q90)) else some (q69, q70, q71, q72))
def SlicesMinFuncLguidePoint_v1 (fu : Nat) (x0 : List GuidePoint) : Option GuidePoint := (if decide (((x0).length : Int) < 1) then none else ((gx x0 0).bind fun x53 => ((SlicesMinFuncLguidePoint_v1.loop1 x0 fu 1 x53.Dep x53.Arr x53.Rides).bind fun q64 => match q64 with | (_, q70, q71, q72) => some (GuidePoint.mk q70 q71 q72))))
def SlicesCloneLguideRide (x0 : List GuideRide) : Option (List GuideRide) := ((apd [] x0).bind fun x56 => some x56)
def GuideNetleastOf_1_v1.loop1 (x0 : List GuideRide) (y0 : GuideNet) (y1 : GuidePoint) (y2 : Int) (self_GuideNetleastOf_1_v1 : (List GuideRide) → GuideNet → GuidePoint → Int → (List (Ar3i64 × Bool)) → Option ((List GuideRide) × (List (Ar3i64 × Bool)))) : List GuideRide → (List GuideRide) → (List (Ar3i64 × Bool)) → Option (Out ((List GuideRide) × (List (Ar3i64 × Bool))) ((List GuideRide) × (List (Ar3i64 × Bool))))
  | [], q110, q115 => some (.next (q110, q115))
  | x99 :: rest100, q110, q115 => ((SlicesCloneLguideRide x0).bind fun q120 => ((apd q120 [x99]).bind fun x129 => ((self_GuideNetleastOf_1_v1 x129 y0 y1 y2 q115).bind fun q141 => (if !q141.1.isEmpty then some (.ret (q141.1, q141.2)) else GuideNetleastOf_1_v1.loop1 x0 y0 y1 y2 self_GuideNetleastOf_1_v1 rest100 q110 q141.2))))
def GuideNetleastOf_1_v1 : Nat → (List GuideRide) → GuideNet → GuidePoint → Int → (List (Ar3i64 × Bool)) → Option ((List GuideRide) × (List (Ar3i64 × Bool)))
  | 0, _, _, _, _, _ => none
  | fu + 1, x0, y0, y1, y2, y3_0 => ((gx x0 (w64 (((x0).length : Int) - 1))).bind fun x55 => ((GuideNetoff y0 x55).bind fun q65 => (if ((w64 (y1.Rides - ((x0).length : Int))) == 0) then (bnd ((if (q65.Station == y2) then (q65.Arr == y1.Arr) else false) : Bool) fun q77 => (if q77 then ((nz x0).bind fun _ => some (x0, y3_0)) else some ([], y3_0))) else (bnd ((if ((mget y3_0 (Ar3i64.mk x55.Train x55.Off (w64 (y1.Rides - ((x0).length : Int))))).getD false) then true else decide (q65.Arr > y1.Arr)) : Bool) fun q87 => (if q87 then some ([], y3_0) else ((GuideNetbehind y0 x55).bind fun q91 => ((GuideNetleastOf_1_v1.loop1 x0 y0 y1 y2 (GuideNetleastOf_1_v1 fu) q91 [] y3_0).bind fun q98 => match q98 with | .ret (q110, q115) => some (q110, q115) | .next (_, q115) => some ([], (mput q115 (Ar3i64.mk x55.Train x55.Off (w64 (y1.Rides - ((x0).length : Int)))) true)))))))))
def GuideNetleastOf.loop1 (x0 : GuideNet) (x2 : Int) (x3 : GuidePoint) (fu : Nat) : List GuideRide → (List GuideRide) → (List (Ar3i64 × Bool)) → Option (Out ((List GuideRide) × (List (Ar3i64 × Bool))) ((List GuideRide) × (List (Ar3i64 × Bool))))
  | [], q77, q81 => some (.next (q77, q81))
  | x66 :: rest67, q77, q81 => ((GuideNeton x0 x66).bind fun q86 => (if (q86.Dep != x3.Dep) then GuideNetleastOf.loop1 x0 x2 x3 fu rest67 q77 q81 else ((GuideNetleastOf_1_v1 fu [x66] x0 x3 x2 q81).bind fun q99 => (if !q99.1.isEmpty then some (.ret (q99.1, q99.2)) else GuideNetleastOf.loop1 x0 x2 x3 fu rest67 q77 q99.2))))
def GuideNetleastOf (fu : Nat) (x0 : GuideNet) (x1 : Int) (x2 : Int) (x3 : GuidePoint) : Option GuideJourney := (bnd (GuideNetrides x0 x1 x3.Dep (-1)) fun q58 => ((GuideNetleastOf.loop1 x0 x2 x3 fu q58 [] []).bind fun q65 => match q65 with | .ret (q77, _) => some (GuideJourney.mk q77) | .next (_, _) => some (GuideJourney.mk [])))
noncomputable def GuideNetearliest (fu : Nat) (x0 : GuideNet) (x1 : Int) (x2 : Int) (x3 : Int) : Option (GuideJourney × Bool) := ((GuideNetpoints x0 x1 x3).bind fun q54 => ((SlicesDeleteFuncLguidePoint_v1 fu q54 x2).bind fun q64 => (if (((q64.length : Nat) : Int) == 0) then some ((GuideJourney.mk []), false) else ((SlicesMinFuncLguidePoint_v1 fu q64).bind fun q76 => ((GuideNetleastOf fu x0 x1 x3 q76).bind fun q83 => some (q83, true))))))
noncomputable def GuideEarliest (fu : Nat) (x0 : ApiDay) (x1 : Int) (x2 : Int) (x3 : Int) (x4 : Int) : Option (GuideJourney × Int) := ((Guidecheck x0 x4 x1 x3 [x2]).bind fun q59 => (if (q59 != 0) then some ((GuideJourney.mk []), q59) else ((GuideNetearliest fu (GuideNet.mk x0 x4) x1 x2 x3).bind fun q62 => (if !q62.2 then some ((GuideJourney.mk []), 9) else some (q62.1, 0)))))
def SlicesEqualLguideRide.loop1 (x1 : List GuideRide) : (List GuideRide) → Nat → Option (Out Bool Unit)
  | [], _ => some (.next ())
  | x55 :: rest56, k54 => ((gx x1 ((k54 : Nat) : Int)).bind fun x68 => (if !((x55.Train == x68.Train) && ((x55.On == x68.On) && (x55.Off == x68.Off))) then some (.ret false) else SlicesEqualLguideRide.loop1 x1 rest56 (k54 + 1)))
def SlicesEqualLguideRide (x0 : List GuideRide) (x1 : List GuideRide) : Option Bool := (if (((x0).length : Int) != ((x1).length : Int)) then some false else ((SlicesEqualLguideRide.loop1 x1 x0 0).bind fun q53 => match q53 with | .ret r => some r | .next () => some true))
noncomputable def Fishlaw2guides (fu : Nat) : Option Bool := (bnd (Fishlaw2small) fun q51 => ((GuideEarliest fu q51 0 0 3 40).bind fun q63 => (((if (q63.2 == 0) then ((SlicesEqualLguideRide q63.1.Rides [(GuideRide.mk 0 0 1), (GuideRide.mk 1 0 1)]).bind fun q86 => some q86) else some false) : Option Bool).bind fun q77 => some q77)))
def Fishref2byNo_1_v1 (x0 : ApiTrain) (y0 : Int) : Bool := (x0.No == y0)
def SlicesIndexFuncLapiTrain_v1.loop1 (y0 : Int) : (List ApiTrain) → Nat → Out Int Unit
  | [], _ => (.next ())
  | x54 :: rest55, k53 => (if (Fishref2byNo_1_v1 x54 y0) then (.ret ((k53 : Nat) : Int)) else SlicesIndexFuncLapiTrain_v1.loop1 y0 rest55 (k53 + 1))
def SlicesIndexFuncLapiTrain_v1 (x0 : List ApiTrain) (y0 : Int) : Int := (bnd (SlicesIndexFuncLapiTrain_v1.loop1 y0 x0 0) fun q52 => match q52 with | .ret r => r | .next () => (-1))
def Fishref2byNo (x0 : ApiDay) (x1 : Int) : Int := (SlicesIndexFuncLapiTrain_v1 x0.Trains x1)
def Fishref2BoardOf_1_v1 (x0 : GuideLine) (x1 : Int) (y0 : Int) (y1 : List Fishref2Row) : Option (List Fishref2Row) := (((if decide ((w64 (x0.Time + x0.Late)) ≥ y0) then ((apd y1 [(Fishref2Row.mk x0 x1)]).bind fun x73 => some x73) else some y1) : Option (List Fishref2Row)).bind fun q63 => some q63)
def SlicesCompareLint.loop1 (x1 : List Int) : (List Int) → Nat → Option (Out Int Unit)
  | [], _ => some (.next ())
  | x54 :: rest55, k53 => (if decide (((k53 : Nat) : Int) ≥ ((x1).length : Int)) then some (.ret 1) else ((gx x1 ((k53 : Nat) : Int)).bind fun x68 => (if ((CmpCompareint x54 x68) != 0) then some (.ret (CmpCompareint x54 x68)) else SlicesCompareLint.loop1 x1 rest55 (k53 + 1))))
def SlicesCompareLint (x0 : List Int) (x1 : List Int) : Option Int := ((SlicesCompareLint.loop1 x1 x0 0).bind fun q52 => match q52 with | .ret r => some r | .next () => (if decide (((x0).length : Int) < ((x1).length : Int)) then some (-1) else some 0))
def Fishref2BoardOf_2 (x0 : Fishref2Row) (x1 : Fishref2Row) : Option Int := ((SlicesCompareLint [x0.Line.Time, x0.Line.No, x0.stop] [x1.Line.Time, x1.Line.No, x1.stop]).bind fun q65 => some q65)
def Fishref2BoardOf_2T (x y : Fishref2Row) : Int := (Fishref2BoardOf_2 x y).getD 0
def Fishref2BoardOf.loop2 (x1 : ApiDay) (x2 : Int) (x3 : Int) (x59 : ApiTrain) : (List ApiStop) → Nat → (List Fishref2Row) → Option (List Fishref2Row)
  | [], _, q106 => some q106
  | x98 :: rest99, k97, q106 => (if (x98.Station != x2) then Fishref2BoardOf.loop2 x1 x2 x3 x59 rest99 (k97 + 1) q106 else ((gx x59.Stops (w64 (((x59.Stops).length : Int) - 1))).bind fun x121 => (((if decide ((Fishref2byNo x1 x59.No) ≥ 0) then ((gx x1.Trains (Fishref2byNo x1 x59.No)).bind fun x138 => (if decide (((k97 : Nat) : Int) < ((x138.Stops).length : Int)) then ((gx x1.Trains (Fishref2byNo x1 x59.No)).bind fun x154 => ((gx x154.Stops ((k97 : Nat) : Int)).bind fun x169 => some (x169.Station == x2))) else some false)) else some false) : Option Bool).bind fun q135 => (((if q135 then ((gx x1.Trains (Fishref2byNo x1 x59.No)).bind fun x185 => ((gx x185.Stops ((k97 : Nat) : Int)).bind fun x200 => some x200.Dep)) else some x98.Dep) : Option Int).bind fun q182 => ((Fishref2BoardOf_1_v1 (GuideLine.mk q182 (mx 0 (w64 (x98.Dep - q182))) x59.No x121.Station x98.Track false) ((k97 : Nat) : Int) x3 q106).bind fun q209 => Fishref2BoardOf.loop2 x1 x2 x3 x59 rest99 (k97 + 1) q209)))))
def Fishref2BoardOf.loop1 (x1 : ApiDay) (x2 : Int) (x3 : Int) : (List ApiTrain) → (List Fishref2Row) → Option (List Fishref2Row)
  | [], q67 => some q67
  | x59 :: rest60, q67 => ((cutl x59.Stops 0 (w64 (((x59.Stops).length : Int) - 1))).bind fun x86 => ((Fishref2BoardOf.loop2 x1 x2 x3 x59 x86 0 q67).bind fun q106 => Fishref2BoardOf.loop1 x1 x2 x3 rest60 q106))
def Fishref2BoardOf.loop4 (x2 : Int) (x3 : Int) (x219 : ApiTrain) : (List ApiStop) → Nat → (List Fishref2Row) → Option (List Fishref2Row)
  | [], _, q267 => some q267
  | x259 :: rest260, k258, q267 => (if (x259.Station == x2) then ((gx x219.Stops (w64 (((x219.Stops).length : Int) - 1))).bind fun x282 => ((Fishref2BoardOf_1_v1 (GuideLine.mk x259.Dep 0 x219.No x282.Station (-1) true) ((k258 : Nat) : Int) x3 q267).bind fun q291 => Fishref2BoardOf.loop4 x2 x3 x219 rest260 (k258 + 1) q291)) else Fishref2BoardOf.loop4 x2 x3 x219 rest260 (k258 + 1) q267)
def Fishref2BoardOf.loop3 (x0 : ApiDay) (x2 : Int) (x3 : Int) : (List ApiTrain) → (List Fishref2Row) → Option (List Fishref2Row)
  | [], q227 => some q227
  | x219 :: rest220, q227 => (if decide ((Fishref2byNo x0 x219.No) ≥ 0) then Fishref2BoardOf.loop3 x0 x2 x3 rest220 q227 else ((cutl x219.Stops 0 (w64 (((x219.Stops).length : Int) - 1))).bind fun x247 => ((Fishref2BoardOf.loop4 x2 x3 x219 x247 0 q227).bind fun q267 => Fishref2BoardOf.loop3 x0 x2 x3 rest220 q267)))
def Fishref2BoardOf.loop5 : (List Fishref2Row) → (List GuideLine) → Option (List GuideLine)
  | [], q328 => some q328
  | x320 :: rest321, q328 => ((apd q328 [x320.Line]).bind fun x342 => Fishref2BoardOf.loop5 rest321 x342)
def Fishref2BoardOf (x0 : ApiDay) (x1 : ApiDay) (x2 : Int) (x3 : Int) (x4 : Int) : Option (List GuideLine) := ((Fishref2BoardOf.loop1 x1 x2 x3 x0.Trains []).bind fun q67 => ((Fishref2BoardOf.loop3 x0 x2 x3 x1.Trains q67).bind fun q227 => ((srtF Fishref2BoardOf_2T q227).bind fun q301 => ((cutl q301 0 (mn x4 ((q301.length : Nat) : Int))).bind fun x308 => ((Fishref2BoardOf.loop5 x308 []).bind fun q328 => some q328)))))
def SlicesEqualLguideLine.loop1 (x1 : List GuideLine) : (List GuideLine) → Nat → Option (Out Bool Unit)
  | [], _ => some (.next ())
  | x55 :: rest56, k54 => ((gx x1 ((k54 : Nat) : Int)).bind fun x68 => (if !((x55.Time == x68.Time) && ((x55.Late == x68.Late) && ((x55.No == x68.No) && ((x55.To == x68.To) && ((x55.Track == x68.Track) && (x55.Ends == x68.Ends)))))) then some (.ret false) else SlicesEqualLguideLine.loop1 x1 rest56 (k54 + 1)))
def SlicesEqualLguideLine (x0 : List GuideLine) (x1 : List GuideLine) : Option Bool := (if (((x0).length : Int) != ((x1).length : Int)) then some false else ((SlicesEqualLguideLine.loop1 x1 x0 0).bind fun q53 => match q53 with | .ret r => some r | .next () => some true))
noncomputable def Fishlaw2GuideBoards (fu : Nat) (x0 : ApiDay) (x1 : ApiDay) (x2 : Int) (x3 : Int) (x4 : Int) : Option Bool := ((GuideBoard fu x0 x1 x2 x3 x4).bind fun q53 => ((Fishref2GuideFault x0).bind fun q63 => (((if (q63 == 0) then ((Fishref2GuideFault x1).bind fun q72 => some q72) else some q63) : Option Int).bind fun q69 => (bnd ((if (q69 == 0) then (if decide (x2 < 0) then true else decide (x2 ≥ 12)) else false) : Bool) fun q78 => (bnd ((if q78 then 3 else q69) : Int) fun q86 => (bnd ((if (q86 == 0) then (if decide (x3 < 0) then true else (if decide (x3 > 28800) then true else (if decide (x4 < 0) then true else decide (x4 > 40)))) else false) : Bool) fun q93 => (bnd ((if q93 then 2 else q86) : Int) fun q103 => (if (q103 != 0) then ((((Fishlaw2guides fu).bind fun q113 => (if q113 then (if (q53.2 == q103) then some (((q53.1.length : Nat) : Int) == 0) else some false) else some false)) : Option Bool).bind fun q111 => some q111) else ((((Fishlaw2guides fu).bind fun q123 => (if q123 then (if (q53.2 == 0) then ((Fishref2BoardOf x0 x1 x2 x3 x4).bind fun q127 => ((SlicesEqualLguideLine q53.1 q127).bind fun q137 => some q137)) else some false) else some false)) : Option Bool).bind fun q121 => some q121)))))))))
end Go.Fp
