/- The mirrors of the functions that GuideSurest reaches: plain Lean functions on data. No condition. -/
import Derived.Test.YtpcebngchmgckaaGreatDoorFpAllX
import Derived.Test.YtpcebngchmgckaaGreatDoorFpInD
import Derived.Test.YtpcebngchmgckaaGreatDoorFpMapG
import Derived.Test.YtpcebngchmgckaaGreatDoorFpMaps
import Derived.Test.YtpcebngchmgckaaGreatDoorFpOrc
namespace Go.Fp
structure ApiStop where
  Station : Int
  Track : Int
  Arr : Int
  Dep : Int
  deriving DecidableEq, Inhabited
-- ApiStop is of one size
def InApiStop (x : ApiStop) : Prop := inI x.Station ∧ inI x.Track ∧ inI x.Arr ∧ inI x.Dep
def ApiStop.cells (x : ApiStop) : List Go.Value := [.int .i64 x.Station, .int .i64 x.Track, .int .i64 x.Arr, .int .i64 x.Dep]
def RApiStop : Rd ApiStop := fun _ cs x => cs = x.cells
theorem RApiStop.mono : Rmono RApiStop := fun _ _ _ _ _ h => h
theorem RApiStop.one : Rone RApiStop := by intro s cs x h; subst h; rfl

structure ApiTrain where
  No : Int
  Stock : Int
  Stops : List ApiStop
  Legs : List (List Int)
  deriving DecidableEq, Inhabited
def szApiTrain (x : ApiTrain) : Nat := (szL sz1) x.Stops + (szL (szL sz1)) x.Legs + 1
def InApiTrain (x : ApiTrain) : Prop := inI x.No ∧ inI x.Stock ∧ (inL InApiStop) x.Stops ∧ (inL (inL inI)) x.Legs
def RApiTrain : Rd ApiTrain := fun s cs x => ∃ a0 c0 a1 c1, cs = [.int .i64 x.No, .int .i64 x.Stock, .slice a0 x.Stops.length c0, .slice a1 x.Legs.length c1] ∧ Sl 4 RApiStop s a0 c0 x.Stops ∧ Sl 1 (RL 1 (RI .i64)) s a1 c1 x.Legs
theorem RApiTrain.one : Rone RApiTrain := by rintro s cs x ⟨a0, c0, a1, c1, rfl, _⟩; rfl
theorem RApiTrain.mono : Rmono RApiTrain := fun _ _ h _ _ ⟨a0, c0, a1, c1, e, h0, h1⟩ => ⟨a0, c0, a1, c1, e, h0.mono RApiStop.mono h, h1.mono (RL.mono RI.mono) h⟩

structure ApiDay where
  Trains : List ApiTrain
  Turns : List (List Int)
  deriving DecidableEq, Inhabited
def szApiDay (x : ApiDay) : Nat := (szL szApiTrain) x.Trains + (szL (szL sz1)) x.Turns + 1
def InApiDay (x : ApiDay) : Prop := (inL InApiTrain) x.Trains ∧ (inL (inL inI)) x.Turns
def RApiDay : Rd ApiDay := fun s cs x => ∃ a0 c0 a1 c1, cs = [.slice a0 x.Trains.length c0, .slice a1 x.Turns.length c1] ∧ Sl 4 RApiTrain s a0 c0 x.Trains ∧ Sl 1 (RL 1 (RI .i64)) s a1 c1 x.Turns
theorem RApiDay.one : Rone RApiDay := by rintro s cs x ⟨a0, c0, a1, c1, rfl, _⟩; rfl
theorem RApiDay.mono : Rmono RApiDay := fun _ _ h _ _ ⟨a0, c0, a1, c1, e, h0, h1⟩ => ⟨a0, c0, a1, c1, e, h0.mono RApiTrain.mono h, h1.mono (RL.mono RI.mono) h⟩

structure Ar3i64 where
  f0 : Int
  f1 : Int
  f2 : Int
  deriving DecidableEq, Inhabited
-- Ar3i64 is of one size
def Ar3i64.cells (x : Ar3i64) : List Go.Value := [.int .i64 x.f0, .int .i64 x.f1, .int .i64 x.f2]
def RAr3i64 : Rd Ar3i64 := fun _ cs x => cs = x.cells
theorem RAr3i64.mono : Rmono RAr3i64 := fun _ _ _ _ _ h => h
theorem RAr3i64.one : Rone RAr3i64 := by intro s cs x h; subst h; rfl

structure GuideCases where
  holds : Int
  all : Int
  late : Int
  deriving DecidableEq, Inhabited
-- GuideCases is of one size
def InGuideCases (x : GuideCases) : Prop := inI x.holds ∧ inI x.all ∧ inI x.late
def GuideCases.cells (x : GuideCases) : List Go.Value := [.int .i64 x.holds, .int .i64 x.all, .int .i64 x.late]
def RGuideCases : Rd GuideCases := fun _ cs x => cs = x.cells
theorem RGuideCases.mono : Rmono RGuideCases := fun _ _ _ _ _ h => h
theorem RGuideCases.one : Rone RGuideCases := by intro s cs x h; subst h; rfl

structure GuideRide where
  Train : Int
  On : Int
  Off : Int
  deriving DecidableEq, Inhabited
-- GuideRide is of one size
def InGuideRide (x : GuideRide) : Prop := inI x.Train ∧ inI x.On ∧ inI x.Off
def GuideRide.cells (x : GuideRide) : List Go.Value := [.int .i64 x.Train, .int .i64 x.On, .int .i64 x.Off]
def RGuideRide : Rd GuideRide := fun _ cs x => cs = x.cells
theorem RGuideRide.mono : Rmono RGuideRide := fun _ _ _ _ _ h => h
theorem RGuideRide.one : Rone RGuideRide := by intro s cs x h; subst h; rfl

structure GuideJourney where
  Rides : List GuideRide
  deriving DecidableEq, Inhabited
def szGuideJourney (x : GuideJourney) : Nat := (szL sz1) x.Rides + 1
def InGuideJourney (x : GuideJourney) : Prop := (inL InGuideRide) x.Rides
def RGuideJourney : Rd GuideJourney := fun s cs x => ∃ a0 c0, cs = [.slice a0 x.Rides.length c0] ∧ Sl 3 RGuideRide s a0 c0 x.Rides
theorem RGuideJourney.one : Rone RGuideJourney := by rintro s cs x ⟨a0, c0, rfl, _⟩; rfl
theorem RGuideJourney.mono : Rmono RGuideJourney := fun _ _ h _ _ ⟨a0, c0, e, h0⟩ => ⟨a0, c0, e, h0.mono RGuideRide.mono h⟩

structure GuideNet where
  Day : ApiDay
  least : Int
  deriving DecidableEq, Inhabited
def szGuideNet (x : GuideNet) : Nat := szApiDay x.Day + 1
def InGuideNet (x : GuideNet) : Prop := InApiDay x.Day ∧ inI x.least
def RGuideNet : Rd GuideNet := fun s cs x => ∃ a0 c0 a1 c1, cs = [.slice a0 x.Day.Trains.length c0, .slice a1 x.Day.Turns.length c1, .int .i64 x.least] ∧ Sl 4 RApiTrain s a0 c0 x.Day.Trains ∧ Sl 1 (RL 1 (RI .i64)) s a1 c1 x.Day.Turns
theorem RGuideNet.one : Rone RGuideNet := by rintro s cs x ⟨a0, c0, a1, c1, rfl, _⟩; rfl
theorem RGuideNet.mono : Rmono RGuideNet := fun _ _ h _ _ ⟨a0, c0, a1, c1, e, h0, h1⟩ => ⟨a0, c0, a1, c1, e, h0.mono RApiTrain.mono h, h1.mono (RL.mono RI.mono) h⟩

structure GuideOdds where
  Train : Int
  Late : List Int
  Weight : List Int
  deriving DecidableEq, Inhabited
def szGuideOdds (x : GuideOdds) : Nat := (szL sz1) x.Late + (szL sz1) x.Weight + 1
def InGuideOdds (x : GuideOdds) : Prop := inI x.Train ∧ (inL inI) x.Late ∧ (inL inI) x.Weight
def RGuideOdds : Rd GuideOdds := fun s cs x => ∃ a0 c0 a1 c1, cs = [.int .i64 x.Train, .slice a0 x.Late.length c0, .slice a1 x.Weight.length c1] ∧ Sl 1 (RI .i64) s a0 c0 x.Late ∧ Sl 1 (RI .i64) s a1 c1 x.Weight
theorem RGuideOdds.one : Rone RGuideOdds := by rintro s cs x ⟨a0, c0, a1, c1, rfl, _⟩; rfl
theorem RGuideOdds.mono : Rmono RGuideOdds := fun _ _ h _ _ ⟨a0, c0, a1, c1, e, h0, h1⟩ => ⟨a0, c0, a1, c1, e, h0.mono RI.mono h, h1.mono RI.mono h⟩

structure GuidePlace where
  train : Int
  off : Int
  deriving DecidableEq, Inhabited
-- GuidePlace is of one size
def InGuidePlace (x : GuidePlace) : Prop := inI x.train ∧ inI x.off
def GuidePlace.cells (x : GuidePlace) : List Go.Value := [.int .i64 x.train, .int .i64 x.off]
def RGuidePlace : Rd GuidePlace := fun _ cs x => cs = x.cells
theorem RGuidePlace.mono : Rmono RGuidePlace := fun _ _ _ _ _ h => h
theorem RGuidePlace.one : Rone RGuidePlace := by intro s cs x h; subst h; rfl

structure GuidePoint where
  Dep : Int
  Arr : Int
  Rides : Int
  deriving DecidableEq, Inhabited
-- GuidePoint is of one size
def InGuidePoint (x : GuidePoint) : Prop := inI x.Dep ∧ inI x.Arr ∧ inI x.Rides
def GuidePoint.cells (x : GuidePoint) : List Go.Value := [.int .i64 x.Dep, .int .i64 x.Arr, .int .i64 x.Rides]
def RGuidePoint : Rd GuidePoint := fun _ cs x => cs = x.cells
theorem RGuidePoint.mono : Rmono RGuidePoint := fun _ _ _ _ _ h => h
theorem RGuidePoint.one : Rone RGuidePoint := by intro s cs x h; subst h; rfl
def Planform.loop2 : (List (List Int)) → Out Int Unit
  | [] => (.next ())
  | x94 :: rest95 => (if (((x94).length : Int) == 0) then (.ret 1) else Planform.loop2 rest95)
def Planform.loop3 : (List (List Int)) → Out Int Unit
  | [] => (.next ())
  | x115 :: rest116 => (if decide (((x115).length : Int) > 4) then (.ret 4) else Planform.loop3 rest116)
def Planform.loop1 : (List ApiTrain) → Out Int Unit
  | [] => (.next ())
  | x63 :: rest64 => (bnd ((if (((x63.Stops).length : Int) == 0) then true else (((x63.Legs).length : Int) != (w64 (((x63.Stops).length : Int) - 1)))) : Bool) fun q87 => (if q87 then (.ret 1) else (bnd (Planform.loop2 x63.Legs) fun q92 => match q92 with | .ret r => (.ret r) | .next () => (if decide (((x63.Stops).length : Int) > 8) then (.ret 4) else (bnd (Planform.loop3 x63.Legs) fun q113 => match q113 with | .ret r => (.ret r) | .next () => Planform.loop1 rest64)))))
def Planform.loop4 : (List (List Int)) → Out Int Unit
  | [] => (.next ())
  | x135 :: rest136 => (if (((x135).length : Int) == 0) then (.ret 1) else (if decide (((x135).length : Int) > 12) then (.ret 4) else Planform.loop4 rest136))
def Planform (x0 : ApiDay) : Int := (bnd ((if decide (((x0.Trains).length : Int) > 12) then true else decide (((x0.Turns).length : Int) > 8)) : Bool) fun q56 => (if q56 then 4 else (bnd (Planform.loop1 x0.Trains) fun q61 => match q61 with | .ret r => r | .next () => (bnd (Planform.loop4 x0.Turns) fun q133 => match q133 with | .ret r => r | .next () => 0))))
def Planwithin (x0 : Int) (x1 : Int) (x2 : Int) : Bool := (bnd ((if decide (x0 ≥ x1) then decide (x0 ≤ x2) else false) : Bool) fun q55 => q55)
def Plansentence.loop1 : (List Int) → ByteArray → Option ByteArray
  | [], q62 => some q62
  | x54 :: rest55, q62 => ((itoa x54).bind fun q68 => ((scat (str [32]) q68).bind fun x70 => ((scat q62 x70).bind fun x72 => Plansentence.loop1 rest55 x72)))
def Plansentence (x0 : ByteArray) (x1 : List Int) : Option ByteArray := ((Plansentence.loop1 x1 x0).bind fun q62 => ((scat q62 (str [10])).bind fun x74 => some x74))
def PlanText_1_v1.loop1 : (List Int) → Bool → Bool
  | [], q64 => q64
  | x56 :: rest57, q64 => (bnd ((if q64 then (Planwithin x56 0 999999) else false) : Bool) fun q74 => PlanText_1_v1.loop1 rest57 q74)
def PlanText_1_v1 (x0 : ByteArray) (x1 : List Int) (y0 : Bool) (y1_0 : ByteArray) : Option (Bool × ByteArray) := (bnd (PlanText_1_v1.loop1 x1 y0) fun q64 => ((Plansentence x0 x1).bind fun q77 => ((sbw y1_0 q77).bind fun q79 => some (q64, q79))))
def PlanText.loop2 : (List ApiStop) → ByteArray → Bool → Option (ByteArray × Bool)
  | [], q99, q100 => some (q99, q100)
  | x91 :: rest92, q99, q100 => ((PlanText_1_v1 (str [115, 116, 111, 112]) [x91.Station, x91.Track, x91.Arr, x91.Dep] q100 q99).bind fun q113 => PlanText.loop2 rest92 q113.2 q113.1)
def PlanText.loop3 : (List (List Int)) → ByteArray → Bool → Option (ByteArray × Bool)
  | [], q126, q127 => some (q126, q127)
  | x118 :: rest119, q126, q127 => ((PlanText_1_v1 (str [108, 101, 103]) x118 q127 q126).bind fun q136 => PlanText.loop3 rest119 q136.2 q136.1)
def PlanText.loop1 : (List ApiTrain) → ByteArray → Bool → Option (ByteArray × Bool)
  | [], q66, q67 => some (q66, q67)
  | x58 :: rest59, q66, q67 => ((PlanText_1_v1 (str [116, 114, 97, 105, 110]) [x58.No, x58.Stock] q67 q66).bind fun q86 => ((PlanText.loop2 x58.Stops q86.2 q86.1).bind fun q89 => match q89 with | (q99, q100) => ((PlanText.loop3 x58.Legs q99 q100).bind fun q116 => match q116 with | (q126, q127) => PlanText.loop1 rest59 q126 q127)))
def PlanText.loop4 : (List (List Int)) → ByteArray → Bool → Option (ByteArray × Bool)
  | [], q149, q150 => some (q149, q150)
  | x141 :: rest142, q149, q150 => ((PlanText_1_v1 (str [116, 117, 114, 110]) x141 q150 q149).bind fun q159 => PlanText.loop4 rest142 q159.2 q159.1)
def PlanText (x0 : ApiDay) : Option (ByteArray × Int) := (if ((Planform x0) != 0) then some ((str []), (Planform x0)) else ((PlanText.loop1 x0.Trains ByteArray.empty true).bind fun q56 => match q56 with | (q66, q67) => ((PlanText.loop4 x0.Turns q66 q67).bind fun q139 => match q139 with | (q149, q150) => (if !q150 then some ((str []), 2) else some (q149, 0)))))
def Guidewithin (x0 : Int) (x1 : Int) (x2 : Int) : Bool := (bnd ((if decide (x0 ≥ x1) then decide (x0 ≤ x2) else false) : Bool) fun q55 => q55)
def GuideCheck.loop2 (x59 : ApiTrain) : (List ApiStop) → Nat → Option (Out Int Unit)
  | [], _ => some (.next ())
  | x86 :: rest87, k85 => (bnd ((if !(Guidewithin x86.Station 0 11) then true else (if !(Guidewithin x86.Arr 0 28800) then true else !(Guidewithin x86.Dep 0 28800))) : Bool) fun q104 => (if q104 then some (.ret 2) else (((if decide (x86.Dep < x86.Arr) then some true else (if decide (((k85 : Nat) : Int) > 0) then ((gx x59.Stops (w64 (((k85 : Nat) : Int) - 1))).bind fun x117 => some (decide (x86.Arr ≤ x117.Dep))) else some false)) : Option Bool).bind fun q113 => (if q113 then some (.ret 5) else GuideCheck.loop2 x59 rest87 (k85 + 1)))))
def GuideCheck.loop1 : (List ApiTrain) → (List (Int × Bool)) → Option (Out Int (List (Int × Bool)))
  | [], q67 => some (.next q67)
  | x59 :: rest60, q67 => (if !(Guidewithin x59.No 1 9999) then some (.ret 2) else (if ((mget q67 x59.No).getD false) then some (.ret 6) else (if decide (((x59.Stops).length : Int) < 2) then some (.ret 1) else ((GuideCheck.loop2 x59 x59.Stops 0).bind fun q84 => match q84 with | .ret r => some (.ret r) | .next () => GuideCheck.loop1 rest60 (mput q67 x59.No true)))))
def GuideCheck (x0 : ApiDay) : Option Int := ((PlanText x0).bind fun q52 => (if (q52.2 != 0) then some q52.2 else ((GuideCheck.loop1 x0.Trains []).bind fun q57 => match q57 with | .ret r => some r | .next _ => some 0)))
def GuidecheckLeast (x0 : ApiDay) (x1 : Int) : Option Int := ((GuideCheck x0).bind fun q52 => (if (q52 != 0) then some q52 else (if !(Guidewithin x1 0 28800) then some 2 else some 0)))
def Guidecheck.loop1 : (List Int) → Out Int Unit
  | [] => (.next ())
  | x67 :: rest68 => (if !(Guidewithin x67 0 28800) then (.ret 2) else Guidecheck.loop1 rest68)
def Guidecheck (x0 : ApiDay) (x1 : Int) (x2 : Int) (x3 : Int) (x4 : List Int) : Option Int := ((GuidecheckLeast x0 x1).bind fun q52 => (if (q52 != 0) then some q52 else (bnd ((if !(Guidewithin x2 0 11) then true else !(Guidewithin x3 0 11)) : Bool) fun q59 => (if q59 then some 3 else (if (x2 == x3) then some 1 else (bnd (Guidecheck.loop1 x4) fun q65 => match q65 with | .ret r => some r | .next () => some 0))))))
def GuidecheckOdds_1_v1 (x0 : GuideOdds) (y0 : GuideOdds) : Bool := (x0.Train == y0.Train)
def SlicesIndexFuncLguideOdds_v1.loop1 (y0 : GuideOdds) : (List GuideOdds) → Nat → Out Int Unit
  | [], _ => (.next ())
  | x54 :: rest55, k53 => (if (GuidecheckOdds_1_v1 x54 y0) then (.ret ((k53 : Nat) : Int)) else SlicesIndexFuncLguideOdds_v1.loop1 y0 rest55 (k53 + 1))
def SlicesIndexFuncLguideOdds_v1 (x0 : List GuideOdds) (y0 : GuideOdds) : Int := (bnd (SlicesIndexFuncLguideOdds_v1.loop1 y0 x0 0) fun q52 => match q52 with | .ret r => r | .next () => (-1))
def SlicesContainsFuncLguideOdds_v1 (x0 : List GuideOdds) (y0 : GuideOdds) : Bool := decide ((SlicesIndexFuncLguideOdds_v1 x0 y0) ≥ 0)
def GuidecheckOdds.loop2 (x56 : GuideOdds) : (List Int) → Nat → Option (Out Int Unit)
  | [], _ => some (.next ())
  | x92 :: rest93, k91 => (((if !(Guidewithin x92 0 28800) then some true else ((gx x56.Weight ((k91 : Nat) : Int)).bind fun x112 => some (!(Guidewithin x112 1 10)))) : Option Bool).bind fun q109 => (if q109 then some (.ret 2) else (((if decide (((k91 : Nat) : Int) > 0) then ((gx x56.Late (w64 (((k91 : Nat) : Int) - 1))).bind fun x129 => some (decide (x92 ≤ x129))) else some false) : Option Bool).bind fun q126 => (if q126 then some (.ret 5) else GuidecheckOdds.loop2 x56 rest93 (k91 + 1)))))
def GuidecheckOdds.loop1 (x0 : ApiDay) (x1 : List GuideOdds) : (List GuideOdds) → Nat → Option (Out Int Unit)
  | [], _ => some (.next ())
  | x56 :: rest57, k55 => (if !(Guidewithin x56.Train 0 (w64 (((x0.Trains).length : Int) - 1))) then some (.ret 3) else ((cutl x1 0 ((k55 : Nat) : Int)).bind fun x77 => (if (SlicesContainsFuncLguideOdds_v1 x77 x56) then some (.ret 6) else (if (((x56.Late).length : Int) != ((x56.Weight).length : Int)) then some (.ret 1) else (if !(Guidewithin ((x56.Late).length : Int) 1 6) then some (.ret 4) else ((GuidecheckOdds.loop2 x56 x56.Late 0).bind fun q90 => match q90 with | .ret r => some (.ret r) | .next () => GuidecheckOdds.loop1 x0 x1 rest57 (k55 + 1)))))))
def GuidecheckOdds (x0 : ApiDay) (x1 : List GuideOdds) : Option Int := (if decide (((x1).length : Int) > 12) then some 4 else ((GuidecheckOdds.loop1 x0 x1 x1 0).bind fun q54 => match q54 with | .ret r => some r | .next () => some 0))

    def ridesF (t on : Nat) : Nat → Nat → List GuideRide
      | 0, _ => []
      | r + 1, off => ⟨(t : Int), (on : Int), (off : Int)⟩ :: ridesF t on r (off + 1)
    def ridesS (station at_ : Int) (t len : Nat) : List ApiStop → Nat → List GuideRide
      | [], _ => []
      | x :: r, on => (if x.Station ≠ station ∨ x.Dep < at_ then [] else ridesF t on (len - (on + 1)) (on + 1)) ++ ridesS station at_ t len r (on + 1)
    def ridesT (station at_ nt : Int) : List ApiTrain → Nat → List GuideRide
      | [], _ => []
      | x :: r, t => (if (t : Int) = nt then [] else ridesS station at_ t x.Stops.length x.Stops 0) ++ ridesT station at_ nt r (t + 1)
    
def GuideNetrides (x0 : GuideNet) (x1 : Int) (x2 : Int) (x3 : Int) : (List GuideRide) := (ridesT x1 x2 x3 x0.Day.Trains 0)
def GuideNetoff (x0 : GuideNet) (x1 : GuideRide) : Option ApiStop := ((gx x0.Day.Trains x1.Train).bind fun x55 => ((gx x55.Stops x1.Off).bind fun x70 => some x70))
def SlicesIndexLint.loop1 (x1 : Int) : (List Int) → Nat → Out Int Unit
  | [], _ => (.next ())
  | x54 :: rest55, k53 => (if (x1 == x54) then (.ret ((k53 : Nat) : Int)) else SlicesIndexLint.loop1 x1 rest55 (k53 + 1))
def SlicesIndexLint (x0 : List Int) (x1 : Int) : Int := (bnd (SlicesIndexLint.loop1 x1 x0 0) fun q52 => match q52 with | .ret r => r | .next () => (-1))
def SlicesContainsLint (x0 : List Int) (x1 : Int) : Bool := decide ((SlicesIndexLint x0 x1) ≥ 0)
def GuideNetcount_1_1_v1 (x0 : GuideOdds) (y0 : List Int) (y1 : Int) : Option Bool := ((gx y0 y1).bind fun x52 => some (x0.Train == x52))
def SlicesIndexFuncLguideOdds_v2.loop1 (y0 : List Int) (y1 : Int) : (List GuideOdds) → Nat → Option (Out Int Unit)
  | [], _ => some (.next ())
  | x54 :: rest55, k53 => ((GuideNetcount_1_1_v1 x54 y0 y1).bind fun q73 => (if q73 then some (.ret ((k53 : Nat) : Int)) else SlicesIndexFuncLguideOdds_v2.loop1 y0 y1 rest55 (k53 + 1)))
def SlicesIndexFuncLguideOdds_v2 (x0 : List GuideOdds) (y0 : List Int) (y1 : Int) : Option Int := ((SlicesIndexFuncLguideOdds_v2.loop1 y0 y1 x0 0).bind fun q52 => match q52 with | .ret r => some r | .next () => some (-1))
def GuideNeton (x0 : GuideNet) (x1 : GuideRide) : Option ApiStop := ((gx x0.Day.Trains x1.Train).bind fun x55 => ((gx x55.Stops x1.On).bind fun x70 => some x70))
def GuideNetcount_1_v1.loop1 (x0 : Int) (x1 : Int) (y0 : List Int) (y1 : List GuideOdds) (y5 : GuideJourney) (y6 : GuideNet) (self_GuideNetcount_1_v1 : Int → Int → (List Int) → (List GuideOdds) → (List (Int × Int)) → GuideCases → GuideJourney → GuideNet → Option ((List (Int × Int)) × Int × Int × Int)) (q57 : Int) : (List Int) → Nat → (List (Int × Int)) → Int → Int → Int → Option ((List (Int × Int)) × Int × Int × Int)
  | [], _, q88, q89, q90, q91 => some (q88, q89, q90, q91)
  | x80 :: rest81, k79, q88, q89, q90, q91 => ((gx y0 x0).bind fun x98 => ((gx y1 q57).bind fun x109 => ((gx x109.Weight ((k79 : Nat) : Int)).bind fun x124 => ((self_GuideNetcount_1_v1 (w64 (x0 + 1)) (w64 (x1 * x124)) y0 y1 (mput q88 x98 x80) (GuideCases.mk q89 q90 q91) y5 y6).bind fun q133 => GuideNetcount_1_v1.loop1 x0 x1 y0 y1 y5 y6 self_GuideNetcount_1_v1 q57 rest81 (k79 + 1) q133.1 q133.2.1 q133.2.2.1 q133.2.2.2))))
def GuideNetcount_1_v1.loop2 (x1 : Int) (y3_0 : List (Int × Int)) (y4 : GuideCases) (y5 : GuideJourney) (y6 : GuideNet) : (List GuideRide) → Nat → Option (Out ((List (Int × Int)) × Int × Int × Int) Unit)
  | [], _ => some (.next ())
  | x138 :: rest139, k137 => (((if decide (((k137 : Nat) : Int) > 0) then ((gx y5.Rides (w64 (((k137 : Nat) : Int) - 1))).bind fun x158 => ((GuideNetoff y6 x158).bind fun q169 => ((GuideNeton y6 x138).bind fun q175 => (if decide ((w64 ((w64 (q169.Arr + ((mget y3_0 x158.Train).getD 0))) + y6.least)) > (w64 (q175.Dep + ((mget y3_0 x138.Train).getD 0)))) then some (.ret (y3_0, y4.holds, w64 (y4.all + x1), y4.late)) else some (.next ()))))) else some (.next ())) : Option (Out ((List (Int × Int)) × Int × Int × Int) Unit)).bind fun q153 => match q153 with | .ret r => some (.ret r) | .next () => GuideNetcount_1_v1.loop2 x1 y3_0 y4 y5 y6 rest139 (k137 + 1))
def GuideNetcount_1_v1 : Nat → Int → Int → (List Int) → (List GuideOdds) → (List (Int × Int)) → GuideCases → GuideJourney → GuideNet → Option ((List (Int × Int)) × Int × Int × Int)
  | 0, _, _, _, _, _, _, _, _ => none
  | fu + 1, x0, x1, y0, y1, y3_0, y4, y5, y6 => (if decide (x0 < ((y0.length : Nat) : Int)) then ((SlicesIndexFuncLguideOdds_v2 y1 y0 x0).bind fun q57 => (if decide (q57 < 0) then (((GuideNetcount_1_v1 fu) (w64 (x0 + 1)) x1 y0 y1 y3_0 y4 y5 y6).bind fun q60 => some (q60.1, q60.2.1, q60.2.2.1, q60.2.2.2)) else ((gx y1 q57).bind fun x62 => ((GuideNetcount_1_v1.loop1 x0 x1 y0 y1 y5 y6 (GuideNetcount_1_v1 fu) q57 x62.Late 0 y3_0 y4.holds y4.all y4.late).bind fun q78 => match q78 with | (q88, q89, q90, q91) => some (q88, q89, q90, q91))))) else ((GuideNetcount_1_v1.loop2 x1 y3_0 y4 y5 y6 y5.Rides 0).bind fun q136 => match q136 with | .ret r => some r | .next () => ((gx y5.Rides (w64 (((y5.Rides).length : Int) - 1))).bind fun x183 => some (y3_0, w64 (y4.holds + x1), w64 (y4.all + x1), w64 (y4.late + (w64 (x1 * ((mget y3_0 x183.Train).getD 0))))))))
def GuideNetcount.loop1 : (List GuideRide) → (List Int) → Option (List Int)
  | [], q68 => some q68
  | x60 :: rest61, q68 => (((if !(SlicesContainsLint q68 x60.Train) then ((apd q68 [x60.Train]).bind fun x99 => some x99) else some q68) : Option (List Int)).bind fun q89 => GuideNetcount.loop1 rest61 q89)
def GuideNetcount (fu : Nat) (x0 : GuideNet) (x1 : GuideJourney) (x2 : List GuideOdds) : Option GuideCases := ((GuideNetcount.loop1 x1.Rides []).bind fun q68 => ((GuideNetcount_1_v1 fu 0 1 q68 x2 [] (GuideCases.mk 0 0 0) x1 x0).bind fun q109 => some (GuideCases.mk q109.2.1 q109.2.2.1 q109.2.2.2)))
def CmpisNaNint (x0 : Int) : Bool := (x0 != x0)
def CmpCompareint (x0 : Int) (x1 : Int) : Int := (if (CmpisNaNint x0) then (if (CmpisNaNint x1) then 0 else (-1)) else (if (CmpisNaNint x1) then 1 else (if decide (x0 < x1) then (-1) else (if decide (x0 > x1) then 1 else 0))))
def CmpOrint.loop1 : (List Int) → Out Int Unit
  | [] => (.next ())
  | x54 :: rest55 => (if (x54 != 0) then (.ret x54) else CmpOrint.loop1 rest55)
def CmpOrint (x0 : List Int) : Int := (bnd (CmpOrint.loop1 x0) fun q52 => match q52 with | .ret r => r | .next () => 0)
def GuideSurest_1_v1 (x0 : List GuideRide) (x1 : GuideCases) (y0 : List GuideRide) (y1 : GuideCases) (y2 : GuideNet) : Option Int := (if y0.isEmpty then some 1 else ((gx x0 (w64 (((x0).length : Int) - 1))).bind fun x54 => ((gx y0 (w64 (((y0).length : Int) - 1))).bind fun x63 => ((gx x0 0).bind fun x76 => ((gx y0 0).bind fun x85 => ((GuideNetoff y2 x63).bind fun q94 => ((GuideNetoff y2 x54).bind fun q100 => ((GuideNeton y2 x76).bind fun q106 => ((GuideNeton y2 x85).bind fun q112 => some (CmpOrint [(CmpCompareint (w64 (x1.holds * y1.all)) (w64 (y1.holds * x1.all))), (CmpCompareint q94.Arr q100.Arr), (CmpCompareint ((y0).length : Int) ((x0).length : Int)), (CmpCompareint q106.Dep q112.Dep)]))))))))))
def GuideNetbehind (x0 : GuideNet) (x1 : GuideRide) : Option (List GuideRide) := ((GuideNetoff x0 x1).bind fun q53 => (bnd (GuideNetrides x0 q53.Station (w64 (q53.Arr + x0.least)) x1.Train) fun q60 => some q60))
def SlicesCloneLguideRide (x0 : List GuideRide) : Option (List GuideRide) := ((apd [] x0).bind fun x56 => some x56)
def GuideSurest_2_v1.loop1 (x0 : List GuideRide) (y0 : GuideNet) (y1 : Int) (y2 : List GuideOdds) (y5 : Int) (self_GuideSurest_2_v1 : (List GuideRide) → GuideNet → Int → (List GuideOdds) → (List GuideRide) → GuideCases → Int → Option ((List GuideRide) × Int × Int × Int)) : List GuideRide → (List GuideRide) → Int → Int → Int → Option ((List GuideRide) × Int × Int × Int)
  | [], q153, q158, q159, q160 => some (q153, q158, q159, q160)
  | x142 :: rest143, q153, q158, q159, q160 => ((SlicesCloneLguideRide x0).bind fun q165 => ((apd q165 [x142]).bind fun x174 => ((self_GuideSurest_2_v1 x174 y0 y1 y2 q153 (GuideCases.mk q158 q159 q160) y5).bind fun q186 => GuideSurest_2_v1.loop1 x0 y0 y1 y2 y5 self_GuideSurest_2_v1 rest143 q186.1 q186.2.1 q186.2.2.1 q186.2.2.2)))
def GuideSurest_2_v1 : Nat → (List GuideRide) → GuideNet → Int → (List GuideOdds) → (List GuideRide) → GuideCases → Int → Option ((List GuideRide) × Int × Int × Int)
  | 0, _, _, _, _, _, _, _ => none
  | fu + 1, x0, y0, y1, y2, y3, y4, y5 => ((gx x0 (w64 (((x0).length : Int) - 1))).bind fun x68 => ((GuideNetoff y0 x68).bind fun q79 => (if decide (q79.Arr > y1) then some (y3, y4.holds, y4.all, y4.late) else ((GuideNetcount fu y0 (GuideJourney.mk x0) y2).bind fun q86 => (bnd ((if !y3.isEmpty then decide ((w64 (q86.holds * y4.all)) < (w64 (y4.holds * q86.all))) else false) : Bool) fun q97 => (if q97 then some (y3, y4.holds, y4.all, y4.late) else ((((GuideNetoff y0 x68).bind fun q108 => (if (q108.Station == y5) then ((GuideSurest_1_v1 x0 q86 y3 y4 y0).bind fun q115 => some (decide (q115 > 0))) else some false)) : Option Bool).bind fun q105 => (((if q105 then ((nz x0).bind fun _ => some (x0, q86.holds, q86.all, q86.late)) else some (y3, y4.holds, y4.all, y4.late)) : Option ((List GuideRide) × Int × Int × Int)).bind fun q118 => match q118 with | (q121, q126, q127, q128) => (if (((x0).length : Int) == 4) then some (q121, q126, q127, q128) else ((GuideNetbehind y0 x68).bind fun q134 => ((GuideSurest_2_v1.loop1 x0 y0 y1 y2 y5 (GuideSurest_2_v1 fu) q134 q121 q126 q127 q128).bind fun q141 => match q141 with | (q153, q158, q159, q160) => some (q153, q158, q159, q160))))))))))))
def GuideSurest.loop1 (x0 : ApiDay) (x3 : Int) (x4 : Int) (x5 : Int) (x6 : List GuideOdds) (fu : Nat) : List GuideRide → (List GuideRide) → Int → Int → Int → Option ((List GuideRide) × Int × Int × Int)
  | [], q92, q97, q98, q99 => some (q92, q97, q98, q99)
  | x81 :: rest82, q92, q97, q98, q99 => ((GuideSurest_2_v1 fu [x81] (GuideNet.mk x0 x5) x4 x6 q92 (GuideCases.mk q97 q98 q99) x3).bind fun q109 => GuideSurest.loop1 x0 x3 x4 x5 x6 fu rest82 q109.1 q109.2.1 q109.2.2.1 q109.2.2.2)
def GuideSurest (fu : Nat) (x0 : ApiDay) (x1 : Int) (x2 : Int) (x3 : Int) (x4 : Int) (x5 : Int) (x6 : List GuideOdds) : Option (GuideJourney × Int) := ((Guidecheck x0 x5 x1 x3 [x2, x4]).bind fun q62 => (if (q62 != 0) then some ((GuideJourney.mk []), q62) else ((GuidecheckOdds x0 x6).bind fun q65 => (if (q65 != 0) then some ((GuideJourney.mk []), q65) else (bnd (GuideNetrides (GuideNet.mk x0 x5) x1 x2 (-1)) fun q73 => ((GuideSurest.loop1 x0 x3 x4 x5 x6 fu q73 [] 0 0 0).bind fun q80 => match q80 with | (q92, _, _, _) => (if q92.isEmpty then some ((GuideJourney.mk []), 9) else some ((GuideJourney.mk q92), 0))))))))
def Fishref2numbersIn.loop2 : (List ApiStop) → (List (List Int)) → Option (List (List Int))
  | [], q107 => some q107
  | x99 :: rest100, q107 => ((apd q107 [[x99.Station, x99.Track, x99.Arr, x99.Dep]]).bind fun x127 => Fishref2numbersIn.loop2 rest100 x127)
def Fishref2numbersIn.loop1 : (List ApiTrain) → (List (List Int)) → Option (List (List Int))
  | [], q64 => some q64
  | x56 :: rest57, q64 => ((apd q64 [[x56.No, x56.Stock]]).bind fun x90 => ((Fishref2numbersIn.loop2 x56.Stops x90).bind fun q107 => ((apd q107 x56.Legs).bind fun x133 => Fishref2numbersIn.loop1 rest57 x133)))
def Fishref2numbersIn (x0 : ApiDay) : Option (List (List Int)) := ((Fishref2numbersIn.loop1 x0.Trains []).bind fun q64 => ((apd q64 x0.Turns).bind fun x139 => some x139))
def Fishref2within (x0 : Int) (x1 : Int) (x2 : Int) : Bool := (bnd ((if decide (x0 ≥ x1) then decide (x0 ≤ x2) else false) : Bool) fun q55 => q55)
def Fishref2TextFault.loop2 : (List (List Int)) → Out Int Unit
  | [] => (.next ())
  | x94 :: rest95 => (if (((x94).length : Int) == 0) then (.ret 1) else Fishref2TextFault.loop2 rest95)
def Fishref2TextFault.loop3 : (List (List Int)) → Out Int Unit
  | [] => (.next ())
  | x115 :: rest116 => (if decide (((x115).length : Int) > 4) then (.ret 4) else Fishref2TextFault.loop3 rest116)
def Fishref2TextFault.loop1 : (List ApiTrain) → Out Int Unit
  | [] => (.next ())
  | x63 :: rest64 => (bnd ((if (((x63.Stops).length : Int) == 0) then true else (((x63.Legs).length : Int) != (w64 (((x63.Stops).length : Int) - 1)))) : Bool) fun q87 => (if q87 then (.ret 1) else (bnd (Fishref2TextFault.loop2 x63.Legs) fun q92 => match q92 with | .ret r => (.ret r) | .next () => (if decide (((x63.Stops).length : Int) > 8) then (.ret 4) else (bnd (Fishref2TextFault.loop3 x63.Legs) fun q113 => match q113 with | .ret r => (.ret r) | .next () => Fishref2TextFault.loop1 rest64)))))
def Fishref2TextFault.loop4 : (List (List Int)) → Out Int Unit
  | [] => (.next ())
  | x135 :: rest136 => (if (((x135).length : Int) == 0) then (.ret 1) else (if decide (((x135).length : Int) > 12) then (.ret 4) else Fishref2TextFault.loop4 rest136))
def Fishref2TextFault.loop6 : (List Int) → Out Int Unit
  | [] => (.next ())
  | x192 :: rest193 => (if !(Fishref2within x192 0 999999) then (.ret 2) else Fishref2TextFault.loop6 rest193)
def Fishref2TextFault.loop5 (q153 : (List (List Int))) : Nat → Nat → Option (Out Int Unit)
  | 0, _ => some (.next ())
  | rest167 + 1, k165 => ((gx q153 ((k165 : Nat) : Int)).bind fun x176 => (bnd (Fishref2TextFault.loop6 x176) fun q190 => match q190 with | .ret r => some (.ret r) | .next () => Fishref2TextFault.loop5 q153 rest167 (k165 + 1)))
def Fishref2TextFault (x0 : ApiDay) : Option Int := (bnd ((if decide (((x0.Trains).length : Int) > 12) then true else decide (((x0.Turns).length : Int) > 8)) : Bool) fun q56 => (if q56 then some 4 else (bnd (Fishref2TextFault.loop1 x0.Trains) fun q61 => match q61 with | .ret r => some r | .next () => (bnd (Fishref2TextFault.loop4 x0.Turns) fun q133 => match q133 with | .ret r => some r | .next () => ((Fishref2numbersIn x0).bind fun q153 => ((Fishref2TextFault.loop5 q153 q153.length 0).bind fun q164 => match q164 with | .ret r => some r | .next () => some 0))))))
def Fishref2GuideFault.loop2 (x58 : ApiTrain) : (List ApiTrain) → Out Int Unit
  | [] => (.next ())
  | x91 :: rest92 => (if (x91.No == x58.No) then (.ret 6) else Fishref2GuideFault.loop2 x58 rest92)
def Fishref2GuideFault.loop3 (x58 : ApiTrain) : (List ApiStop) → Nat → Option (Out Int Unit)
  | [], _ => some (.next ())
  | x116 :: rest117, k115 => (bnd ((if !(Fishref2within x116.Station 0 11) then true else (if !(Fishref2within x116.Arr 0 28800) then true else !(Fishref2within x116.Dep 0 28800))) : Bool) fun q134 => (if q134 then some (.ret 2) else (((if decide (x116.Dep < x116.Arr) then some true else (if decide (((k115 : Nat) : Int) > 0) then ((gx x58.Stops (w64 (((k115 : Nat) : Int) - 1))).bind fun x147 => some (decide (x116.Arr ≤ x147.Dep))) else some false)) : Option Bool).bind fun q143 => (if q143 then some (.ret 5) else Fishref2GuideFault.loop3 x58 rest117 (k115 + 1)))))
def Fishref2GuideFault.loop1 (x0 : ApiDay) : (List ApiTrain) → Nat → Option (Out Int Unit)
  | [], _ => some (.next ())
  | x58 :: rest59, k57 => (if !(Fishref2within x58.No 1 9999) then some (.ret 2) else ((cutl x0.Trains 0 ((k57 : Nat) : Int)).bind fun x79 => (bnd (Fishref2GuideFault.loop2 x58 x79) fun q89 => match q89 with | .ret r => some (.ret r) | .next () => (if decide (((x58.Stops).length : Int) < 2) then some (.ret 1) else ((Fishref2GuideFault.loop3 x58 x58.Stops 0).bind fun q114 => match q114 with | .ret r => some (.ret r) | .next () => Fishref2GuideFault.loop1 x0 rest59 (k57 + 1))))))
def Fishref2GuideFault (x0 : ApiDay) : Option Int := ((Fishref2TextFault x0).bind fun q52 => (if (q52 != 0) then some q52 else ((Fishref2GuideFault.loop1 x0 x0.Trains 0).bind fun q56 => match q56 with | .ret r => some r | .next () => some 0)))
def Fishref2SearchFault (x0 : Int) (x1 : Int) (x2 : Int) (x3 : Int) (x4 : Bool) (x5 : Bool) : Int := (if !(Fishref2within x0 0 28800) then 2 else (bnd ((if !(Fishref2within x1 0 11) then true else (if x4 then !(Fishref2within x2 0 11) else false)) : Bool) fun q56 => (if q56 then 3 else (bnd ((if x4 then (x1 == x2) else false) : Bool) fun q65 => (if q65 then 1 else (bnd ((if x5 then !(Fishref2within x3 0 28800) else false) : Bool) fun q73 => (if q73 then 2 else 0)))))))
def Fishref2OddsFault.loop2 (x56 : GuideOdds) : (List GuideOdds) → Out Int Unit
  | [] => (.next ())
  | x96 :: rest97 => (if (x96.Train == x56.Train) then (.ret 6) else Fishref2OddsFault.loop2 x56 rest97)
def Fishref2OddsFault.loop3 (x56 : GuideOdds) : (List Int) → Nat → Option (Out Int Unit)
  | [], _ => some (.next ())
  | x122 :: rest123, k121 => (((if !(Fishref2within x122 0 28800) then some true else ((gx x56.Weight ((k121 : Nat) : Int)).bind fun x142 => some (!(Fishref2within x142 1 10)))) : Option Bool).bind fun q139 => (if q139 then some (.ret 2) else (((if decide (((k121 : Nat) : Int) > 0) then ((gx x56.Late (w64 (((k121 : Nat) : Int) - 1))).bind fun x159 => some (decide (x122 ≤ x159))) else some false) : Option Bool).bind fun q156 => (if q156 then some (.ret 5) else Fishref2OddsFault.loop3 x56 rest123 (k121 + 1)))))
def Fishref2OddsFault.loop1 (x0 : ApiDay) (x1 : List GuideOdds) : (List GuideOdds) → Nat → Option (Out Int Unit)
  | [], _ => some (.next ())
  | x56 :: rest57, k55 => (bnd ((if decide (x56.Train < 0) then true else decide (x56.Train ≥ ((x0.Trains).length : Int))) : Bool) fun q80 => (if q80 then some (.ret 3) else ((cutl x1 0 ((k55 : Nat) : Int)).bind fun x84 => (bnd (Fishref2OddsFault.loop2 x56 x84) fun q94 => match q94 with | .ret r => some (.ret r) | .next () => (if (((x56.Late).length : Int) != ((x56.Weight).length : Int)) then some (.ret 1) else (if !(Fishref2within ((x56.Late).length : Int) 1 6) then some (.ret 4) else ((Fishref2OddsFault.loop3 x56 x56.Late 0).bind fun q120 => match q120 with | .ret r => some (.ret r) | .next () => Fishref2OddsFault.loop1 x0 x1 rest57 (k55 + 1))))))))
def Fishref2OddsFault (x0 : ApiDay) (x1 : List GuideOdds) : Option Int := (if decide (((x1).length : Int) > 12) then some 4 else ((Fishref2OddsFault.loop1 x0 x1 x1 0).bind fun q54 => match q54 with | .ret r => some r | .next () => some 0))
def Fishlaw2small_1 (x0 : Int) (x1 : Int) (x2 : Int) : ApiStop := (ApiStop.mk x0 0 x1 x2)
def Fishlaw2small : ApiDay := (bnd (Fishlaw2small_1 0 100 100) fun q52 => (bnd (Fishlaw2small_1 1 200 230) fun q58 => (bnd (Fishlaw2small_1 2 300 300) fun q64 => (bnd (Fishlaw2small_1 1 250 250) fun q94 => (bnd (Fishlaw2small_1 3 400 400) fun q100 => (ApiDay.mk [(ApiTrain.mk 1 0 [q52, q58, q64] [[0], [1]]), (ApiTrain.mk 2 0 [q94, q100] [[2]])] []))))))
def SlicesAppendSeqLguideRide_v1.loop1 : List GuideRide → (List GuideRide) → Option (List GuideRide)
  | [], q65 => some q65
  | x54 :: rest55, q65 => ((apd q65 [x54]).bind fun x76 => SlicesAppendSeqLguideRide_v1.loop1 rest55 x76)
def SlicesAppendSeqLguideRide_v1 (x0 : List GuideRide) (x1 : List GuideRide) : Option (List GuideRide) := ((SlicesAppendSeqLguideRide_v1.loop1 x1 x0).bind fun q65 => some q65)
def GuideNetends.loop2 (x0 : GuideNet) (k56 : Nat) : (List GuideRide) → (List GuideRide) → (List (List (GuidePlace × Bool))) → Option ((List GuideRide) × (List (List (GuidePlace × Bool))))
  | [], q89, q96 => some (q89, q96)
  | x81 :: rest82, q89, q96 => ((mgx 4 q96 ((k56 : Nat) : Int)).bind fun x105 => (if ((mget x105 (GuidePlace.mk x81.Train x81.Off)).getD false) then GuideNetends.loop2 x0 k56 rest82 q89 q96 else ((mgx 4 q96 ((k56 : Nat) : Int)).bind fun x114 => ((GuideNetbehind x0 x81).bind fun q121 => ((SlicesAppendSeqLguideRide_v1 q89 q121).bind fun q127 => GuideNetends.loop2 x0 k56 rest82 q127 (q96.set ((((k56 : Nat) : Int)).toNat) (mput x114 (GuidePlace.mk x81.Train x81.Off) true)))))))
def GuideNetends.loop1 (x0 : GuideNet) : Nat → Nat → (List GuideRide) → (List (List (GuidePlace × Bool))) → Option ((List GuideRide) × (List (List (GuidePlace × Bool))))
  | 0, _, q65, q69 => some (q65, q69)
  | rest58 + 1, k56, q65, q69 => ((mst 4 q69 ((k56 : Nat) : Int)).bind fun _ => ((GuideNetends.loop2 x0 k56 q65 [] (q69 ++ [[]])).bind fun q79 => match q79 with | (q89, q96) => GuideNetends.loop1 x0 rest58 (k56 + 1) q89 q96))
def GuideNetends (x0 : GuideNet) (x1 : List GuideRide) : Option (List (List (GuidePlace × Bool))) := ((GuideNetends.loop1 x0 4 0 x1 []).bind fun q55 => match q55 with | (_, q69) => ((mall 4 q69).bind fun _ => some q69))
def GuidecomparePoints (x0 : GuidePoint) (x1 : GuidePoint) : Int := (CmpOrint [(CmpCompareint x0.Dep x1.Dep), (CmpCompareint x0.Arr x1.Arr), (CmpCompareint x0.Rides x1.Rides)])
def GuideNetpoints.loop1 (x0 : GuideNet) : List GuideRide → (List (Int × (List GuideRide))) → Option (List (Int × (List GuideRide)))
  | [], q73 => some q73
  | x62 :: rest63, q73 => ((GuideNeton x0 x62).bind fun q80 => ((GuideNeton x0 x62).bind fun q80 => (bnd ((mget q73 q80.Dep).getD []) fun x92 => ((apd x92 [x62]).bind fun x101 => GuideNetpoints.loop1 x0 rest63 (mput q73 q80.Dep x101)))))
def GuideNetpoints.loop4.step (x0 : GuideNet) (x2 : Int) (k127 : Int) (k177 : Nat) (k219 : GuidePlace) (_ : Bool) (q224 : List GuidePoint) (q231 : List (GuidePoint × Bool)) : Orc → Option ((List GuidePoint) × (List (GuidePoint × Bool))) := fun o => ((gx x0.Day.Trains k219.train).bind fun x246 => ((gx x246.Stops k219.off).bind fun x261 => (bnd ((if (x261.Station == x2) then !((mget q231 (GuidePoint.mk k127 x261.Arr ((k177 + 1 : Nat) : Int))).getD false) else false) : Bool) fun q276 => (((if q276 then ((apd q224 [(GuidePoint.mk k127 x261.Arr ((k177 + 1 : Nat) : Int))]).bind fun x294 => some (x294, (mput q231 (GuidePoint.mk k127 x261.Arr ((k177 + 1 : Nat) : Int)) true))) else some (q224, q231)) : Option ((List GuidePoint) × (List (GuidePoint × Bool)))).bind fun q280 => match q280 with | (q283, q290) => some (q283, q290)))))
def GuideNetpoints.loop4 (x0 : GuideNet) (x2 : Int) (k127 : Int) (k177 : Nat) (l : List (GuidePlace × Bool)) (q224 : List GuidePoint) (q231 : List (GuidePoint × Bool)) : Orc → Option ((List GuidePoint) × (List (GuidePoint × Bool))) := rngO (fun x st => GuideNetpoints.loop4.step x0 x2 k127 k177 x.1 x.2 st.1 st.2) l.length l (q224, q231)
def GuideNetpoints.loop3.step (x0 : GuideNet) (x2 : Int) (k127 : Int) (q159 : (List (List (GuidePlace × Bool)))) (k177 : Nat) (q182 : List GuidePoint) (q189 : List (GuidePoint × Bool)) : Orc → Option ((List GuidePoint) × (List (GuidePoint × Bool))) := fun o => ((gx q159 ((k177 : Nat) : Int)).bind fun x199 => (bindO (GuideNetpoints.loop4 x0 x2 k127 k177 x199 q182 q189) (fun q209 o => match q209 with | (q224, q231) => some (q224, q231)) o))
def GuideNetpoints.loop3 (x0 : GuideNet) (x2 : Int) (k127 : Int) (q159 : (List (List (GuidePlace × Bool)))) (n : Nat) (q182 : List GuidePoint) (q189 : List (GuidePoint × Bool)) : Orc → Option ((List GuidePoint) × (List (GuidePoint × Bool))) := cntO (fun x st => GuideNetpoints.loop3.step x0 x2 k127 q159 x st.1 st.2) n 0 (q182, q189)
def GuideNetpoints.loop2.step (x0 : GuideNet) (x2 : Int) (k127 : Int) (x128 : List GuideRide) (q132 : List GuidePoint) (q139 : List (GuidePoint × Bool)) : Orc → Option ((List GuidePoint) × (List (GuidePoint × Bool))) := fun o => ((GuideNetends x0 x128).bind fun q159 => (bindO (GuideNetpoints.loop3 x0 x2 k127 q159 4 q132 q139) (fun q167 o => match q167 with | (q182, q189) => some (q182, q189)) o))
def GuideNetpoints.loop2 (x0 : GuideNet) (x2 : Int) (l : List (Int × (List GuideRide))) (q132 : List GuidePoint) (q139 : List (GuidePoint × Bool)) : Orc → Option ((List GuidePoint) × (List (GuidePoint × Bool))) := rngO (fun x st => GuideNetpoints.loop2.step x0 x2 x.1 x.2 st.1 st.2) l.length l (q132, q139)
def GuideNetpoints.o (x0 : GuideNet) (x1 : Int) (x2 : Int) : Orc → Option (List GuidePoint) := fun o => (bnd (GuideNetrides x0 x1 0 (-1)) fun q54 => ((GuideNetpoints.loop1 x0 q54 []).bind fun q73 => (bindO (GuideNetpoints.loop2 x0 x2 q73 [] []) (fun q117 o => match q117 with | (q132, _) => ((srtF GuidecomparePoints q132).bind fun q303 => some q303)) o)))
noncomputable def GuideNetpoints (x0 : GuideNet) (x1 : Int) (x2 : Int) : Option (List GuidePoint) := same (GuideNetpoints.o x0 x1 x2)
def GuideNetearliest_1_v1 (x0 : GuidePoint) (y0 : Int) : Bool := decide (x0.Dep < y0)
def SlicesIndexFuncLguidePoint_v1.loop1 (y0 : Int) : (List GuidePoint) → Nat → Out Int Unit
  | [], _ => (.next ())
  | x54 :: rest55, k53 => (if (GuideNetearliest_1_v1 x54 y0) then (.ret ((k53 : Nat) : Int)) else SlicesIndexFuncLguidePoint_v1.loop1 y0 rest55 (k53 + 1))
def SlicesIndexFuncLguidePoint_v1 (x0 : List GuidePoint) (y0 : Int) : Int := (bnd (SlicesIndexFuncLguidePoint_v1.loop1 y0 x0 0) fun q52 => match q52 with | .ret r => r | .next () => (-1))
def SlicesDeleteFuncLguidePoint_v1.loop1 (x0 : List GuidePoint) (y0 : Int) : Nat → Int → Int → (List GuidePoint) → Option (Int × Int × (List GuidePoint))
  | 0, _, _, _ => none
  | n58 + 1, q62, q63, q64 => (if decide (q63 < ((x0.length : Nat) : Int)) then ((gx q64 q63).bind fun x72 => (((if !(GuideNetearliest_1_v1 x72 y0) then ((ix q64 q62).bind fun _ => ((sx q64 q62 x72).bind fun x101 => some (w64 (q62 + 1), x101))) else some (q62, q64)) : Option (Int × (List GuidePoint))).bind fun q84 => match q84 with | (q87, q88) => SlicesDeleteFuncLguidePoint_v1.loop1 x0 y0 n58 q87 (w64 (q63 + 1)) q88)) else some (q62, q63, q64))
def SlicesDeleteFuncLguidePoint_v1 (fu : Nat) (x0 : List GuidePoint) (y0 : Int) : Option (List GuidePoint) := (if ((SlicesIndexFuncLguidePoint_v1 x0 y0) == (-1)) then some x0 else ((SlicesDeleteFuncLguidePoint_v1.loop1 x0 y0 fu (SlicesIndexFuncLguidePoint_v1 x0 y0) (w64 ((SlicesIndexFuncLguidePoint_v1 x0 y0) + 1)) x0).bind fun q57 => match q57 with | (q62, _, q64) => ((cutl q64 0 q62).bind fun x106 => some x106)))
def GuideNetearliest_2 (x0 : GuidePoint) (x1 : GuidePoint) : Int := (CmpOrint [(CmpCompareint x0.Arr x1.Arr), (CmpCompareint x0.Rides x1.Rides), (CmpCompareint x1.Dep x0.Dep)])
def SlicesMinFuncLguidePoint_v1.loop1 (x0 : List GuidePoint) : Nat → Int → Int → Int → Int → Option (Int × Int × Int × Int)
  | 0, _, _, _, _ => none
  | n65 + 1, q69, q70, q71, q72 => (if decide (q69 < ((x0).length : Int)) then ((gx x0 q69).bind fun x75 => (((if decide ((GuideNetearliest_2 x75 (GuidePoint.mk q70 q71 q72)) < 0) then ((gx x0 q69).bind fun x93 => some (x93.Dep, x93.Arr, x93.Rides)) else some (q70, q71, q72)) : Option (Int × Int × Int)).bind fun q85 => match q85 with | (q88, q89, q90) => SlicesMinFuncLguidePoint_v1.loop1 x0 n65 (w64 (q69 + 1)) q88 q89 q90)) else some (q69, q70, q71, q72))
def SlicesMinFuncLguidePoint_v1 (fu : Nat) (x0 : List GuidePoint) : Option GuidePoint := (if decide (((x0).length : Int) < 1) then none else ((gx x0 0).bind fun x53 => ((SlicesMinFuncLguidePoint_v1.loop1 x0 fu 1 x53.Dep x53.Arr x53.Rides).bind fun q64 => match q64 with | (_, q70, q71, q72) => some (GuidePoint.mk q70 q71 q72))))
def GuideNetleastOf_1_v1.loop1 (x0 : List GuideRide) (y0 : GuideNet) (y1 : GuidePoint) (y2 : Int) (self_GuideNetleastOf_1_v1 : (List GuideRide) → GuideNet → GuidePoint → Int → (List (Ar3i64 × Bool)) → Option ((List GuideRide) × (List (Ar3i64 × Bool)))) : List GuideRide → (List GuideRide) → (List (Ar3i64 × Bool)) → Option (Out ((List GuideRide) × (List (Ar3i64 × Bool))) ((List GuideRide) × (List (Ar3i64 × Bool))))
  | [], q110, q115 => some (.next (q110, q115))
  | x99 :: rest100, q110, q115 => ((SlicesCloneLguideRide x0).bind fun q120 => ((apd q120 [x99]).bind fun x129 => ((self_GuideNetleastOf_1_v1 x129 y0 y1 y2 q115).bind fun q141 => (if !q141.1.isEmpty then some (.ret (q141.1, q141.2)) else GuideNetleastOf_1_v1.loop1 x0 y0 y1 y2 self_GuideNetleastOf_1_v1 rest100 q110 q141.2))))
def GuideNetleastOf_1_v1 : Nat → (List GuideRide) → GuideNet → GuidePoint → Int → (List (Ar3i64 × Bool)) → Option ((List GuideRide) × (List (Ar3i64 × Bool)))
  | 0, _, _, _, _, _ => none
  | fu + 1, x0, y0, y1, y2, y3_0 => ((gx x0 (w64 (((x0).length : Int) - 1))).bind fun x55 => ((GuideNetoff y0 x55).bind fun q65 => (if ((w64 (y1.Rides - ((x0).length : Int))) == 0) then (bnd ((if (q65.Station == y2) then (q65.Arr == y1.Arr) else false) : Bool) fun q77 => (if q77 then ((nz x0).bind fun _ => some (x0, y3_0)) else some ([], y3_0))) else (bnd ((if ((mget y3_0 (Ar3i64.mk x55.Train x55.Off (w64 (y1.Rides - ((x0).length : Int))))).getD false) then true else decide (q65.Arr > y1.Arr)) : Bool) fun q87 => (if q87 then some ([], y3_0) else ((GuideNetbehind y0 x55).bind fun q91 => ((GuideNetleastOf_1_v1.loop1 x0 y0 y1 y2 (GuideNetleastOf_1_v1 fu) q91 [] y3_0).bind fun q98 => match q98 with | .ret (q110, q115) => some (q110, q115) | .next (_, q115) => some ([], (mput q115 (Ar3i64.mk x55.Train x55.Off (w64 (y1.Rides - ((x0).length : Int)))) true)))))))))
def GuideNetleastOf.loop1 (x0 : GuideNet) (x2 : Int) (x3 : GuidePoint) (fu : Nat) : List GuideRide → (List GuideRide) → (List (Ar3i64 × Bool)) → Option (Out ((List GuideRide) × (List (Ar3i64 × Bool))) ((List GuideRide) × (List (Ar3i64 × Bool))))
  | [], q77, q81 => some (.next (q77, q81))
  | x66 :: rest67, q77, q81 => ((GuideNeton x0 x66).bind fun q86 => (if (q86.Dep != x3.Dep) then GuideNetleastOf.loop1 x0 x2 x3 fu rest67 q77 q81 else ((GuideNetleastOf_1_v1 fu [x66] x0 x3 x2 q81).bind fun q99 => (if !q99.1.isEmpty then some (.ret (q99.1, q99.2)) else GuideNetleastOf.loop1 x0 x2 x3 fu rest67 q77 q99.2))))
def GuideNetleastOf (fu : Nat) (x0 : GuideNet) (x1 : Int) (x2 : Int) (x3 : GuidePoint) : Option GuideJourney := (bnd (GuideNetrides x0 x1 x3.Dep (-1)) fun q58 => ((GuideNetleastOf.loop1 x0 x2 x3 fu q58 [] []).bind fun q65 => match q65 with | .ret (q77, _) => some (GuideJourney.mk q77) | .next (_, _) => some (GuideJourney.mk [])))
noncomputable def GuideNetearliest (fu : Nat) (x0 : GuideNet) (x1 : Int) (x2 : Int) (x3 : Int) : Option (GuideJourney × Bool) := ((GuideNetpoints x0 x1 x3).bind fun q54 => ((SlicesDeleteFuncLguidePoint_v1 fu q54 x2).bind fun q64 => (if (((q64.length : Nat) : Int) == 0) then some ((GuideJourney.mk []), false) else ((SlicesMinFuncLguidePoint_v1 fu q64).bind fun q76 => ((GuideNetleastOf fu x0 x1 x3 q76).bind fun q83 => some (q83, true))))))
noncomputable def GuideEarliest (fu : Nat) (x0 : ApiDay) (x1 : Int) (x2 : Int) (x3 : Int) (x4 : Int) : Option (GuideJourney × Int) := ((Guidecheck x0 x4 x1 x3 [x2]).bind fun q59 => (if (q59 != 0) then some ((GuideJourney.mk []), q59) else ((GuideNetearliest fu (GuideNet.mk x0 x4) x1 x2 x3).bind fun q62 => (if !q62.2 then some ((GuideJourney.mk []), 9) else some (q62.1, 0)))))
def SlicesEqualLguideRide.loop1 (x1 : List GuideRide) : (List GuideRide) → Nat → Option (Out Bool Unit)
  | [], _ => some (.next ())
  | x55 :: rest56, k54 => ((gx x1 ((k54 : Nat) : Int)).bind fun x68 => (if !((x55.Train == x68.Train) && ((x55.On == x68.On) && (x55.Off == x68.Off))) then some (.ret false) else SlicesEqualLguideRide.loop1 x1 rest56 (k54 + 1)))
def SlicesEqualLguideRide (x0 : List GuideRide) (x1 : List GuideRide) : Option Bool := (if (((x0).length : Int) != ((x1).length : Int)) then some false else ((SlicesEqualLguideRide.loop1 x1 x0 0).bind fun q53 => match q53 with | .ret r => some r | .next () => some true))
noncomputable def Fishlaw2guides (fu : Nat) : Option Bool := (bnd (Fishlaw2small) fun q51 => ((GuideEarliest fu q51 0 0 3 40).bind fun q63 => (((if (q63.2 == 0) then ((SlicesEqualLguideRide q63.1.Rides [(GuideRide.mk 0 0 1), (GuideRide.mk 1 0 1)]).bind fun q86 => some q86) else some false) : Option Bool).bind fun q77 => some q77)))
def Fishref2JourneyFault.loop1 (x0 : ApiDay) (x1 : GuideJourney) (x2 : Int) (x3 : Bool) : (List GuideRide) → Nat → Option (Out Int Unit)
  | [], _ => some (.next ())
  | x58 :: rest59, k57 => (bnd ((if decide (x58.Train < 0) then true else decide (x58.Train ≥ ((x0.Trains).length : Int))) : Bool) fun q76 => (if q76 then some (.ret 3) else ((gx x0.Trains x58.Train).bind fun x80 => (bnd ((if decide (x58.On < 0) then true else (if decide (x58.On ≥ ((x80.Stops).length : Int)) then true else (if decide (x58.Off < 0) then true else decide (x58.Off ≥ ((x80.Stops).length : Int))))) : Bool) fun q99 => (if q99 then some (.ret 3) else (if decide (x58.On ≥ x58.Off) then some (.ret 1) else (if (((k57 : Nat) : Int) == 0) then Fishref2JourneyFault.loop1 x0 x1 x2 x3 rest59 (k57 + 1) else ((gx x1.Rides (w64 (((k57 : Nat) : Int) - 1))).bind fun x107 => ((gx x0.Trains x107.Train).bind fun x118 => ((gx x118.Stops x107.Off).bind fun x133 => (((if (x107.Train == x58.Train) then some true else ((gx x80.Stops x58.On).bind fun x150 => some (x150.Station != x133.Station))) : Option Bool).bind fun q147 => (if q147 then some (.ret 1) else (((if x3 then ((gx x80.Stops x58.On).bind fun x167 => some (decide (x167.Dep < (w64 (x133.Arr + x2))))) else some false) : Option Bool).bind fun q164 => (if q164 then some (.ret 13) else Fishref2JourneyFault.loop1 x0 x1 x2 x3 rest59 (k57 + 1)))))))))))))))
def Fishref2JourneyFault (x0 : ApiDay) (x1 : GuideJourney) (x2 : Int) (x3 : Bool) : Option Int := (if !(Fishref2within x2 0 28800) then some 2 else (if !(Fishref2within ((x1.Rides).length : Int) 1 4) then some 4 else ((Fishref2JourneyFault.loop1 x0 x1 x2 x3 x1.Rides 0).bind fun q56 => match q56 with | .ret r => some r | .next () => some 0)))
def Fishref2AllOf_1_v1.loop3 (x0 : List GuideRide) (y0 : ApiDay) (y1 : Int) (y3 : Int) (y4 : Int) (self_Fishref2AllOf_1_v1 : (List GuideRide) → ApiDay → Int → (List GuideJourney) → Int → Int → Option (List GuideJourney)) (x155 : ApiTrain) (k154 : Nat) (k184 : Nat) : Nat → Int → (List GuideJourney) → Option (Int × (List GuideJourney))
  | 0, _, _ => none
  | n215 + 1, q219, q220 => (if decide (q219 < ((x155.Stops).length : Int)) then ((SlicesCloneLguideRide x0).bind fun q229 => ((apd q229 [(GuideRide.mk ((k154 : Nat) : Int) ((k184 : Nat) : Int) q219)]).bind fun x238 => (((if (((x238).length : Int) == 1) then some true else ((cutl x238 (w64 (((x238).length : Int) - 2)) ((x238).length : Int)).bind fun x254 => ((Fishref2JourneyFault y0 (GuideJourney.mk x254) y4 true).bind fun q263 => some (q263 == 0)))) : Option Bool).bind fun q251 => (if q251 then ((self_Fishref2AllOf_1_v1 x238 y0 y1 q220 y3 y4).bind fun q266 => Fishref2AllOf_1_v1.loop3 x0 y0 y1 y3 y4 self_Fishref2AllOf_1_v1 x155 k154 k184 n215 (w64 (q219 + 1)) q266) else Fishref2AllOf_1_v1.loop3 x0 y0 y1 y3 y4 self_Fishref2AllOf_1_v1 x155 k154 k184 n215 (w64 (q219 + 1)) q220)))) else some (q219, q220))
def Fishref2AllOf_1_v1.loop2 (x0 : List GuideRide) (y0 : ApiDay) (y1 : Int) (y3 : Int) (y4 : Int) (fu : Nat) (self_Fishref2AllOf_1_v1 : (List GuideRide) → ApiDay → Int → (List GuideJourney) → Int → Int → Option (List GuideJourney)) (x155 : ApiTrain) (k154 : Nat) : (List ApiStop) → Nat → (List GuideJourney) → Option (List GuideJourney)
  | [], _, q193 => some q193
  | x185 :: rest186, k184, q193 => (bnd ((if (((x0).length : Int) == 0) then (x185.Station != y3) else false) : Bool) fun q205 => (if q205 then Fishref2AllOf_1_v1.loop2 x0 y0 y1 y3 y4 fu self_Fishref2AllOf_1_v1 x155 k154 rest186 (k184 + 1) q193 else ((Fishref2AllOf_1_v1.loop3 x0 y0 y1 y3 y4 self_Fishref2AllOf_1_v1 x155 k154 k184 fu ((k184 + 1 : Nat) : Int) q193).bind fun q214 => match q214 with | (_, q220) => Fishref2AllOf_1_v1.loop2 x0 y0 y1 y3 y4 fu self_Fishref2AllOf_1_v1 x155 k154 rest186 (k184 + 1) q220)))
def Fishref2AllOf_1_v1.loop1 (x0 : List GuideRide) (y0 : ApiDay) (y1 : Int) (y3 : Int) (y4 : Int) (fu : Nat) (self_Fishref2AllOf_1_v1 : (List GuideRide) → ApiDay → Int → (List GuideJourney) → Int → Int → Option (List GuideJourney)) : (List ApiTrain) → Nat → (List GuideJourney) → Option (List GuideJourney)
  | [], _, q163 => some q163
  | x155 :: rest156, k154, q163 => ((Fishref2AllOf_1_v1.loop2 x0 y0 y1 y3 y4 fu self_Fishref2AllOf_1_v1 x155 k154 x155.Stops 0 q163).bind fun q193 => Fishref2AllOf_1_v1.loop1 x0 y0 y1 y3 y4 fu self_Fishref2AllOf_1_v1 rest156 (k154 + 1) q193)
def Fishref2AllOf_1_v1 : Nat → (List GuideRide) → ApiDay → Int → (List GuideJourney) → Int → Int → Option (List GuideJourney)
  | 0, _, _, _, _, _, _ => none
  | fu + 1, x0, y0, y1, y2, y3, y4 => (((if decide (((x0).length : Int) > 0) then ((gx x0 (w64 (((x0).length : Int) - 1))).bind fun x78 => ((gx y0.Trains x78.Train).bind fun x88 => ((gx x88.Stops x78.Off).bind fun x103 => (bnd ((if decide (y1 < 0) then true else (x103.Station == y1)) : Bool) fun q116 => (((if q116 then ((SlicesCloneLguideRide x0).bind fun q133 => ((apd y2 [(GuideJourney.mk q133)]).bind fun x145 => some x145)) else some y2) : Option (List GuideJourney)).bind fun q123 => some q123))))) else some y2) : Option (List GuideJourney)).bind fun q69 => (if (((x0).length : Int) == 4) then some q69 else ((Fishref2AllOf_1_v1.loop1 x0 y0 y1 y3 y4 fu (Fishref2AllOf_1_v1 fu) y0.Trains 0 q69).bind fun q163 => some q163)))
def Fishref2AllOf (fu : Nat) (x0 : ApiDay) (x1 : Int) (x2 : Int) (x3 : Int) : Option (List GuideJourney) := ((Fishref2AllOf_1_v1 fu [] x0 x2 [] x1 x3).bind fun q58 => some q58)
def Fishref2Leaves (x0 : ApiDay) (x1 : GuideJourney) : Option Int := ((gx x1.Rides 0).bind fun x53 => ((gx x0.Trains x53.Train).bind fun x63 => ((gx x63.Stops x53.On).bind fun x78 => some x78.Dep)))
def Fishref2Arrives (x0 : ApiDay) (x1 : GuideJourney) : Option Int := ((gx x1.Rides (w64 (((x1.Rides).length : Int) - 1))).bind fun x53 => ((gx x0.Trains x53.Train).bind fun x63 => ((gx x63.Stops x53.Off).bind fun x78 => some x78.Arr)))
def Fishref2Cases_1_v1.loop1 (x1 : Int) (y1 : Int) (y2 : GuideJourney) (y3 : ApiDay) (y4_0 : List (Int × Int)) (y5 : Int) (y6 : Int) (y7 : Int) : Nat → Int → Option (Out ((List (Int × Int)) × Int × Int × Int) Int)
  | 0, _ => none
  | n58 + 1, q62 => (if decide (q62 < ((y2.Rides).length : Int)) then ((gx y2.Rides (w64 (q62 - 1))).bind fun x66 => ((gx y2.Rides q62).bind fun x75 => ((gx y3.Trains x66.Train).bind fun x87 => ((gx x87.Stops x66.Off).bind fun x102 => ((gx y3.Trains x75.Train).bind fun x111 => ((gx x111.Stops x75.On).bind fun x126 => (if decide ((w64 ((w64 (x102.Arr + ((mget y4_0 x66.Train).getD 0))) + y5)) > (w64 (x126.Dep + ((mget y4_0 x75.Train).getD 0)))) then some (.ret (y4_0, w64 (y1 + x1), y6, y7)) else Fishref2Cases_1_v1.loop1 x1 y1 y2 y3 y4_0 y5 y6 y7 n58 (w64 (q62 + 1))))))))) else some (.next q62))
def Fishref2Cases_1_v1.loop3 (x0 : Int) (x1 : Int) (y0 : List Int) (y2 : GuideJourney) (y3 : ApiDay) (y5 : Int) (y8 : List GuideOdds) (self_Fishref2Cases_1_v1 : Int → Int → (List Int) → Int → GuideJourney → ApiDay → (List (Int × Int)) → Int → Int → Int → (List GuideOdds) → Option ((List (Int × Int)) × Int × Int × Int)) (x149 : GuideOdds) : (List Int) → Nat → (List (Int × Int)) → Int → Int → Int → Option ((List (Int × Int)) × Int × Int × Int)
  | [], _, q195, q196, q197, q198 => some (q195, q196, q197, q198)
  | x187 :: rest188, k186, q195, q196, q197, q198 => ((gx y0 x0).bind fun x205 => ((gx x149.Weight ((k186 : Nat) : Int)).bind fun x216 => ((self_Fishref2Cases_1_v1 (w64 (x0 + 1)) (w64 (x1 * x216)) y0 q196 y2 y3 (mput q195 x205 x187) y5 q197 q198 y8).bind fun q225 => Fishref2Cases_1_v1.loop3 x0 x1 y0 y2 y3 y5 y8 self_Fishref2Cases_1_v1 x149 rest188 (k186 + 1) q225.1 q225.2.1 q225.2.2.1 q225.2.2.2)))
def Fishref2Cases_1_v1.loop2 (x0 : Int) (x1 : Int) (y0 : List Int) (y2 : GuideJourney) (y3 : ApiDay) (y5 : Int) (y8 : List GuideOdds) (self_Fishref2Cases_1_v1 : Int → Int → (List Int) → Int → GuideJourney → ApiDay → (List (Int × Int)) → Int → Int → Int → (List GuideOdds) → Option ((List (Int × Int)) × Int × Int × Int)) : (List GuideOdds) → (List (Int × Int)) → Int → Int → Int → Option (Out ((List (Int × Int)) × Int × Int × Int) ((List (Int × Int)) × Int × Int × Int))
  | [], q157, q158, q159, q160 => some (.next (q157, q158, q159, q160))
  | x149 :: rest150, q157, q158, q159, q160 => ((gx y0 x0).bind fun x173 => (if (x149.Train == x173) then ((Fishref2Cases_1_v1.loop3 x0 x1 y0 y2 y3 y5 y8 self_Fishref2Cases_1_v1 x149 x149.Late 0 q157 q158 q159 q160).bind fun q185 => match q185 with | (q195, q196, q197, q198) => some (.ret (q195, q196, q197, q198))) else Fishref2Cases_1_v1.loop2 x0 x1 y0 y2 y3 y5 y8 self_Fishref2Cases_1_v1 rest150 q157 q158 q159 q160))
def Fishref2Cases_1_v1 : Nat → Int → Int → (List Int) → Int → GuideJourney → ApiDay → (List (Int × Int)) → Int → Int → Int → (List GuideOdds) → Option ((List (Int × Int)) × Int × Int × Int)
  | 0, _, _, _, _, _, _, _, _, _, _, _ => none
  | fu + 1, x0, x1, y0, y1, y2, y3, y4_0, y5, y6, y7, y8 => (if (x0 == ((y0.length : Nat) : Int)) then ((Fishref2Cases_1_v1.loop1 x1 y1 y2 y3 y4_0 y5 y6 y7 fu 1).bind fun q57 => match q57 with | .ret r => some r | .next _ => ((gx y2.Rides (w64 (((y2.Rides).length : Int) - 1))).bind fun x137 => some (y4_0, w64 (y1 + x1), w64 (y6 + x1), w64 (y7 + (w64 (x1 * ((mget y4_0 x137.Train).getD 0))))))) else ((Fishref2Cases_1_v1.loop2 x0 x1 y0 y2 y3 y5 y8 (Fishref2Cases_1_v1 fu) y8 y4_0 y1 y6 y7).bind fun q147 => match q147 with | .ret r => some r | .next (q157, q158, q159, q160) => ((gx y0 x0).bind fun x228 => (((Fishref2Cases_1_v1 fu) (w64 (x0 + 1)) x1 y0 q158 y2 y3 (mput q157 x228 0) y5 q159 q160 y8).bind fun q238 => some (q238.1, q238.2.1, q238.2.2.1, q238.2.2.2)))))
def Fishref2Cases.loop1 : (List GuideRide) → (List Int) → Option (List Int)
  | [], q71 => some q71
  | x63 :: rest64, q71 => (((if !(SlicesContainsLint q71 x63.Train) then ((apd q71 [x63.Train]).bind fun x102 => some x102) else some q71) : Option (List Int)).bind fun q92 => Fishref2Cases.loop1 rest64 q92)
def Fishref2Cases (fu : Nat) (x0 : ApiDay) (x1 : GuideJourney) (x2 : Int) (x3 : List GuideOdds) : Option (Int × Int × Int) := ((Fishref2Cases.loop1 x1.Rides []).bind fun q71 => ((Fishref2Cases_1_v1 fu 0 1 q71 0 x1 x0 [] x2 0 0 x3).bind fun q111 => some (q111.2.1, q111.2.2.1, q111.2.2.2)))
def SlicesCompareLint.loop1 (x1 : List Int) : (List Int) → Nat → Option (Out Int Unit)
  | [], _ => some (.next ())
  | x54 :: rest55, k53 => (if decide (((k53 : Nat) : Int) ≥ ((x1).length : Int)) then some (.ret 1) else ((gx x1 ((k53 : Nat) : Int)).bind fun x68 => (if ((CmpCompareint x54 x68) != 0) then some (.ret (CmpCompareint x54 x68)) else SlicesCompareLint.loop1 x1 rest55 (k53 + 1))))
def SlicesCompareLint (x0 : List Int) (x1 : List Int) : Option Int := ((SlicesCompareLint.loop1 x1 x0 0).bind fun q52 => match q52 with | .ret r => some r | .next () => (if decide (((x0).length : Int) < ((x1).length : Int)) then some (-1) else some 0))
def Fishref2SurestOf.loop1 (x0 : ApiDay) (x2 : Int) (x4 : Int) (x5 : Int) (x6 : List GuideOdds) (fu : Nat) (q54 : (List GuideJourney)) : Nat → Nat → Bool → Int → Int → (List GuideRide) → Option (Bool × Int × Int × (List GuideRide))
  | 0, _, q76, q77, q78, q79 => some (q76, q77, q78, q79)
  | rest68 + 1, k66, q76, q77, q78, q79 => ((gx q54 ((k66 : Nat) : Int)).bind fun x84 => ((((Fishref2Leaves x0 x84).bind fun q104 => (if decide (q104 < x2) then some true else ((Fishref2Arrives x0 x84).bind fun q107 => some (decide (q107 > x4))))) : Option Bool).bind fun q102 => (if q102 then Fishref2SurestOf.loop1 x0 x2 x4 x5 x6 fu q54 rest68 (k66 + 1) q76 q77 q78 q79 else ((Fishref2Cases fu x0 x84 x5 x6).bind fun q110 => (bnd ((if !q76 then true else decide ((w64 (q110.2.1 * q78)) > (w64 (q77 * q110.1)))) : Bool) fun q116 => (bnd ((if q76 then ((w64 (q110.2.1 * q78)) == (w64 (q77 * q110.1))) else false) : Bool) fun q123 => (((if q123 then ((Fishref2Arrives x0 x84).bind fun q134 => ((Fishref2Leaves x0 x84).bind fun q136 => ((Fishref2Arrives x0 (GuideJourney.mk q79)).bind fun q145 => ((Fishref2Leaves x0 (GuideJourney.mk q79)).bind fun q147 => ((SlicesCompareLint [q134, ((x84.Rides).length : Int), w64 (0 - q136)] [q145, ((q79).length : Int), w64 (0 - q147)]).bind fun q155 => some (decide (q155 < 0))))))) else some q116) : Option Bool).bind fun q130 => (bnd ((if q130 then (true, q110.2.1, q110.1, x84.Rides) else (q76, q77, q78, q79)) : Bool × Int × Int × (List GuideRide)) fun q158 => match q158 with | (q161, q162, q163, q164) => Fishref2SurestOf.loop1 x0 x2 x4 x5 x6 fu q54 rest68 (k66 + 1) q161 q162 q163 q164))))))))
def Fishref2SurestOf (fu : Nat) (x0 : ApiDay) (x1 : Int) (x2 : Int) (x3 : Int) (x4 : Int) (x5 : Int) (x6 : List GuideOdds) : Option (GuideJourney × Int) := ((Fishref2AllOf fu x0 x1 x3 x5).bind fun q54 => ((Fishref2SurestOf.loop1 x0 x2 x4 x5 x6 fu q54 q54.length 0 false 0 0 []).bind fun q65 => match q65 with | (q76, _, _, q79) => (if !q76 then some ((GuideJourney.mk []), 9) else some ((GuideJourney.mk q79), 0))))
def Fishlaw2sameJourney (x0 : GuideJourney) (x1 : GuideJourney) : Option Bool := ((SlicesEqualLguideRide x0.Rides x1.Rides).bind fun q53 => some q53)
noncomputable def Fishlaw2GuideSurest (fu : Nat) (x0 : ApiDay) (x1 : Int) (x2 : Int) (x3 : Int) (x4 : Int) (x5 : Int) (x6 : List GuideOdds) : Option Bool := ((GuideSurest fu x0 x1 x2 x3 x4 x5 x6).bind fun q52 => ((Fishref2GuideFault x0).bind fun q62 => (bnd ((if (q62 == 0) then (Fishref2SearchFault x5 x1 x3 x2 true true) else q62) : Int) fun q68 => (bnd ((if (q68 == 0) then (Fishref2SearchFault x5 x1 x3 x4 true true) else q68) : Int) fun q75 => (((if (q75 == 0) then ((Fishref2OddsFault x0 x6).bind fun q85 => some q85) else some q75) : Option Int).bind fun q82 => (if (q82 != 0) then ((((Fishlaw2guides fu).bind fun q94 => (if q94 then (if (q52.2 == q82) then some (((q52.1.Rides).length : Int) == 0) else some false) else some false)) : Option Bool).bind fun q92 => some q92) else ((Fishref2SurestOf fu x0 x1 x2 x3 x4 x5 x6).bind fun q98 => ((((Fishlaw2guides fu).bind fun q114 => (if q114 then (if (q52.2 == q98.2) then ((Fishlaw2sameJourney q52.1 q98.1).bind fun q118 => some q118) else some false) else some false)) : Option Bool).bind fun q112 => some q112))))))))
end Go.Fp
