/- The mirrors of the functions that TopSeated reaches: plain Lean functions on data. No condition. -/
import Derived.Test.YtpcebngchmgckaaDoorFpAllT
import Derived.Test.YtpcebngchmgckaaDoorFpInD
namespace Go.Fp
structure ApiStop where
  Station : Int
  Track : Int
  Arr : Int
  Dep : Int
  deriving DecidableEq, Inhabited
-- ApiStop is of one size
def InApiStop (x : ApiStop) : Prop := inI x.Station ∧ inI x.Track ∧ inI x.Arr ∧ inI x.Dep
def ApiStop.cells (x : ApiStop) : List Go.Value := [.int .i64 x.Station, .int .i64 x.Track, .int .i64 x.Arr, .int .i64 x.Dep]
def RApiStop : Rd ApiStop := fun _ cs x => cs = x.cells
theorem RApiStop.mono : Rmono RApiStop := fun _ _ _ _ _ h => h
theorem RApiStop.one : Rone RApiStop := by intro s cs x h; subst h; rfl

structure ApiTrain where
  No : Int
  Stock : Int
  Stops : List ApiStop
  Legs : List (List Int)
  deriving DecidableEq, Inhabited
def szApiTrain (x : ApiTrain) : Nat := (szL sz1) x.Stops + (szL (szL sz1)) x.Legs + 1
def InApiTrain (x : ApiTrain) : Prop := inI x.No ∧ inI x.Stock ∧ (inL InApiStop) x.Stops ∧ (inL (inL inI)) x.Legs
def RApiTrain : Rd ApiTrain := fun s cs x => ∃ a0 c0 a1 c1, cs = [.int .i64 x.No, .int .i64 x.Stock, .slice a0 x.Stops.length c0, .slice a1 x.Legs.length c1] ∧ Sl 4 RApiStop s a0 c0 x.Stops ∧ Sl 1 (RL 1 (RI .i64)) s a1 c1 x.Legs
theorem RApiTrain.one : Rone RApiTrain := by rintro s cs x ⟨a0, c0, a1, c1, rfl, _⟩; rfl
theorem RApiTrain.mono : Rmono RApiTrain := fun _ _ h _ _ ⟨a0, c0, a1, c1, e, h0, h1⟩ => ⟨a0, c0, a1, c1, e, h0.mono RApiStop.mono h, h1.mono (RL.mono RI.mono) h⟩

structure ApiDay where
  Trains : List ApiTrain
  Turns : List (List Int)
  deriving DecidableEq, Inhabited
def szApiDay (x : ApiDay) : Nat := (szL szApiTrain) x.Trains + (szL (szL sz1)) x.Turns + 1
def InApiDay (x : ApiDay) : Prop := (inL InApiTrain) x.Trains ∧ (inL (inL inI)) x.Turns
def RApiDay : Rd ApiDay := fun s cs x => ∃ a0 c0 a1 c1, cs = [.slice a0 x.Trains.length c0, .slice a1 x.Turns.length c1] ∧ Sl 4 RApiTrain s a0 c0 x.Trains ∧ Sl 1 (RL 1 (RI .i64)) s a1 c1 x.Turns
theorem RApiDay.one : Rone RApiDay := by rintro s cs x ⟨a0, c0, a1, c1, rfl, _⟩; rfl
theorem RApiDay.mono : Rmono RApiDay := fun _ _ h _ _ ⟨a0, c0, a1, c1, e, h0, h1⟩ => ⟨a0, c0, a1, c1, e, h0.mono RApiTrain.mono h, h1.mono (RL.mono RI.mono) h⟩

structure FareBooking where
  No : Int
  From : Int
  To : Int
  Seats : List Int
  deriving DecidableEq, Inhabited
def szFareBooking (x : FareBooking) : Nat := (szL sz1) x.Seats + 1
def InFareBooking (x : FareBooking) : Prop := inI x.No ∧ inI x.From ∧ inI x.To ∧ (inL inI) x.Seats
def RFareBooking : Rd FareBooking := fun s cs x => ∃ a0 c0, cs = [.int .i64 x.No, .int .i64 x.From, .int .i64 x.To, .slice a0 x.Seats.length c0] ∧ Sl 1 (RI .i64) s a0 c0 x.Seats
theorem RFareBooking.one : Rone RFareBooking := by rintro s cs x ⟨a0, c0, rfl, _⟩; rfl
theorem RFareBooking.mono : Rmono RFareBooking := fun _ _ h _ _ ⟨a0, c0, e, h0⟩ => ⟨a0, c0, e, h0.mono RI.mono h⟩

structure FareCar where
  rows : Int
  across : Int
  stops : Int
  bookings : List FareBooking
  cancelled : List Bool
  deriving DecidableEq, Inhabited
def szFareCar (x : FareCar) : Nat := (szL szFareBooking) x.bookings + (szL sz1) x.cancelled + 1
def InFareCar (x : FareCar) : Prop := inI x.rows ∧ inI x.across ∧ inI x.stops ∧ (inL InFareBooking) x.bookings ∧ (inL inA) x.cancelled
def RFareCar : Rd FareCar := fun s cs x => ∃ a0 c0 a1 c1, cs = [.int .i64 x.rows, .int .i64 x.across, .int .i64 x.stops, .slice a0 x.bookings.length c0, .slice a1 x.cancelled.length c1] ∧ Sl 4 RFareBooking s a0 c0 x.bookings ∧ Sl 1 RB s a1 c1 x.cancelled
theorem RFareCar.one : Rone RFareCar := by rintro s cs x ⟨a0, c0, a1, c1, rfl, _⟩; rfl
theorem RFareCar.mono : Rmono RFareCar := fun _ _ h _ _ ⟨a0, c0, a1, c1, e, h0, h1⟩ => ⟨a0, c0, a1, c1, e, h0.mono RFareBooking.mono h, h1.mono RB.mono h⟩

structure GuideRide where
  Train : Int
  On : Int
  Off : Int
  deriving DecidableEq, Inhabited
-- GuideRide is of one size
def InGuideRide (x : GuideRide) : Prop := inI x.Train ∧ inI x.On ∧ inI x.Off
def GuideRide.cells (x : GuideRide) : List Go.Value := [.int .i64 x.Train, .int .i64 x.On, .int .i64 x.Off]
def RGuideRide : Rd GuideRide := fun _ cs x => cs = x.cells
theorem RGuideRide.mono : Rmono RGuideRide := fun _ _ _ _ _ h => h
theorem RGuideRide.one : Rone RGuideRide := by intro s cs x h; subst h; rfl

structure GuideJourney where
  Rides : List GuideRide
  deriving DecidableEq, Inhabited
def szGuideJourney (x : GuideJourney) : Nat := (szL sz1) x.Rides + 1
def InGuideJourney (x : GuideJourney) : Prop := (inL InGuideRide) x.Rides
def RGuideJourney : Rd GuideJourney := fun s cs x => ∃ a0 c0, cs = [.slice a0 x.Rides.length c0] ∧ Sl 3 RGuideRide s a0 c0 x.Rides
theorem RGuideJourney.one : Rone RGuideJourney := by rintro s cs x ⟨a0, c0, rfl, _⟩; rfl
theorem RGuideJourney.mono : Rmono RGuideJourney := fun _ _ h _ _ ⟨a0, c0, e, h0⟩ => ⟨a0, c0, e, h0.mono RGuideRide.mono h⟩

structure GuideNet where
  Day : ApiDay
  least : Int
  deriving DecidableEq, Inhabited
def szGuideNet (x : GuideNet) : Nat := szApiDay x.Day + 1
def InGuideNet (x : GuideNet) : Prop := InApiDay x.Day ∧ inI x.least
def RGuideNet : Rd GuideNet := fun s cs x => ∃ a0 c0 a1 c1, cs = [.slice a0 x.Day.Trains.length c0, .slice a1 x.Day.Turns.length c1, .int .i64 x.least] ∧ Sl 4 RApiTrain s a0 c0 x.Day.Trains ∧ Sl 1 (RL 1 (RI .i64)) s a1 c1 x.Day.Turns
theorem RGuideNet.one : Rone RGuideNet := by rintro s cs x ⟨a0, c0, a1, c1, rfl, _⟩; rfl
theorem RGuideNet.mono : Rmono RGuideNet := fun _ _ h _ _ ⟨a0, c0, a1, c1, e, h0, h1⟩ => ⟨a0, c0, a1, c1, e, h0.mono RApiTrain.mono h, h1.mono (RL.mono RI.mono) h⟩
def Planform.loop2 : (List (List Int)) → Out Int Unit
  | [] => (.next ())
  | x94 :: rest95 => (if (((x94).length : Int) == 0) then (.ret 1) else Planform.loop2 rest95)
def Planform.loop3 : (List (List Int)) → Out Int Unit
  | [] => (.next ())
  | x115 :: rest116 => (if decide (((x115).length : Int) > 4) then (.ret 4) else Planform.loop3 rest116)
def Planform.loop1 : (List ApiTrain) → Out Int Unit
  | [] => (.next ())
  | x63 :: rest64 => (bnd ((if (((x63.Stops).length : Int) == 0) then true else (((x63.Legs).length : Int) != (w64 (((x63.Stops).length : Int) - 1)))) : Bool) fun q87 => (if q87 then (.ret 1) else (bnd (Planform.loop2 x63.Legs) fun q92 => match q92 with | .ret r => (.ret r) | .next () => (if decide (((x63.Stops).length : Int) > 8) then (.ret 4) else (bnd (Planform.loop3 x63.Legs) fun q113 => match q113 with | .ret r => (.ret r) | .next () => Planform.loop1 rest64)))))
def Planform.loop4 : (List (List Int)) → Out Int Unit
  | [] => (.next ())
  | x135 :: rest136 => (if (((x135).length : Int) == 0) then (.ret 1) else (if decide (((x135).length : Int) > 12) then (.ret 4) else Planform.loop4 rest136))
def Planform (x0 : ApiDay) : Int := (bnd ((if decide (((x0.Trains).length : Int) > 12) then true else decide (((x0.Turns).length : Int) > 8)) : Bool) fun q56 => (if q56 then 4 else (bnd (Planform.loop1 x0.Trains) fun q61 => match q61 with | .ret r => r | .next () => (bnd (Planform.loop4 x0.Turns) fun q133 => match q133 with | .ret r => r | .next () => 0))))
def Planwithin (x0 : Int) (x1 : Int) (x2 : Int) : Bool := (bnd ((if decide (x0 ≥ x1) then decide (x0 ≤ x2) else false) : Bool) fun q55 => q55)
def Plansentence.loop1 : (List Int) → ByteArray → Option ByteArray
  | [], q62 => some q62
  | x54 :: rest55, q62 => ((itoa x54).bind fun q68 => ((scat (str [32]) q68).bind fun x70 => ((scat q62 x70).bind fun x72 => Plansentence.loop1 rest55 x72)))
def Plansentence (x0 : ByteArray) (x1 : List Int) : Option ByteArray := ((Plansentence.loop1 x1 x0).bind fun q62 => ((scat q62 (str [10])).bind fun x74 => some x74))
def PlanText_1_v1.loop1 : (List Int) → Bool → Bool
  | [], q64 => q64
  | x56 :: rest57, q64 => (bnd ((if q64 then (Planwithin x56 0 999999) else false) : Bool) fun q74 => PlanText_1_v1.loop1 rest57 q74)
def PlanText_1_v1 (x0 : ByteArray) (x1 : List Int) (y0 : Bool) (y1_0 : ByteArray) : Option (Bool × ByteArray) := (bnd (PlanText_1_v1.loop1 x1 y0) fun q64 => ((Plansentence x0 x1).bind fun q77 => ((sbw y1_0 q77).bind fun q79 => some (q64, q79))))
def PlanText.loop2 : (List ApiStop) → ByteArray → Bool → Option (ByteArray × Bool)
  | [], q99, q100 => some (q99, q100)
  | x91 :: rest92, q99, q100 => ((PlanText_1_v1 (str [115, 116, 111, 112]) [x91.Station, x91.Track, x91.Arr, x91.Dep] q100 q99).bind fun q113 => PlanText.loop2 rest92 q113.2 q113.1)
def PlanText.loop3 : (List (List Int)) → ByteArray → Bool → Option (ByteArray × Bool)
  | [], q126, q127 => some (q126, q127)
  | x118 :: rest119, q126, q127 => ((PlanText_1_v1 (str [108, 101, 103]) x118 q127 q126).bind fun q136 => PlanText.loop3 rest119 q136.2 q136.1)
def PlanText.loop1 : (List ApiTrain) → ByteArray → Bool → Option (ByteArray × Bool)
  | [], q66, q67 => some (q66, q67)
  | x58 :: rest59, q66, q67 => ((PlanText_1_v1 (str [116, 114, 97, 105, 110]) [x58.No, x58.Stock] q67 q66).bind fun q86 => ((PlanText.loop2 x58.Stops q86.2 q86.1).bind fun q89 => match q89 with | (q99, q100) => ((PlanText.loop3 x58.Legs q99 q100).bind fun q116 => match q116 with | (q126, q127) => PlanText.loop1 rest59 q126 q127)))
def PlanText.loop4 : (List (List Int)) → ByteArray → Bool → Option (ByteArray × Bool)
  | [], q149, q150 => some (q149, q150)
  | x141 :: rest142, q149, q150 => ((PlanText_1_v1 (str [116, 117, 114, 110]) x141 q150 q149).bind fun q159 => PlanText.loop4 rest142 q159.2 q159.1)
def PlanText (x0 : ApiDay) : Option (ByteArray × Int) := (if ((Planform x0) != 0) then some ((str []), (Planform x0)) else ((PlanText.loop1 x0.Trains ByteArray.empty true).bind fun q56 => match q56 with | (q66, q67) => ((PlanText.loop4 x0.Turns q66 q67).bind fun q139 => match q139 with | (q149, q150) => (if !q150 then some ((str []), 2) else some (q149, 0)))))
def Guidewithin (x0 : Int) (x1 : Int) (x2 : Int) : Bool := (bnd ((if decide (x0 ≥ x1) then decide (x0 ≤ x2) else false) : Bool) fun q55 => q55)
def GuideCheck.loop2 (x59 : ApiTrain) : (List ApiStop) → Nat → Option (Out Int Unit)
  | [], _ => some (.next ())
  | x86 :: rest87, k85 => (bnd ((if !(Guidewithin x86.Station 0 11) then true else (if !(Guidewithin x86.Arr 0 28800) then true else !(Guidewithin x86.Dep 0 28800))) : Bool) fun q104 => (if q104 then some (.ret 2) else (((if decide (x86.Dep < x86.Arr) then some true else (if decide (((k85 : Nat) : Int) > 0) then ((gx x59.Stops (w64 (((k85 : Nat) : Int) - 1))).bind fun x117 => some (decide (x86.Arr ≤ x117.Dep))) else some false)) : Option Bool).bind fun q113 => (if q113 then some (.ret 5) else GuideCheck.loop2 x59 rest87 (k85 + 1)))))
def GuideCheck.loop1 : (List ApiTrain) → (List (Int × Bool)) → Option (Out Int (List (Int × Bool)))
  | [], q67 => some (.next q67)
  | x59 :: rest60, q67 => (if !(Guidewithin x59.No 1 9999) then some (.ret 2) else (if ((mget q67 x59.No).getD false) then some (.ret 6) else (if decide (((x59.Stops).length : Int) < 2) then some (.ret 1) else ((GuideCheck.loop2 x59 x59.Stops 0).bind fun q84 => match q84 with | .ret r => some (.ret r) | .next () => GuideCheck.loop1 rest60 (mput q67 x59.No true)))))
def GuideCheck (x0 : ApiDay) : Option Int := ((PlanText x0).bind fun q52 => (if (q52.2 != 0) then some q52.2 else ((GuideCheck.loop1 x0.Trains []).bind fun q57 => match q57 with | .ret r => some r | .next _ => some 0)))
def GuidecheckLeast (x0 : ApiDay) (x1 : Int) : Option Int := ((GuideCheck x0).bind fun q52 => (if (q52 != 0) then some q52 else (if !(Guidewithin x1 0 28800) then some 2 else some 0)))
def GuideNeton (x0 : GuideNet) (x1 : GuideRide) : Option ApiStop := ((gx x0.Day.Trains x1.Train).bind fun x55 => ((gx x55.Stops x1.On).bind fun x70 => some x70))
def GuideNetoff (x0 : GuideNet) (x1 : GuideRide) : Option ApiStop := ((gx x0.Day.Trains x1.Train).bind fun x55 => ((gx x55.Stops x1.Off).bind fun x70 => some x70))
def GuideNetjourney.loop1 (x0 : GuideNet) (x1 : GuideJourney) (x2 : Bool) : (List GuideRide) → Nat → Option (Out Int Unit)
  | [], _ => some (.next ())
  | x57 :: rest58, k56 => (if !(Guidewithin x57.Train 0 (w64 (((x0.Day.Trains).length : Int) - 1))) then some (.ret 3) else ((gx x0.Day.Trains x57.Train).bind fun x72 => (bnd ((if !(Guidewithin x57.On 0 (w64 (((x72.Stops).length : Int) - 1))) then true else !(Guidewithin x57.Off 0 (w64 (((x72.Stops).length : Int) - 1)))) : Bool) fun q91 => (if q91 then some (.ret 3) else (if decide (x57.On ≥ x57.Off) then some (.ret 1) else (if (((k56 : Nat) : Int) == 0) then GuideNetjourney.loop1 x0 x1 x2 rest58 (k56 + 1) else ((gx x1.Rides (w64 (((k56 : Nat) : Int) - 1))).bind fun x97 => (((if (x57.Train == x97.Train) then some true else ((GuideNeton x0 x57).bind fun q115 => ((GuideNetoff x0 x97).bind fun q121 => some (q115.Station != q121.Station)))) : Option Bool).bind fun q111 => (if q111 then some (.ret 1) else (((if x2 then ((GuideNeton x0 x57).bind fun q136 => ((GuideNetoff x0 x97).bind fun q142 => some (decide (q136.Dep < (w64 (q142.Arr + x0.least)))))) else some false) : Option Bool).bind fun q132 => (if q132 then some (.ret 13) else GuideNetjourney.loop1 x0 x1 x2 rest58 (k56 + 1))))))))))))
def GuideNetjourney (x0 : GuideNet) (x1 : GuideJourney) (x2 : Bool) : Option Int := (if !(Guidewithin ((x1.Rides).length : Int) 1 4) then some 4 else ((GuideNetjourney.loop1 x0 x1 x2 x1.Rides 0).bind fun q55 => match q55 with | .ret r => some r | .next () => some 0))
def GuideCheckJourney (x0 : ApiDay) (x1 : GuideJourney) (x2 : Int) : Option Int := ((GuidecheckLeast x0 x2).bind fun q53 => (if (q53 != 0) then some q53 else ((GuideNetjourney (GuideNet.mk x0 x2) x1 true).bind fun q56 => some q56)))
def FishtopawakeGuide : Option Bool := ((GuideCheckJourney (ApiDay.mk [] []) (GuideJourney.mk []) (-1)).bind fun q51 => some (q51 != 0))
def Fishref2numbersIn.loop2 : (List ApiStop) → (List (List Int)) → Option (List (List Int))
  | [], q107 => some q107
  | x99 :: rest100, q107 => ((apd q107 [[x99.Station, x99.Track, x99.Arr, x99.Dep]]).bind fun x127 => Fishref2numbersIn.loop2 rest100 x127)
def Fishref2numbersIn.loop1 : (List ApiTrain) → (List (List Int)) → Option (List (List Int))
  | [], q64 => some q64
  | x56 :: rest57, q64 => ((apd q64 [[x56.No, x56.Stock]]).bind fun x90 => ((Fishref2numbersIn.loop2 x56.Stops x90).bind fun q107 => ((apd q107 x56.Legs).bind fun x133 => Fishref2numbersIn.loop1 rest57 x133)))
def Fishref2numbersIn (x0 : ApiDay) : Option (List (List Int)) := ((Fishref2numbersIn.loop1 x0.Trains []).bind fun q64 => ((apd q64 x0.Turns).bind fun x139 => some x139))
def Fishref2within (x0 : Int) (x1 : Int) (x2 : Int) : Bool := (bnd ((if decide (x0 ≥ x1) then decide (x0 ≤ x2) else false) : Bool) fun q55 => q55)
def Fishref2TextFault.loop2 : (List (List Int)) → Out Int Unit
  | [] => (.next ())
  | x94 :: rest95 => (if (((x94).length : Int) == 0) then (.ret 1) else Fishref2TextFault.loop2 rest95)
def Fishref2TextFault.loop3 : (List (List Int)) → Out Int Unit
  | [] => (.next ())
  | x115 :: rest116 => (if decide (((x115).length : Int) > 4) then (.ret 4) else Fishref2TextFault.loop3 rest116)
def Fishref2TextFault.loop1 : (List ApiTrain) → Out Int Unit
  | [] => (.next ())
  | x63 :: rest64 => (bnd ((if (((x63.Stops).length : Int) == 0) then true else (((x63.Legs).length : Int) != (w64 (((x63.Stops).length : Int) - 1)))) : Bool) fun q87 => (if q87 then (.ret 1) else (bnd (Fishref2TextFault.loop2 x63.Legs) fun q92 => match q92 with | .ret r => (.ret r) | .next () => (if decide (((x63.Stops).length : Int) > 8) then (.ret 4) else (bnd (Fishref2TextFault.loop3 x63.Legs) fun q113 => match q113 with | .ret r => (.ret r) | .next () => Fishref2TextFault.loop1 rest64)))))
def Fishref2TextFault.loop4 : (List (List Int)) → Out Int Unit
  | [] => (.next ())
  | x135 :: rest136 => (if (((x135).length : Int) == 0) then (.ret 1) else (if decide (((x135).length : Int) > 12) then (.ret 4) else Fishref2TextFault.loop4 rest136))
def Fishref2TextFault.loop6 : (List Int) → Out Int Unit
  | [] => (.next ())
  | x192 :: rest193 => (if !(Fishref2within x192 0 999999) then (.ret 2) else Fishref2TextFault.loop6 rest193)
def Fishref2TextFault.loop5 (q153 : (List (List Int))) : Nat → Nat → Option (Out Int Unit)
  | 0, _ => some (.next ())
  | rest167 + 1, k165 => ((gx q153 ((k165 : Nat) : Int)).bind fun x176 => (bnd (Fishref2TextFault.loop6 x176) fun q190 => match q190 with | .ret r => some (.ret r) | .next () => Fishref2TextFault.loop5 q153 rest167 (k165 + 1)))
def Fishref2TextFault (x0 : ApiDay) : Option Int := (bnd ((if decide (((x0.Trains).length : Int) > 12) then true else decide (((x0.Turns).length : Int) > 8)) : Bool) fun q56 => (if q56 then some 4 else (bnd (Fishref2TextFault.loop1 x0.Trains) fun q61 => match q61 with | .ret r => some r | .next () => (bnd (Fishref2TextFault.loop4 x0.Turns) fun q133 => match q133 with | .ret r => some r | .next () => ((Fishref2numbersIn x0).bind fun q153 => ((Fishref2TextFault.loop5 q153 q153.length 0).bind fun q164 => match q164 with | .ret r => some r | .next () => some 0))))))
def Fishref2GuideFault.loop2 (x58 : ApiTrain) : (List ApiTrain) → Out Int Unit
  | [] => (.next ())
  | x91 :: rest92 => (if (x91.No == x58.No) then (.ret 6) else Fishref2GuideFault.loop2 x58 rest92)
def Fishref2GuideFault.loop3 (x58 : ApiTrain) : (List ApiStop) → Nat → Option (Out Int Unit)
  | [], _ => some (.next ())
  | x116 :: rest117, k115 => (bnd ((if !(Fishref2within x116.Station 0 11) then true else (if !(Fishref2within x116.Arr 0 28800) then true else !(Fishref2within x116.Dep 0 28800))) : Bool) fun q134 => (if q134 then some (.ret 2) else (((if decide (x116.Dep < x116.Arr) then some true else (if decide (((k115 : Nat) : Int) > 0) then ((gx x58.Stops (w64 (((k115 : Nat) : Int) - 1))).bind fun x147 => some (decide (x116.Arr ≤ x147.Dep))) else some false)) : Option Bool).bind fun q143 => (if q143 then some (.ret 5) else Fishref2GuideFault.loop3 x58 rest117 (k115 + 1)))))
def Fishref2GuideFault.loop1 (x0 : ApiDay) : (List ApiTrain) → Nat → Option (Out Int Unit)
  | [], _ => some (.next ())
  | x58 :: rest59, k57 => (if !(Fishref2within x58.No 1 9999) then some (.ret 2) else ((cutl x0.Trains 0 ((k57 : Nat) : Int)).bind fun x79 => (bnd (Fishref2GuideFault.loop2 x58 x79) fun q89 => match q89 with | .ret r => some (.ret r) | .next () => (if decide (((x58.Stops).length : Int) < 2) then some (.ret 1) else ((Fishref2GuideFault.loop3 x58 x58.Stops 0).bind fun q114 => match q114 with | .ret r => some (.ret r) | .next () => Fishref2GuideFault.loop1 x0 rest59 (k57 + 1))))))
def Fishref2GuideFault (x0 : ApiDay) : Option Int := ((Fishref2TextFault x0).bind fun q52 => (if (q52 != 0) then some q52 else ((Fishref2GuideFault.loop1 x0 x0.Trains 0).bind fun q56 => match q56 with | .ret r => some r | .next () => some 0)))
def Farewithin (x0 : Int) (x1 : Int) (x2 : Int) : Bool := (bnd ((if decide (x0 ≥ x1) then decide (x0 ≤ x2) else false) : Bool) fun q55 => q55)
def FareNewCar (x0 : Int) (x1 : Int) (x2 : Int) : (Option (Int × Int × Int × (List FareBooking) × (List Bool))) × Int := (bnd ((if !(Farewithin x0 1 20) then true else (if !(Farewithin x1 1 4) then true else !(Farewithin x2 2 12))) : Bool) fun q55 => (if q55 then (none, 2) else ((some (x0, x1, x2, [], [])), 0)))
def Fishref2JourneyFault.loop1 (x0 : ApiDay) (x1 : GuideJourney) (x2 : Int) (x3 : Bool) : (List GuideRide) → Nat → Option (Out Int Unit)
  | [], _ => some (.next ())
  | x58 :: rest59, k57 => (bnd ((if decide (x58.Train < 0) then true else decide (x58.Train ≥ ((x0.Trains).length : Int))) : Bool) fun q76 => (if q76 then some (.ret 3) else ((gx x0.Trains x58.Train).bind fun x80 => (bnd ((if decide (x58.On < 0) then true else (if decide (x58.On ≥ ((x80.Stops).length : Int)) then true else (if decide (x58.Off < 0) then true else decide (x58.Off ≥ ((x80.Stops).length : Int))))) : Bool) fun q99 => (if q99 then some (.ret 3) else (if decide (x58.On ≥ x58.Off) then some (.ret 1) else (if (((k57 : Nat) : Int) == 0) then Fishref2JourneyFault.loop1 x0 x1 x2 x3 rest59 (k57 + 1) else ((gx x1.Rides (w64 (((k57 : Nat) : Int) - 1))).bind fun x107 => ((gx x0.Trains x107.Train).bind fun x118 => ((gx x118.Stops x107.Off).bind fun x133 => (((if (x107.Train == x58.Train) then some true else ((gx x80.Stops x58.On).bind fun x150 => some (x150.Station != x133.Station))) : Option Bool).bind fun q147 => (if q147 then some (.ret 1) else (((if x3 then ((gx x80.Stops x58.On).bind fun x167 => some (decide (x167.Dep < (w64 (x133.Arr + x2))))) else some false) : Option Bool).bind fun q164 => (if q164 then some (.ret 13) else Fishref2JourneyFault.loop1 x0 x1 x2 x3 rest59 (k57 + 1)))))))))))))))
def Fishref2JourneyFault (x0 : ApiDay) (x1 : GuideJourney) (x2 : Int) (x3 : Bool) : Option Int := (if !(Fishref2within x2 0 28800) then some 2 else (if !(Fishref2within ((x1.Rides).length : Int) 1 4) then some 4 else ((Fishref2JourneyFault.loop1 x0 x1 x2 x3 x1.Rides 0).bind fun q56 => match q56 with | .ret r => some r | .next () => some 0)))
def Farespan (x0 : Int) (x1 : Int) (x2 : Int) : Bool := (bnd ((if decide (x0 ≥ 0) then (if decide (x0 < x1) then decide (x1 < x2) else false) else false) : Bool) fun q55 => q55)
def SlicesIndexLint.loop1 (x1 : Int) : (List Int) → Nat → Out Int Unit
  | [], _ => (.next ())
  | x54 :: rest55, k53 => (if (x1 == x54) then (.ret ((k53 : Nat) : Int)) else SlicesIndexLint.loop1 x1 rest55 (k53 + 1))
def SlicesIndexLint (x0 : List Int) (x1 : Int) : Int := (bnd (SlicesIndexLint.loop1 x1 x0 0) fun q52 => match q52 with | .ret r => r | .next () => (-1))
def SlicesContainsLint (x0 : List Int) (x1 : Int) : Bool := decide ((SlicesIndexLint x0 x1) ≥ 0)
def FareCarof_v1.loop1 (x1 : Int) (y0 : FareCar) : Nat → Nat → (List FareBooking) → Option (List FareBooking)
  | 0, _, q64 => some q64
  | rest56 + 1, k54, q64 => ((gx y0.bookings ((k54 : Nat) : Int)).bind fun x72 => ((((gx y0.cancelled ((k54 : Nat) : Int)).bind fun x92 => (if !x92 then some (SlicesContainsLint x72.Seats x1) else some false)) : Option Bool).bind fun q90 => (((if q90 then ((apd q64 [x72]).bind fun x117 => some x117) else some q64) : Option (List FareBooking)).bind fun q107 => FareCarof_v1.loop1 x1 y0 rest56 (k54 + 1) q107)))
def FareCarof_v1 (x1 : Int) (y0 : FareCar) : Option (List FareBooking) := ((FareCarof_v1.loop1 x1 y0 y0.bookings.length 0 []).bind fun q64 => some q64)
def FareCarfree_1_v1 (x0 : FareBooking) (y0 : Int) (y1 : Int) : Bool := (bnd ((if decide (x0.From < y0) then decide (x0.To > y1) else false) : Bool) fun q56 => q56)
def SlicesIndexFuncLfareBooking_v1.loop1 (y0 : Int) (y1 : Int) : (List FareBooking) → Nat → Out Int Unit
  | [], _ => (.next ())
  | x54 :: rest55, k53 => (if (FareCarfree_1_v1 x54 y0 y1) then (.ret ((k53 : Nat) : Int)) else SlicesIndexFuncLfareBooking_v1.loop1 y0 y1 rest55 (k53 + 1))
def SlicesIndexFuncLfareBooking_v1 (x0 : List FareBooking) (y0 : Int) (y1 : Int) : Int := (bnd (SlicesIndexFuncLfareBooking_v1.loop1 y0 y1 x0 0) fun q52 => match q52 with | .ret r => r | .next () => (-1))
def SlicesContainsFuncLfareBooking_v1 (x0 : List FareBooking) (y0 : Int) (y1 : Int) : Bool := decide ((SlicesIndexFuncLfareBooking_v1 x0 y0 y1) ≥ 0)
def FareCarfree_v1.loop2 (x1 : Int) (x2 : Int) (y0 : FareCar) : Nat → (List Int) → Int → Option ((List Int) × Int)
  | 0, _, _ => none
  | n67 + 1, q71, q78 => (if decide (q78 < (w64 (y0.rows * y0.across))) then ((FareCarof_v1 q78 y0).bind fun q81 => (((if !(SlicesContainsFuncLfareBooking_v1 q81 x2 x1) then ((apd q71 [q78]).bind fun x107 => some x107) else some q71) : Option (List Int)).bind fun q97 => FareCarfree_v1.loop2 x1 x2 y0 n67 q97 (w64 (q78 + 1)))) else some (q71, q78))
def FareCarfree_v1 (fu : Nat) (x1 : Int) (x2 : Int) (y0 : FareCar) : Option (List Int) := ((FareCarfree_v1.loop2 x1 x2 y0 fu [] 0).bind fun q66 => match q66 with | (q71, _) => some q71)
def SlicesCloneLint (x0 : List Int) : Option (List Int) := ((apd [] x0).bind fun x56 => some x56)
def FareCargap_v1.loop1 (x2 : Int) (x3 : Int) (q51 : (List FareBooking)) : Nat → Nat → Int → Int → Option (Int × Int)
  | 0, _, q71, q72 => some (q71, q72)
  | rest63 + 1, k61, q71, q72 => ((gx q51 ((k61 : Nat) : Int)).bind fun x74 => (bnd ((if decide (x74.To ≤ x2) then mx q71 x74.To else q71) : Int) fun q92 => (bnd ((if decide (x74.From ≥ x3) then mn q72 x74.From else q72) : Int) fun q99 => FareCargap_v1.loop1 x2 x3 q51 rest63 (k61 + 1) q92 q99)))
def FareCargap_v1 (x1 : Int) (x2 : Int) (x3 : Int) (y0 : FareCar) : Option Int := ((FareCarof_v1 x1 y0).bind fun q51 => ((FareCargap_v1.loop1 x2 x3 q51 q51.length 0 0 (w64 (y0.stops - 1))).bind fun q60 => match q60 with | (q71, q72) => some (w64 (q72 - q71))))
def CmpisNaNint (x0 : Int) : Bool := (x0 != x0)
def CmpCompareint (x0 : Int) (x1 : Int) : Int := (if (CmpisNaNint x0) then (if (CmpisNaNint x1) then 0 else (-1)) else (if (CmpisNaNint x1) then 1 else (if decide (x0 < x1) then (-1) else (if decide (x0 > x1) then 1 else 0))))
def FareCarchoose_1_v1 (x0 : Int) (x1 : Int) (y1 : Int) (y2 : Int) (y3 : FareCar) : Option Int := ((FareCargap_v1 x0 y1 y2 y3).bind fun q51 => ((FareCargap_v1 x1 y1 y2 y3).bind fun q53 => some (CmpCompareint q51 q53)))
def SlicesinsertionSortCmpFuncint_v1.loop2 (x1 : Int) (y1 : Int) (y2 : Int) (y3 : FareCar) : Nat → Int → (List Int) → Option (Int × (List Int))
  | 0, _, _ => none
  | n74 + 1, q78, q79 => (((if decide (q78 > x1) then ((gx q79 q78).bind fun x93 => ((gx q79 (w64 (q78 - 1))).bind fun x103 => ((FareCarchoose_1_v1 x93 x103 y1 y2 y3).bind fun q113 => some (decide (q113 < 0))))) else some false) : Option Bool).bind fun q90 => (if q90 then ((gx q79 (w64 (q78 - 1))).bind fun x117 => ((gx q79 q78).bind fun x127 => ((ix q79 q78).bind fun _ => ((sx q79 q78 x117).bind fun x142 => ((ix x142 (w64 (q78 - 1))).bind fun _ => ((sx x142 (w64 (q78 - 1)) x127).bind fun x152 => SlicesinsertionSortCmpFuncint_v1.loop2 x1 y1 y2 y3 n74 (w64 (q78 - 1)) x152)))))) else some (q78, q79)))
def SlicesinsertionSortCmpFuncint_v1.loop1 (x1 : Int) (x2 : Int) (y1 : Int) (y2 : Int) (y3 : FareCar) (fu : Nat) : Nat → Int → (List Int) → Option (Int × (List Int))
  | 0, _, _ => none
  | n59 + 1, q63, q64 => (if decide (q63 < x2) then ((SlicesinsertionSortCmpFuncint_v1.loop2 x1 y1 y2 y3 fu q63 q64).bind fun q73 => match q73 with | (_, q79) => SlicesinsertionSortCmpFuncint_v1.loop1 x1 x2 y1 y2 y3 fu n59 (w64 (q63 + 1)) q79) else some (q63, q64))
def SlicesinsertionSortCmpFuncint_v1 (fu : Nat) (x0 : List Int) (x1 : Int) (x2 : Int) (y1 : Int) (y2 : Int) (y3 : FareCar) : Option (List Int) := ((SlicesinsertionSortCmpFuncint_v1.loop1 x1 x2 y1 y2 y3 fu fu (w64 (x1 + 1)) x0).bind fun q58 => match q58 with | (_, q64) => some q64)
def SlicesswapRangeCmpFuncint_v1.loop1 (x1 : Int) (x2 : Int) (x3 : Int) : Nat → Int → (List Int) → Option (Int × (List Int))
  | 0, _, _ => none
  | n59 + 1, q63, q64 => (if decide (q63 < x3) then ((gx q64 (w64 (x2 + q63))).bind fun x73 => ((gx q64 (w64 (x1 + q63))).bind fun x83 => ((ix q64 (w64 (x1 + q63))).bind fun _ => ((sx q64 (w64 (x1 + q63)) x73).bind fun x98 => ((ix x98 (w64 (x2 + q63))).bind fun _ => ((sx x98 (w64 (x2 + q63)) x83).bind fun x108 => SlicesswapRangeCmpFuncint_v1.loop1 x1 x2 x3 n59 (w64 (q63 + 1)) x108)))))) else some (q63, q64))
def SlicesswapRangeCmpFuncint_v1 (fu : Nat) (x0 : List Int) (x1 : Int) (x2 : Int) (x3 : Int) (_y1 : Int) (_y2 : Int) (_y3 : FareCar) : Option (List Int) := ((SlicesswapRangeCmpFuncint_v1.loop1 x1 x2 x3 fu 0 x0).bind fun q58 => match q58 with | (_, q64) => some q64)
def SlicesrotateCmpFuncint_v1.loop1 (x2 : Int) (y1 : Int) (y2 : Int) (y3 : FareCar) (fu : Nat) : Nat → Int → Int → (List Int) → Option (Int × Int × (List Int))
  | 0, _, _, _ => none
  | n59 + 1, q63, q64, q65 => (if (q63 != q64) then (((if decide (q63 > q64) then ((SlicesswapRangeCmpFuncint_v1 fu q65 (w64 (x2 - q63)) x2 q64 y1 y2 y3).bind fun q87 => some (w64 (q63 - q64), q64, q87)) else ((SlicesswapRangeCmpFuncint_v1 fu q65 (w64 (x2 - q63)) (w64 ((w64 (x2 + q64)) - q63)) q63 y1 y2 y3).bind fun q92 => some (q63, w64 (q64 - q63), q92))) : Option (Int × Int × (List Int))).bind fun q74 => match q74 with | (q77, q78, q79) => SlicesrotateCmpFuncint_v1.loop1 x2 y1 y2 y3 fu n59 q77 q78 q79) else some (q63, q64, q65))
def SlicesrotateCmpFuncint_v1 (fu : Nat) (x0 : List Int) (x1 : Int) (x2 : Int) (x3 : Int) (y1 : Int) (y2 : Int) (y3 : FareCar) : Option (List Int) := ((SlicesrotateCmpFuncint_v1.loop1 x2 y1 y2 y3 fu fu (w64 (x2 - x1)) (w64 (x3 - x2)) x0).bind fun q58 => match q58 with | (q63, _, q65) => ((SlicesswapRangeCmpFuncint_v1 fu q65 (w64 (x2 - q63)) x2 q63 y1 y2 y3).bind fun q97 => some q97))
def SlicessymMergeCmpFuncint_v1.loop1 (x0 : List Int) (x1 : Int) (y1 : Int) (y2 : Int) (y3 : FareCar) : Nat → Int → Int → Option (Int × Int)
  | 0, _, _ => none
  | n60 + 1, q64, q65 => (if decide (q64 < q65) then ((gx x0 (w64 (Int.fdiv (IntKind.wrap .u64 (w64 (q64 + q65))) (2 ^ (min (Int.toNat 1) (IntKind.bits .u64)))))).bind fun x68 => ((gx x0 x1).bind fun x78 => ((FareCarchoose_1_v1 x68 x78 y1 y2 y3).bind fun q88 => (bnd ((if decide (q88 < 0) then (w64 ((w64 (Int.fdiv (IntKind.wrap .u64 (w64 (q64 + q65))) (2 ^ (min (Int.toNat 1) (IntKind.bits .u64))))) + 1), q65) else (q64, w64 (Int.fdiv (IntKind.wrap .u64 (w64 (q64 + q65))) (2 ^ (min (Int.toNat 1) (IntKind.bits .u64)))))) : Int × Int) fun q91 => match q91 with | (q94, q95) => SlicessymMergeCmpFuncint_v1.loop1 x0 x1 y1 y2 y3 n60 q94 q95)))) else some (q64, q65))
def SlicessymMergeCmpFuncint_v1.loop2 (q64 : Int) : Nat → Int → (List Int) → Option (Int × (List Int))
  | 0, _, _ => none
  | n100 + 1, q104, q105 => (if decide (q104 < (w64 (q64 - 1))) then ((gx q105 (w64 (q104 + 1))).bind fun x114 => ((gx q105 q104).bind fun x124 => ((ix q105 q104).bind fun _ => ((sx q105 q104 x114).bind fun x139 => ((ix x139 (w64 (q104 + 1))).bind fun _ => ((sx x139 (w64 (q104 + 1)) x124).bind fun x149 => SlicessymMergeCmpFuncint_v1.loop2 q64 n100 (w64 (q104 + 1)) x149)))))) else some (q104, q105))
def SlicessymMergeCmpFuncint_v1.loop3 (x0 : List Int) (x2 : Int) (y1 : Int) (y2 : Int) (y3 : FareCar) : Nat → Int → Int → Option (Int × Int)
  | 0, _, _ => none
  | n157 + 1, q161, q162 => (if decide (q161 < q162) then ((gx x0 x2).bind fun x165 => ((gx x0 (w64 (Int.fdiv (IntKind.wrap .u64 (w64 (q161 + q162))) (2 ^ (min (Int.toNat 1) (IntKind.bits .u64)))))).bind fun x175 => ((FareCarchoose_1_v1 x165 x175 y1 y2 y3).bind fun q185 => (bnd ((if !(decide (q185 < 0)) then (w64 ((w64 (Int.fdiv (IntKind.wrap .u64 (w64 (q161 + q162))) (2 ^ (min (Int.toNat 1) (IntKind.bits .u64))))) + 1), q162) else (q161, w64 (Int.fdiv (IntKind.wrap .u64 (w64 (q161 + q162))) (2 ^ (min (Int.toNat 1) (IntKind.bits .u64)))))) : Int × Int) fun q188 => match q188 with | (q191, q192) => SlicessymMergeCmpFuncint_v1.loop3 x0 x2 y1 y2 y3 n157 q191 q192)))) else some (q161, q162))
def SlicessymMergeCmpFuncint_v1.loop4 (q161 : Int) : Nat → Int → (List Int) → Option (Int × (List Int))
  | 0, _, _ => none
  | n197 + 1, q201, q202 => (if decide (q201 > q161) then ((gx q202 (w64 (q201 - 1))).bind fun x211 => ((gx q202 q201).bind fun x221 => ((ix q202 q201).bind fun _ => ((sx q202 q201 x211).bind fun x236 => ((ix x236 (w64 (q201 - 1))).bind fun _ => ((sx x236 (w64 (q201 - 1)) x221).bind fun x246 => SlicessymMergeCmpFuncint_v1.loop4 q161 n197 (w64 (q201 - 1)) x246)))))) else some (q201, q202))
def SlicessymMergeCmpFuncint_v1.loop5 (x0 : List Int) (x1 : Int) (x2 : Int) (x3 : Int) (y1 : Int) (y2 : Int) (y3 : FareCar) : Nat → Int → Int → Option (Int × Int)
  | 0, _, _ => none
  | n261 + 1, q265, q266 => (if decide (q265 < q266) then ((gx x0 (w64 ((w64 ((w64 ((w64 (Int.fdiv (IntKind.wrap .u64 (w64 (x1 + x3))) (2 ^ (min (Int.toNat 1) (IntKind.bits .u64))))) + x2)) - 1)) - (w64 (Int.fdiv (IntKind.wrap .u64 (w64 (q265 + q266))) (2 ^ (min (Int.toNat 1) (IntKind.bits .u64)))))))).bind fun x269 => ((gx x0 (w64 (Int.fdiv (IntKind.wrap .u64 (w64 (q265 + q266))) (2 ^ (min (Int.toNat 1) (IntKind.bits .u64)))))).bind fun x279 => ((FareCarchoose_1_v1 x269 x279 y1 y2 y3).bind fun q289 => (bnd ((if !(decide (q289 < 0)) then (w64 ((w64 (Int.fdiv (IntKind.wrap .u64 (w64 (q265 + q266))) (2 ^ (min (Int.toNat 1) (IntKind.bits .u64))))) + 1), q266) else (q265, w64 (Int.fdiv (IntKind.wrap .u64 (w64 (q265 + q266))) (2 ^ (min (Int.toNat 1) (IntKind.bits .u64)))))) : Int × Int) fun q292 => match q292 with | (q295, q296) => SlicessymMergeCmpFuncint_v1.loop5 x0 x1 x2 x3 y1 y2 y3 n261 q295 q296)))) else some (q265, q266))
def SlicessymMergeCmpFuncint_v1 : Nat → (List Int) → Int → Int → Int → Int → Int → FareCar → Option (List Int)
  | 0, _, _, _, _, _, _, _ => none
  | fu + 1, x0, x1, x2, x3, y1, y2, y3 => (if ((w64 (x2 - x1)) == 1) then ((SlicessymMergeCmpFuncint_v1.loop1 x0 x1 y1 y2 y3 fu x2 x3).bind fun q59 => match q59 with | (q64, _) => ((SlicessymMergeCmpFuncint_v1.loop2 q64 fu x1 x0).bind fun q99 => match q99 with | (_, q105) => some q105)) else (if ((w64 (x3 - x2)) == 1) then ((SlicessymMergeCmpFuncint_v1.loop3 x0 x2 y1 y2 y3 fu x1 x2).bind fun q156 => match q156 with | (q161, _) => ((SlicessymMergeCmpFuncint_v1.loop4 q161 fu x2 x0).bind fun q196 => match q196 with | (_, q202) => some q202)) else (bnd ((if decide (x2 > (w64 (Int.fdiv (IntKind.wrap .u64 (w64 (x1 + x3))) (2 ^ (min (Int.toNat 1) (IntKind.bits .u64)))))) then (w64 ((w64 ((w64 (Int.fdiv (IntKind.wrap .u64 (w64 (x1 + x3))) (2 ^ (min (Int.toNat 1) (IntKind.bits .u64))))) + x2)) - x3), w64 (Int.fdiv (IntKind.wrap .u64 (w64 (x1 + x3))) (2 ^ (min (Int.toNat 1) (IntKind.bits .u64))))) else (x1, x2)) : Int × Int) fun q252 => match q252 with | (q255, q256) => ((SlicessymMergeCmpFuncint_v1.loop5 x0 x1 x2 x3 y1 y2 y3 fu q255 q256).bind fun q260 => match q260 with | (q265, _) => (bnd ((if decide (q265 < x2) then decide (x2 < (w64 ((w64 ((w64 (Int.fdiv (IntKind.wrap .u64 (w64 (x1 + x3))) (2 ^ (min (Int.toNat 1) (IntKind.bits .u64))))) + x2)) - q265))) else false) : Bool) fun q303 => (if q303 then ((SlicesrotateCmpFuncint_v1 fu x0 q265 x2 (w64 ((w64 ((w64 (Int.fdiv (IntKind.wrap .u64 (w64 (x1 + x3))) (2 ^ (min (Int.toNat 1) (IntKind.bits .u64))))) + x2)) - q265)) y1 y2 y3).bind fun q307 => (bnd ((if decide (x1 < q265) then decide (q265 < (w64 (Int.fdiv (IntKind.wrap .u64 (w64 (x1 + x3))) (2 ^ (min (Int.toNat 1) (IntKind.bits .u64)))))) else false) : Bool) fun q316 => (if q316 then (((SlicessymMergeCmpFuncint_v1 fu) q307 x1 q265 (w64 (Int.fdiv (IntKind.wrap .u64 (w64 (x1 + x3))) (2 ^ (min (Int.toNat 1) (IntKind.bits .u64))))) y1 y2 y3).bind fun q320 => (bnd ((if decide ((w64 (Int.fdiv (IntKind.wrap .u64 (w64 (x1 + x3))) (2 ^ (min (Int.toNat 1) (IntKind.bits .u64))))) < (w64 ((w64 ((w64 (Int.fdiv (IntKind.wrap .u64 (w64 (x1 + x3))) (2 ^ (min (Int.toNat 1) (IntKind.bits .u64))))) + x2)) - q265))) then decide ((w64 ((w64 ((w64 (Int.fdiv (IntKind.wrap .u64 (w64 (x1 + x3))) (2 ^ (min (Int.toNat 1) (IntKind.bits .u64))))) + x2)) - q265)) < x3) else false) : Bool) fun q329 => (if q329 then (((SlicessymMergeCmpFuncint_v1 fu) q320 (w64 (Int.fdiv (IntKind.wrap .u64 (w64 (x1 + x3))) (2 ^ (min (Int.toNat 1) (IntKind.bits .u64))))) (w64 ((w64 ((w64 (Int.fdiv (IntKind.wrap .u64 (w64 (x1 + x3))) (2 ^ (min (Int.toNat 1) (IntKind.bits .u64))))) + x2)) - q265)) x3 y1 y2 y3).bind fun q333 => some q333) else some q320))) else (bnd ((if decide ((w64 (Int.fdiv (IntKind.wrap .u64 (w64 (x1 + x3))) (2 ^ (min (Int.toNat 1) (IntKind.bits .u64))))) < (w64 ((w64 ((w64 (Int.fdiv (IntKind.wrap .u64 (w64 (x1 + x3))) (2 ^ (min (Int.toNat 1) (IntKind.bits .u64))))) + x2)) - q265))) then decide ((w64 ((w64 ((w64 (Int.fdiv (IntKind.wrap .u64 (w64 (x1 + x3))) (2 ^ (min (Int.toNat 1) (IntKind.bits .u64))))) + x2)) - q265)) < x3) else false) : Bool) fun q342 => (if q342 then (((SlicessymMergeCmpFuncint_v1 fu) q307 (w64 (Int.fdiv (IntKind.wrap .u64 (w64 (x1 + x3))) (2 ^ (min (Int.toNat 1) (IntKind.bits .u64))))) (w64 ((w64 ((w64 (Int.fdiv (IntKind.wrap .u64 (w64 (x1 + x3))) (2 ^ (min (Int.toNat 1) (IntKind.bits .u64))))) + x2)) - q265)) x3 y1 y2 y3).bind fun q346 => some q346) else some q307))))) else (bnd ((if decide (x1 < q265) then decide (q265 < (w64 (Int.fdiv (IntKind.wrap .u64 (w64 (x1 + x3))) (2 ^ (min (Int.toNat 1) (IntKind.bits .u64)))))) else false) : Bool) fun q355 => (if q355 then (((SlicessymMergeCmpFuncint_v1 fu) x0 x1 q265 (w64 (Int.fdiv (IntKind.wrap .u64 (w64 (x1 + x3))) (2 ^ (min (Int.toNat 1) (IntKind.bits .u64))))) y1 y2 y3).bind fun q359 => (bnd ((if decide ((w64 (Int.fdiv (IntKind.wrap .u64 (w64 (x1 + x3))) (2 ^ (min (Int.toNat 1) (IntKind.bits .u64))))) < (w64 ((w64 ((w64 (Int.fdiv (IntKind.wrap .u64 (w64 (x1 + x3))) (2 ^ (min (Int.toNat 1) (IntKind.bits .u64))))) + x2)) - q265))) then decide ((w64 ((w64 ((w64 (Int.fdiv (IntKind.wrap .u64 (w64 (x1 + x3))) (2 ^ (min (Int.toNat 1) (IntKind.bits .u64))))) + x2)) - q265)) < x3) else false) : Bool) fun q368 => (if q368 then (((SlicessymMergeCmpFuncint_v1 fu) q359 (w64 (Int.fdiv (IntKind.wrap .u64 (w64 (x1 + x3))) (2 ^ (min (Int.toNat 1) (IntKind.bits .u64))))) (w64 ((w64 ((w64 (Int.fdiv (IntKind.wrap .u64 (w64 (x1 + x3))) (2 ^ (min (Int.toNat 1) (IntKind.bits .u64))))) + x2)) - q265)) x3 y1 y2 y3).bind fun q372 => some q372) else some q359))) else (bnd ((if decide ((w64 (Int.fdiv (IntKind.wrap .u64 (w64 (x1 + x3))) (2 ^ (min (Int.toNat 1) (IntKind.bits .u64))))) < (w64 ((w64 ((w64 (Int.fdiv (IntKind.wrap .u64 (w64 (x1 + x3))) (2 ^ (min (Int.toNat 1) (IntKind.bits .u64))))) + x2)) - q265))) then decide ((w64 ((w64 ((w64 (Int.fdiv (IntKind.wrap .u64 (w64 (x1 + x3))) (2 ^ (min (Int.toNat 1) (IntKind.bits .u64))))) + x2)) - q265)) < x3) else false) : Bool) fun q381 => (if q381 then (((SlicessymMergeCmpFuncint_v1 fu) x0 (w64 (Int.fdiv (IntKind.wrap .u64 (w64 (x1 + x3))) (2 ^ (min (Int.toNat 1) (IntKind.bits .u64))))) (w64 ((w64 ((w64 (Int.fdiv (IntKind.wrap .u64 (w64 (x1 + x3))) (2 ^ (min (Int.toNat 1) (IntKind.bits .u64))))) + x2)) - q265)) x3 y1 y2 y3).bind fun q385 => some q385) else some x0))))))))))
def SlicesstableCmpFuncint_v1.loop1 (x1 : Int) (y1 : Int) (y2 : Int) (y3 : FareCar) (fu : Nat) : Nat → Int → Int → (List Int) → Option (Int × Int × (List Int))
  | 0, _, _, _ => none
  | n59 + 1, q63, q64, q65 => (if decide (q64 ≤ x1) then ((SlicesinsertionSortCmpFuncint_v1 fu q65 q63 q64 y1 y2 y3).bind fun q73 => SlicesstableCmpFuncint_v1.loop1 x1 y1 y2 y3 fu n59 q64 (w64 (q64 + 20)) q73) else some (q63, q64, q65))
def SlicesstableCmpFuncint_v1.loop3 (x1 : Int) (y1 : Int) (y2 : Int) (y3 : FareCar) (fu : Nat) (q89 : Int) : Nat → Int → Int → (List Int) → Option (Int × Int × (List Int))
  | 0, _, _, _ => none
  | n100 + 1, q104, q105, q106 => (if decide (q105 ≤ x1) then ((SlicessymMergeCmpFuncint_v1 fu q106 q104 (w64 (q104 + q89)) q105 y1 y2 y3).bind fun q114 => SlicesstableCmpFuncint_v1.loop3 x1 y1 y2 y3 fu q89 n100 q105 (w64 (q105 + (w64 (2 * q89)))) q114) else some (q104, q105, q106))
def SlicesstableCmpFuncint_v1.loop2 (x1 : Int) (y1 : Int) (y2 : Int) (y3 : FareCar) (fu : Nat) : Nat → Int → (List Int) → Option (Int × (List Int))
  | 0, _, _ => none
  | n85 + 1, q89, q90 => (if decide (q89 < x1) then ((SlicesstableCmpFuncint_v1.loop3 x1 y1 y2 y3 fu q89 fu 0 (w64 (2 * q89)) q90).bind fun q99 => match q99 with | (q104, _, q106) => (if decide ((w64 (q104 + q89)) < x1) then ((SlicessymMergeCmpFuncint_v1 fu q106 q104 (w64 (q104 + q89)) x1 y1 y2 y3).bind fun q120 => SlicesstableCmpFuncint_v1.loop2 x1 y1 y2 y3 fu n85 (w64 (q89 * 2)) q120) else SlicesstableCmpFuncint_v1.loop2 x1 y1 y2 y3 fu n85 (w64 (q89 * 2)) q106)) else some (q89, q90))
def SlicesstableCmpFuncint_v1 (fu : Nat) (x0 : List Int) (x1 : Int) (y1 : Int) (y2 : Int) (y3 : FareCar) : Option (List Int) := ((SlicesstableCmpFuncint_v1.loop1 x1 y1 y2 y3 fu fu 0 20 x0).bind fun q58 => match q58 with | (q63, _, q65) => ((SlicesinsertionSortCmpFuncint_v1 fu q65 q63 x1 y1 y2 y3).bind fun q78 => ((SlicesstableCmpFuncint_v1.loop2 x1 y1 y2 y3 fu fu 20 q78).bind fun q84 => match q84 with | (_, q90) => some q90)))
def SlicesSortStableFuncLint_v1 (fu : Nat) (x0 : List Int) (y1 : Int) (y2 : Int) (y3 : FareCar) : Option (List Int) := ((SlicesstableCmpFuncint_v1 fu x0 ((x0.length : Nat) : Int) y1 y2 y3).bind fun q57 => some q57)
def FareCarchoose_v1.loop1 (y0 : FareCar) : (List Int) → (List (List Int)) → Option (List (List Int))
  | [], q71 => some q71
  | x63 :: rest64, q71 => ((dv x63 y0.across).bind fun x84 => ((gx q71 x84).bind fun x86 => ((apd x86 [x63]).bind fun x98 => ((ix q71 x84).bind fun _ => ((sx q71 x84 x98).bind fun x107 => FareCarchoose_v1.loop1 y0 rest64 x107)))))
def FareCarchoose_v1.loop2 (x4 : Int) (q71 : List (List Int)) : Nat → Nat → Int → Option Int
  | 0, _, q124 => some q124
  | rest116 + 1, k114, q124 => ((gx q71 ((k114 : Nat) : Int)).bind fun x126 => (((if decide (((x126).length : Int) ≥ x4) then (if decide (q124 < 0) then some true else ((gx q71 q124).bind fun x144 => some (decide (((x126).length : Int) < ((x144).length : Int))))) else some false) : Option Bool).bind fun q140 => (bnd ((if q140 then ((k114 : Nat) : Int) else q124) : Int) fun q158 => FareCarchoose_v1.loop2 x4 q71 rest116 (k114 + 1) q158)))
def FareCarchoose_v1 (fu : Nat) (x1 : List Int) (x2 : Int) (x3 : Int) (x4 : Int) (y0 : FareCar) : Option (List Int) := ((mks y0.rows ([] : List Int)).bind fun x54 => ((FareCarchoose_v1.loop1 y0 x1 x54).bind fun q71 => ((FareCarchoose_v1.loop2 x4 q71 x54.length 0 (-1)).bind fun q124 => (if decide (q124 ≥ 0) then ((gx q71 q124).bind fun x162 => ((cutl x162 0 x4).bind fun x173 => ((SlicesCloneLint x173).bind fun q182 => some q182))) else ((SlicesCloneLint x1).bind fun q194 => ((SlicesSortStableFuncLint_v1 fu q194 x2 x3 y0).bind fun q202 => ((cutl q202 0 x4).bind fun x207 => ((srt x207).bind fun q219 => some q219))))))))
def FareCarBook_v1 (fu : Nat) (x1 : Int) (x2 : Int) (x3 : Int) (y0 : FareCar) : Option (FareBooking × Int × (List FareBooking) × (List Bool)) := (bnd ((if !(Farespan x1 x2 y0.stops) then true else !(Farewithin x3 1 8)) : Bool) fun q84 => (if q84 then some ((FareBooking.mk 0 0 0 []), 2, y0.bookings, y0.cancelled) else ((FareCarfree_v1 fu x1 x2 y0).bind fun q88 => (if decide (((q88.length : Nat) : Int) < x3) then some ((FareBooking.mk 0 0 0 []), 14, y0.bookings, y0.cancelled) else ((FareCarchoose_v1 fu q88 x1 x2 x3 y0).bind fun q98 => ((apd y0.bookings [(FareBooking.mk ((y0.bookings.length : Nat) : Int) x1 x2 q98)]).bind fun x117 => ((apd y0.cancelled [false]).bind fun x124 => ((SlicesCloneLint q98).bind fun q131 => some ((FareBooking.mk ((y0.bookings.length : Nat) : Int) x1 x2 q131), 0, x117, x124)))))))))
def FareCarCancel_v1 (x1 : Int) (y0 : FareCar) : Option (Int × (List Bool)) := (((if !(Farewithin x1 0 (w64 (((y0.bookings.length : Nat) : Int) - 1))) then some true else ((gx y0.cancelled x1).bind fun x64 => some x64)) : Option Bool).bind fun q61 => (if q61 then some (9, y0.cancelled) else ((ix y0.cancelled x1).bind fun _ => ((sx y0.cancelled x1 true).bind fun x80 => some (0, x80)))))
def GuideCrowd_v1.loop1 (x0 : ApiDay) (x1 : List GuideJourney) : Nat → Nat → Option (Out ((List (List Int)) × Int) Unit)
  | 0, _ => some (.next ())
  | rest61 + 1, k59 => ((gx x1 ((k59 : Nat) : Int)).bind fun x70 => ((GuideNetjourney (GuideNet.mk x0 0) x70 false).bind fun q84 => (if (q84 != 0) then some (.ret ([], q84)) else GuideCrowd_v1.loop1 x0 x1 rest61 (k59 + 1))))
def GuideCrowd_v1.loop2 : (List ApiTrain) → (List (List Int)) → Option (List (List Int))
  | [], q99 => some q99
  | x91 :: rest92, q99 => ((mks (w64 (((x91.Stops).length : Int) - 1)) (0 : Int)).bind fun x118 => ((apd q99 [x118]).bind fun x125 => GuideCrowd_v1.loop2 rest92 x125))
def GuideCrowd_v1.loop5 (x168 : GuideRide) : Nat → Int → (List (List Int)) → Option (Int × (List (List Int)))
  | 0, _, _ => none
  | n191 + 1, q195, q196 => (if decide (q195 < x168.Off) then ((gx q196 x168.Train).bind fun x205 => ((gx x205 q195).bind fun x215 => ((ix x205 q195).bind fun _ => ((sx x205 q195 (w64 (x215 + 1))).bind fun x231 => GuideCrowd_v1.loop5 x168 n191 (w64 (q195 + 1)) (q196.set ((x168.Train).toNat) x231))))) else some (q195, q196))
def GuideCrowd_v1.loop4 (fu : Nat) : (List GuideRide) → (List (List Int)) → Option (List (List Int))
  | [], q176 => some q176
  | x168 :: rest169, q176 => ((GuideCrowd_v1.loop5 x168 fu x168.On q176).bind fun q190 => match q190 with | (_, q196) => GuideCrowd_v1.loop4 fu rest169 q196)
def GuideCrowd_v1.loop3 (x1 : List GuideJourney) (fu : Nat) : Nat → Nat → (List (List Int)) → Option (List (List Int))
  | 0, _, q143 => some q143
  | rest135 + 1, k133, q143 => ((gx x1 ((k133 : Nat) : Int)).bind fun x151 => ((GuideCrowd_v1.loop4 fu x151.Rides q143).bind fun q176 => GuideCrowd_v1.loop3 x1 fu rest135 (k133 + 1) q176))
def GuideCrowd_v1 (fu : Nat) (x0 : ApiDay) (x1 : List GuideJourney) : Option ((List (List Int)) × Int) := ((GuideCheck x0).bind fun q52 => (if (q52 != 0) then some ([], q52) else (if decide (((x1.length : Nat) : Int) > 100) then some ([], 4) else ((GuideCrowd_v1.loop1 x0 x1 x1.length 0).bind fun q58 => match q58 with | .ret r => some r | .next () => ((GuideCrowd_v1.loop2 x0.Trains []).bind fun q99 => ((GuideCrowd_v1.loop3 x1 fu x1.length 0 q99).bind fun q143 => some (q143, 0)))))))
def FareCarBookings_v1.loop1 (y0 : FareCar) : Nat → Nat → (List FareBooking) → Option (List FareBooking)
  | 0, _, q64 => some q64
  | rest56 + 1, k54, q64 => ((gx y0.bookings ((k54 : Nat) : Int)).bind fun x72 => ((gx y0.cancelled ((k54 : Nat) : Int)).bind fun x86 => (((if !x86 then ((SlicesCloneLint x72.Seats).bind fun q113 => ((apd q64 [(FareBooking.mk x72.No x72.From x72.To q113)]).bind fun x125 => some (x125, q113))) else some (q64, x72.Seats)) : Option ((List FareBooking) × (List Int))).bind fun q97 => match q97 with | (q100, _) => FareCarBookings_v1.loop1 y0 rest56 (k54 + 1) q100)))
def FareCarBookings_v1 (y0 : FareCar) : Option (List FareBooking) := ((FareCarBookings_v1.loop1 y0 y0.bookings.length 0 []).bind fun q64 => some q64)
def FareCarFree_v1 (fu : Nat) (x1 : Int) (x2 : Int) (y0 : FareCar) : Option ((List Int) × Int) := (if !(Farespan x1 x2 y0.stops) then some ([], 2) else ((FareCarfree_v1 fu x1 x2 y0).bind fun q53 => some (q53, 0)))
def FishtopTopSeated.loop1 (x2 : Int) (x3 : Int) : (List ApiTrain) → (List FareCar) → Option (Out Bool (List FareCar))
  | [], q79 => some (.next q79)
  | x71 :: rest72, q79 => (bnd (FareNewCar x2 x3 ((x71.Stops).length : Int)) fun q100 => (match q100.1 with | none => (if (q100.2 != 0) then (bnd ((if (q100.2 == 2) then true else false) : Bool) fun q125 => some (.ret q125)) else some (.ret false)) | some d106 => (if (q100.2 != 0) then (bnd ((if (q100.2 == 2) then false else false) : Bool) fun q133 => some (.ret q133)) else ((apd q79 [(FareCar.mk d106.1 d106.2.1 d106.2.2.1 d106.2.2.2.1 d106.2.2.2.2)]).bind fun x137 => FishtopTopSeated.loop1 x2 x3 rest72 x137))))
def FishtopTopSeated.loop3 (fu : Nat) : (List GuideRide) → (List Int) → (List FareCar) → Option ((List Int) × (List FareCar))
  | [], q195, q202 => some (q195, q202)
  | x187 :: rest188, q195, q202 => ((gx q202 x187.Train).bind fun x217 => ((FareCarBook_v1 fu x187.On x187.Off 1 x217).bind fun q248 => (if (q248.2.1 != 0) then some (q195, (List.set q202 ((x187.Train).toNat) (FareCar.mk x217.rows x217.across x217.stops q248.2.2.1 q248.2.2.2))) else ((apd q195 [q248.1.No]).bind fun x274 => FishtopTopSeated.loop3 fu rest188 x274 (List.set q202 ((x187.Train).toNat) (FareCar.mk x217.rows x217.across x217.stops q248.2.2.1 q248.2.2.2))))))
def FishtopTopSeated.loop4 (x148 : GuideJourney) (q195 : List Int) : Nat → Nat → (List FareCar) → Option (Out Bool (List FareCar))
  | 0, _, q307 => some (.next q307)
  | rest299 + 1, k297, q307 => ((gx q195 ((k297 : Nat) : Int)).bind fun x316 => ((gx x148.Rides ((k297 : Nat) : Int)).bind fun x326 => ((gx q307 x326.Train).bind fun x335 => ((FareCarCancel_v1 x316 x335).bind fun q366 => (if (q366.1 != 0) then some (.ret false) else FishtopTopSeated.loop4 x148 q195 rest299 (k297 + 1) (List.set q307 ((x326.Train).toNat) (FareCar.mk x335.rows x335.across x335.stops x335.bookings q366.2)))))))
def FishtopTopSeated.loop2 (x0 : ApiDay) (x4 : List Int) (fu : Nat) : (List GuideJourney) → Nat → (List GuideJourney) → (List FareCar) → Option (Out Bool ((List GuideJourney) × (List FareCar)))
  | [], _, q156, q163 => some (.next (q156, q163))
  | x148 :: rest149, k147, q156, q163 => ((Fishref2JourneyFault x0 x148 0 false).bind fun q180 => (if (q180 != 0) then FishtopTopSeated.loop2 x0 x4 fu rest149 (k147 + 1) q156 q163 else ((FishtopTopSeated.loop3 fu x148.Rides [] q163).bind fun q185 => match q185 with | (q195, q202) => (bnd ((if (((q195.length : Nat) : Int) == ((x148.Rides).length : Int)) then !(SlicesContainsLint x4 ((k147 : Nat) : Int)) else false) : Bool) fun q284 => (if q284 then ((apd q156 [x148]).bind fun x289 => FishtopTopSeated.loop2 x0 x4 fu rest149 (k147 + 1) x289 q202) else ((FishtopTopSeated.loop4 x148 q195 q195.length 0 q202).bind fun q296 => match q296 with | .ret r => some (.ret r) | .next q307 => FishtopTopSeated.loop2 x0 x4 fu rest149 (k147 + 1) q156 q307))))))
def FishtopTopSeated.loop7 (k459 : Nat) (q490 : (List FareBooking)) : Nat → Nat → (List Int) → Option (List Int)
  | 0, _, q512 => some q512
  | rest504 + 1, k502, q512 => ((gx q490 ((k502 : Nat) : Int)).bind fun x520 => (bnd ((if decide (x520.From ≤ ((k459 : Nat) : Int)) then decide (((k459 : Nat) : Int) < x520.To) else false) : Bool) fun q538 => (((if q538 then ((apd q512 x520.Seats).bind fun x554 => some x554) else some q512) : Option (List Int)).bind fun q545 => FishtopTopSeated.loop7 k459 q490 rest504 (k502 + 1) q545)))
def FishtopTopSeated.loop6 (x2 : Int) (x3 : Int) (fu : Nat) (q375 : (List (List Int)) × Int) (k392 : Nat) (x403 : FareCar) : (List (List Int)) → Nat → Option (Out Bool Unit)
  | [], _ => some (.next ())
  | _ :: rest461, k459 => ((FareCarBookings_v1 x403).bind fun q490 => ((FishtopTopSeated.loop7 k459 q490 q490.length 0 []).bind fun q512 => ((FareCarFree_v1 fu ((k459 : Nat) : Int) ((k459 + 1 : Nat) : Int) x403).bind fun q580 => ((srt q512).bind fun q591 => (((if (q580.2 != 0) then some true else ((SlicesCloneLint q591).bind fun q601 => (bnd (Lib.compact q601) fun q616 => (if (((q616.length : Nat) : Int) != ((q512.length : Nat) : Int)) then some true else ((gx q375.1 ((k392 : Nat) : Int)).bind fun x621 => ((gx x621 ((k459 : Nat) : Int)).bind fun x633 => (if (((q512.length : Nat) : Int) != x633) then some true else some ((w64 (((q512.length : Nat) : Int) + ((q580.1.length : Nat) : Int))) != (w64 (x2 * x3)))))))))) : Option Bool).bind fun q598 => (if q598 then some (.ret false) else FishtopTopSeated.loop6 x2 x3 fu q375 k392 x403 rest461 (k459 + 1)))))))
def FishtopTopSeated.loop5 (x0 : ApiDay) (x2 : Int) (x3 : Int) (fu : Nat) (q163 : List FareCar) (q375 : (List (List Int)) × Int) : Nat → Nat → Option (Out Bool Unit)
  | 0, _ => some (.next ())
  | rest394 + 1, k392 => ((gx q163 ((k392 : Nat) : Int)).bind fun x403 => ((gx q375.1 ((k392 : Nat) : Int)).bind fun x414 => ((gx x0.Trains ((k392 : Nat) : Int)).bind fun x426 => (if (((x414).length : Int) != ((x426.Legs).length : Int)) then some (.ret false) else ((gx x0.Trains ((k392 : Nat) : Int)).bind fun x442 => ((FishtopTopSeated.loop6 x2 x3 fu q375 k392 x403 x442.Legs 0).bind fun q458 => match q458 with | .ret r => some (.ret r) | .next () => FishtopTopSeated.loop5 x0 x2 x3 fu q163 q375 rest394 (k392 + 1)))))))
def FishtopTopSeated (fu : Nat) (x0 : ApiDay) (x1 : List GuideJourney) (x2 : Int) (x3 : Int) (x4 : List Int) : Option Bool := ((FishtopawakeGuide).bind fun q52 => (if !q52 then some false else ((((Fishref2GuideFault x0).bind fun q61 => (if (q61 != 0) then some true else some (decide (((x1).length : Int) > 100)))) : Option Bool).bind fun q59 => (if q59 then some true else ((FishtopTopSeated.loop1 x2 x3 x0.Trains []).bind fun q69 => match q69 with | .ret r => some r | .next q79 => ((FishtopTopSeated.loop2 x0 x4 fu x1 0 [] q79).bind fun q146 => match q146 with | .ret r => some r | .next (q156, q163) => ((GuideCrowd_v1 fu x0 q156).bind fun q375 => (bnd ((if (q375.2 != 0) then true else (((q375.1).length : Int) != ((q79.length : Nat) : Int))) : Bool) fun q386 => (if q386 then some false else ((FishtopTopSeated.loop5 x0 x2 x3 fu q163 q375 q79.length 0).bind fun q391 => match q391 with | .ret r => some r | .next () => some true))))))))))
end Go.Fp
