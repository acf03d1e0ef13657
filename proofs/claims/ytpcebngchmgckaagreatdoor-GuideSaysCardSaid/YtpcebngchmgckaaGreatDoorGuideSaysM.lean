/- The mirrors of the functions that GuideSays reaches: plain Lean functions on data. No condition. -/
import Derived.Test.YtpcebngchmgckaaGreatDoorFpAllT
import Derived.Test.YtpcebngchmgckaaGreatDoorFpInD
import Derived.Test.YtpcebngchmgckaaGreatDoorFpMapG
import Derived.Test.YtpcebngchmgckaaGreatDoorFpMaps
import Derived.Test.YtpcebngchmgckaaGreatDoorFpOrc
import Derived.Test.YtpcebngchmgckaaGreatDoorFpBytes
namespace Go.Fp
structure ApiStop where
  Station : Int
  Track : Int
  Arr : Int
  Dep : Int
  deriving DecidableEq, Inhabited
-- ApiStop is of one size
def InApiStop (x : ApiStop) : Prop := inI x.Station ∧ inI x.Track ∧ inI x.Arr ∧ inI x.Dep
def ApiStop.cells (x : ApiStop) : List Go.Value := [.int .i64 x.Station, .int .i64 x.Track, .int .i64 x.Arr, .int .i64 x.Dep]
def RApiStop : Rd ApiStop := fun _ cs x => cs = x.cells
theorem RApiStop.mono : Rmono RApiStop := fun _ _ _ _ _ h => h
theorem RApiStop.one : Rone RApiStop := by intro s cs x h; subst h; rfl

structure ApiTrain where
  No : Int
  Stock : Int
  Stops : List ApiStop
  Legs : List (List Int)
  deriving DecidableEq, Inhabited
def szApiTrain (x : ApiTrain) : Nat := (szL sz1) x.Stops + (szL (szL sz1)) x.Legs + 1
def InApiTrain (x : ApiTrain) : Prop := inI x.No ∧ inI x.Stock ∧ (inL InApiStop) x.Stops ∧ (inL (inL inI)) x.Legs
def RApiTrain : Rd ApiTrain := fun s cs x => ∃ a0 c0 a1 c1, cs = [.int .i64 x.No, .int .i64 x.Stock, .slice a0 x.Stops.length c0, .slice a1 x.Legs.length c1] ∧ Sl 4 RApiStop s a0 c0 x.Stops ∧ Sl 1 (RL 1 (RI .i64)) s a1 c1 x.Legs
theorem RApiTrain.one : Rone RApiTrain := by rintro s cs x ⟨a0, c0, a1, c1, rfl, _⟩; rfl
theorem RApiTrain.mono : Rmono RApiTrain := fun _ _ h _ _ ⟨a0, c0, a1, c1, e, h0, h1⟩ => ⟨a0, c0, a1, c1, e, h0.mono RApiStop.mono h, h1.mono (RL.mono RI.mono) h⟩

structure ApiDay where
  Trains : List ApiTrain
  Turns : List (List Int)
  deriving DecidableEq, Inhabited
def szApiDay (x : ApiDay) : Nat := (szL szApiTrain) x.Trains + (szL (szL sz1)) x.Turns + 1
def InApiDay (x : ApiDay) : Prop := (inL InApiTrain) x.Trains ∧ (inL (inL inI)) x.Turns
def RApiDay : Rd ApiDay := fun s cs x => ∃ a0 c0 a1 c1, cs = [.slice a0 x.Trains.length c0, .slice a1 x.Turns.length c1] ∧ Sl 4 RApiTrain s a0 c0 x.Trains ∧ Sl 1 (RL 1 (RI .i64)) s a1 c1 x.Turns
theorem RApiDay.one : Rone RApiDay := by rintro s cs x ⟨a0, c0, a1, c1, rfl, _⟩; rfl
theorem RApiDay.mono : Rmono RApiDay := fun _ _ h _ _ ⟨a0, c0, a1, c1, e, h0, h1⟩ => ⟨a0, c0, a1, c1, e, h0.mono RApiTrain.mono h, h1.mono (RL.mono RI.mono) h⟩

structure ApiGate where
  Section : Int
  Close : Int
  deriving DecidableEq, Inhabited
-- ApiGate is of one size
def InApiGate (x : ApiGate) : Prop := inI x.Section ∧ inI x.Close
def ApiGate.cells (x : ApiGate) : List Go.Value := [.int .i64 x.Section, .int .i64 x.Close]
def RApiGate : Rd ApiGate := fun _ cs x => cs = x.cells
theorem RApiGate.mono : Rmono RApiGate := fun _ _ _ _ _ h => h
theorem RApiGate.one : Rone RApiGate := by intro s cs x h; subst h; rfl

structure ApiLink where
  A : Int
  EndA : Int
  B : Int
  EndB : Int
  deriving DecidableEq, Inhabited
-- ApiLink is of one size
def InApiLink (x : ApiLink) : Prop := inI x.A ∧ inI x.EndA ∧ inI x.B ∧ inI x.EndB
def ApiLink.cells (x : ApiLink) : List Go.Value := [.int .i64 x.A, .int .i64 x.EndA, .int .i64 x.B, .int .i64 x.EndB]
def RApiLink : Rd ApiLink := fun _ cs x => cs = x.cells
theorem RApiLink.mono : Rmono RApiLink := fun _ _ _ _ _ h => h
theorem RApiLink.one : Rone RApiLink := by intro s cs x h; subst h; rfl

structure ApiSection where
  Kind : Int
  Length : Int
  Grade : Int
  Speed : Int
  Slow : Int
  Station : Int
  Axles : Bool
  deriving DecidableEq, Inhabited
-- ApiSection is of one size
def InApiSection (x : ApiSection) : Prop := inI x.Kind ∧ inI x.Length ∧ inI x.Grade ∧ inI x.Speed ∧ inI x.Slow ∧ inI x.Station ∧ inA x.Axles
def ApiSection.cells (x : ApiSection) : List Go.Value := [.int .i64 x.Kind, .int .i64 x.Length, .int .i64 x.Grade, .int .i64 x.Speed, .int .i64 x.Slow, .int .i64 x.Station, .bool x.Axles]
def RApiSection : Rd ApiSection := fun _ cs x => cs = x.cells
theorem RApiSection.mono : Rmono RApiSection := fun _ _ _ _ _ h => h
theorem RApiSection.one : Rone RApiSection := by intro s cs x h; subst h; rfl

structure ApiSignal where
  Section : Int
  End : Int
  deriving DecidableEq, Inhabited
-- ApiSignal is of one size
def InApiSignal (x : ApiSignal) : Prop := inI x.Section ∧ inI x.End
def ApiSignal.cells (x : ApiSignal) : List Go.Value := [.int .i64 x.Section, .int .i64 x.End]
def RApiSignal : Rd ApiSignal := fun _ cs x => cs = x.cells
theorem RApiSignal.mono : Rmono RApiSignal := fun _ _ _ _ _ h => h
theorem RApiSignal.one : Rone RApiSignal := by intro s cs x h; subst h; rfl

structure ApiNet where
  Stations : List ByteArray
  Sections : List ApiSection
  Links : List ApiLink
  Signals : List ApiSignal
  Gates : List ApiGate
  deriving DecidableEq, Inhabited
def szApiNet (x : ApiNet) : Nat := (szL szS) x.Stations + (szL sz1) x.Sections + (szL sz1) x.Links + (szL sz1) x.Signals + (szL sz1) x.Gates + 1
def InApiNet (x : ApiNet) : Prop := (inL inS) x.Stations ∧ (inL InApiSection) x.Sections ∧ (inL InApiLink) x.Links ∧ (inL InApiSignal) x.Signals ∧ (inL InApiGate) x.Gates
def RApiNet : Rd ApiNet := fun s cs x => ∃ a0 c0 a1 c1 a2 c2 a3 c3 a4 c4, cs = [.slice a0 x.Stations.length c0, .slice a1 x.Sections.length c1, .slice a2 x.Links.length c2, .slice a3 x.Signals.length c3, .slice a4 x.Gates.length c4] ∧ Sl 1 RS s a0 c0 x.Stations ∧ Sl 7 RApiSection s a1 c1 x.Sections ∧ Sl 4 RApiLink s a2 c2 x.Links ∧ Sl 2 RApiSignal s a3 c3 x.Signals ∧ Sl 2 RApiGate s a4 c4 x.Gates
theorem RApiNet.one : Rone RApiNet := by rintro s cs x ⟨a0, c0, a1, c1, a2, c2, a3, c3, a4, c4, rfl, _⟩; rfl
theorem RApiNet.mono : Rmono RApiNet := fun _ _ h _ _ ⟨a0, c0, a1, c1, a2, c2, a3, c3, a4, c4, e, h0, h1, h2, h3, h4⟩ => ⟨a0, c0, a1, c1, a2, c2, a3, c3, a4, c4, e, h0.mono RS.mono h, h1.mono RApiSection.mono h, h2.mono RApiLink.mono h, h3.mono RApiSignal.mono h, h4.mono RApiGate.mono h⟩

structure Ar2i64 where
  f0 : Int
  f1 : Int
  deriving DecidableEq, Inhabited
-- Ar2i64 is of one size
def Ar2i64.cells (x : Ar2i64) : List Go.Value := [.int .i64 x.f0, .int .i64 x.f1]
def RAr2i64 : Rd Ar2i64 := fun _ cs x => cs = x.cells
theorem RAr2i64.mono : Rmono RAr2i64 := fun _ _ _ _ _ h => h
theorem RAr2i64.one : Rone RAr2i64 := by intro s cs x h; subst h; rfl

structure Ar3i64 where
  f0 : Int
  f1 : Int
  f2 : Int
  deriving DecidableEq, Inhabited
-- Ar3i64 is of one size
def Ar3i64.cells (x : Ar3i64) : List Go.Value := [.int .i64 x.f0, .int .i64 x.f1, .int .i64 x.f2]
def RAr3i64 : Rd Ar3i64 := fun _ cs x => cs = x.cells
theorem RAr3i64.mono : Rmono RAr3i64 := fun _ _ _ _ _ h => h
theorem RAr3i64.one : Rone RAr3i64 := by intro s cs x h; subst h; rfl

structure GuideRide where
  Train : Int
  On : Int
  Off : Int
  deriving DecidableEq, Inhabited
-- GuideRide is of one size
def InGuideRide (x : GuideRide) : Prop := inI x.Train ∧ inI x.On ∧ inI x.Off
def GuideRide.cells (x : GuideRide) : List Go.Value := [.int .i64 x.Train, .int .i64 x.On, .int .i64 x.Off]
def RGuideRide : Rd GuideRide := fun _ cs x => cs = x.cells
theorem RGuideRide.mono : Rmono RGuideRide := fun _ _ _ _ _ h => h
theorem RGuideRide.one : Rone RGuideRide := by intro s cs x h; subst h; rfl

structure GuideJourney where
  Rides : List GuideRide
  deriving DecidableEq, Inhabited
def szGuideJourney (x : GuideJourney) : Nat := (szL sz1) x.Rides + 1
def InGuideJourney (x : GuideJourney) : Prop := (inL InGuideRide) x.Rides
def RGuideJourney : Rd GuideJourney := fun s cs x => ∃ a0 c0, cs = [.slice a0 x.Rides.length c0] ∧ Sl 3 RGuideRide s a0 c0 x.Rides
theorem RGuideJourney.one : Rone RGuideJourney := by rintro s cs x ⟨a0, c0, rfl, _⟩; rfl
theorem RGuideJourney.mono : Rmono RGuideJourney := fun _ _ h _ _ ⟨a0, c0, e, h0⟩ => ⟨a0, c0, e, h0.mono RGuideRide.mono h⟩

structure GuideLine where
  Time : Int
  Late : Int
  No : Int
  To : Int
  Track : Int
  Ends : Bool
  deriving DecidableEq, Inhabited
-- GuideLine is of one size
def InGuideLine (x : GuideLine) : Prop := inI x.Time ∧ inI x.Late ∧ inI x.No ∧ inI x.To ∧ inI x.Track ∧ inA x.Ends
def GuideLine.cells (x : GuideLine) : List Go.Value := [.int .i64 x.Time, .int .i64 x.Late, .int .i64 x.No, .int .i64 x.To, .int .i64 x.Track, .bool x.Ends]
def RGuideLine : Rd GuideLine := fun _ cs x => cs = x.cells
theorem RGuideLine.mono : Rmono RGuideLine := fun _ _ _ _ _ h => h
theorem RGuideLine.one : Rone RGuideLine := by intro s cs x h; subst h; rfl

structure GuideMessage where
  At : Int
  Promise : Int
  Ride : Int
  Kind : Int
  Value : Int
  deriving DecidableEq, Inhabited
-- GuideMessage is of one size
def InGuideMessage (x : GuideMessage) : Prop := inI x.At ∧ inI x.Promise ∧ inI x.Ride ∧ inI x.Kind ∧ inI x.Value
def GuideMessage.cells (x : GuideMessage) : List Go.Value := [.int .i64 x.At, .int .i64 x.Promise, .int .i64 x.Ride, .int .i64 x.Kind, .int .i64 x.Value]
def RGuideMessage : Rd GuideMessage := fun _ cs x => cs = x.cells
theorem RGuideMessage.mono : Rmono RGuideMessage := fun _ _ _ _ _ h => h
theorem RGuideMessage.one : Rone RGuideMessage := by intro s cs x h; subst h; rfl

structure GuideNet where
  Day : ApiDay
  least : Int
  deriving DecidableEq, Inhabited
def szGuideNet (x : GuideNet) : Nat := szApiDay x.Day + 1
def InGuideNet (x : GuideNet) : Prop := InApiDay x.Day ∧ inI x.least
def RGuideNet : Rd GuideNet := fun s cs x => ∃ a0 c0 a1 c1, cs = [.slice a0 x.Day.Trains.length c0, .slice a1 x.Day.Turns.length c1, .int .i64 x.least] ∧ Sl 4 RApiTrain s a0 c0 x.Day.Trains ∧ Sl 1 (RL 1 (RI .i64)) s a1 c1 x.Day.Turns
theorem RGuideNet.one : Rone RGuideNet := by rintro s cs x ⟨a0, c0, a1, c1, rfl, _⟩; rfl
theorem RGuideNet.mono : Rmono RGuideNet := fun _ _ h _ _ ⟨a0, c0, a1, c1, e, h0, h1⟩ => ⟨a0, c0, a1, c1, e, h0.mono RApiTrain.mono h, h1.mono (RL.mono RI.mono) h⟩

structure GuidePlace where
  train : Int
  off : Int
  deriving DecidableEq, Inhabited
-- GuidePlace is of one size
def InGuidePlace (x : GuidePlace) : Prop := inI x.train ∧ inI x.off
def GuidePlace.cells (x : GuidePlace) : List Go.Value := [.int .i64 x.train, .int .i64 x.off]
def RGuidePlace : Rd GuidePlace := fun _ cs x => cs = x.cells
theorem RGuidePlace.mono : Rmono RGuidePlace := fun _ _ _ _ _ h => h
theorem RGuidePlace.one : Rone RGuidePlace := by intro s cs x h; subst h; rfl

structure GuidePoint where
  Dep : Int
  Arr : Int
  Rides : Int
  deriving DecidableEq, Inhabited
-- GuidePoint is of one size
def InGuidePoint (x : GuidePoint) : Prop := inI x.Dep ∧ inI x.Arr ∧ inI x.Rides
def GuidePoint.cells (x : GuidePoint) : List Go.Value := [.int .i64 x.Dep, .int .i64 x.Arr, .int .i64 x.Rides]
def RGuidePoint : Rd GuidePoint := fun _ cs x => cs = x.cells
theorem RGuidePoint.mono : Rmono RGuidePoint := fun _ _ _ _ _ h => h
theorem RGuidePoint.one : Rone RGuidePoint := by intro s cs x h; subst h; rfl

structure GuidePromise where
  From : Int
  To : Int
  Dep : Int
  Arr : Int
  State : Int
  Journey : GuideJourney
  deriving DecidableEq, Inhabited
def szGuidePromise (x : GuidePromise) : Nat := szGuideJourney x.Journey + 1
def InGuidePromise (x : GuidePromise) : Prop := inI x.From ∧ inI x.To ∧ inI x.Dep ∧ inI x.Arr ∧ inI x.State ∧ InGuideJourney x.Journey
def RGuidePromise : Rd GuidePromise := fun s cs x => ∃ a0 c0, cs = [.int .i64 x.From, .int .i64 x.To, .int .i64 x.Dep, .int .i64 x.Arr, .int .i64 x.State, .slice a0 x.Journey.Rides.length c0] ∧ Sl 3 RGuideRide s a0 c0 x.Journey.Rides
theorem RGuidePromise.one : Rone RGuidePromise := by rintro s cs x ⟨a0, c0, rfl, _⟩; rfl
theorem RGuidePromise.mono : Rmono RGuidePromise := fun _ _ h _ _ ⟨a0, c0, e, h0⟩ => ⟨a0, c0, e, h0.mono RGuideRide.mono h⟩

structure LineEnd where
  section_ : Int
  end_ : Int
  deriving DecidableEq, Inhabited
-- LineEnd is of one size
def InLineEnd (x : LineEnd) : Prop := inI x.section_ ∧ inI x.end_
def LineEnd.cells (x : LineEnd) : List Go.Value := [.int .i64 x.section_, .int .i64 x.end_]
def RLineEnd : Rd LineEnd := fun _ cs x => cs = x.cells
theorem RLineEnd.mono : Rmono RLineEnd := fun _ _ _ _ _ h => h
theorem RLineEnd.one : Rone RLineEnd := by intro s cs x h; subst h; rfl
def Linename.loop1 : (List Int) → Out Bool Unit
  | [] => (.next ())
  | x60 :: rest61 => (bnd ((if decide (x60 < 97) then true else decide (x60 > 122)) : Bool) fun q77 => (if q77 then (.ret false) else Linename.loop1 rest61))
def Linename (x0 : ByteArray) : Option Bool := ((szok x0).bind fun _ => (bnd (Linename.loop1 (sby x0)) fun q58 => match q58 with | .ret r => some r | .next () => (bnd ((if decide (((x0.size : Nat) : Int) ≥ 1) then decide (((x0.size : Nat) : Int) ≤ 12) else false) : Bool) fun q85 => some q85)))
def SlicesIndexLstring.loop1 (x1 : ByteArray) : (List ByteArray) → Nat → Out Int Unit
  | [], _ => (.next ())
  | x54 :: rest55, k53 => (if (seq x1 x54) then (.ret ((k53 : Nat) : Int)) else SlicesIndexLstring.loop1 x1 rest55 (k53 + 1))
def SlicesIndexLstring (x0 : List ByteArray) (x1 : ByteArray) : Int := (bnd (SlicesIndexLstring.loop1 x1 x0 0) fun q52 => match q52 with | .ret r => r | .next () => (-1))
def SlicesContainsLstring (x0 : List ByteArray) (x1 : ByteArray) : Bool := decide ((SlicesIndexLstring x0 x1) ≥ 0)
def Lineends (x0 : Int) : Int := (if (x0 == 1) then 2 else (if (x0 == 2) then 3 else (if (x0 == 3) then 4 else 0)))
def Linewithin (x0 : Int) (x1 : Int) (x2 : Int) : Bool := (bnd ((if decide (x0 ≥ x1) then decide (x0 ≤ x2) else false) : Bool) fun q55 => q55)
def LinecheckSection (x0 : ApiSection) (x1 : Int) : Int := (if ((Lineends x0.Kind) == 0) then 1 else (bnd ((if !(Linewithin x0.Length 10 3000) then true else (if !(Linewithin x0.Grade (-40) 40) then true else !(Linewithin x0.Speed 300 6000))) : Bool) fun q57 => (if q57 then 2 else (bnd ((if (x0.Kind == 2) then (if !(Linewithin x0.Slow 300 x0.Speed) then true else (if (x0.Kind == 1) then !(Linewithin x0.Station 0 x1) else false)) else (if (x0.Kind == 1) then !(Linewithin x0.Station 0 x1) else false)) : Bool) fun q66 => (if q66 then 2 else (bnd ((if (x0.Slow != 0) then (if !(x0.Kind == 2) then true else (if (x0.Station != 0) then (if !(x0.Kind == 1) then true else (if (x0.Grade != 0) then (x0.Kind == 3) else false)) else (if (x0.Grade != 0) then (x0.Kind == 3) else false))) else (if (x0.Station != 0) then (if !(x0.Kind == 1) then true else (if (x0.Grade != 0) then (x0.Kind == 3) else false)) else (if (x0.Grade != 0) then (x0.Kind == 3) else false))) : Bool) fun q77 => (if q77 then 1 else 0)))))))
def Linehas (x0 : ApiNet) (x1 : LineEnd) : Option Bool := (((if (Linewithin x1.section_ 0 (w64 (((x0.Sections).length : Int) - 1))) then ((gx x0.Sections x1.section_).bind fun x60 => some (Linewithin x1.end_ 0 (w64 ((Lineends x60.Kind) - 1)))) else some false) : Option Bool).bind fun q57 => some q57)
def CmpisNaNint (x0 : Int) : Bool := (x0 != x0)
def CmpCompareint (x0 : Int) (x1 : Int) : Int := (if (CmpisNaNint x0) then (if (CmpisNaNint x1) then 0 else (-1)) else (if (CmpisNaNint x1) then 1 else (if decide (x0 < x1) then (-1) else (if decide (x0 > x1) then 1 else 0))))
def CmpOrint.loop1 : (List Int) → Out Int Unit
  | [] => (.next ())
  | x54 :: rest55 => (if (x54 != 0) then (.ret x54) else CmpOrint.loop1 rest55)
def CmpOrint (x0 : List Int) : Int := (bnd (CmpOrint.loop1 x0) fun q52 => match q52 with | .ret r => r | .next () => 0)
def LinecheckLinks.loop1 (x0 : ApiNet) : (List ApiLink) → Nat → (List (LineEnd × Bool)) → Option (Out Int (List (LineEnd × Bool)))
  | [], _, q64 => some (.next q64)
  | x56 :: rest57, k55, q64 => ((((Linehas x0 (LineEnd.mk x56.A x56.EndA)).bind fun q81 => (if !q81 then some true else ((Linehas x0 (LineEnd.mk x56.B x56.EndB)).bind fun q84 => some !q84))) : Option Bool).bind fun q79 => (if q79 then some (.ret 3) else (if (x56.A == x56.B) then some (.ret 1) else (if decide (x56.A > x56.B) then some (.ret 5) else (((if decide (((k55 : Nat) : Int) > 0) then ((gx x0.Links (w64 (((k55 : Nat) : Int) - 1))).bind fun x95 => (if decide ((CmpOrint [(CmpCompareint x95.A x56.A), (CmpCompareint x95.EndA x56.EndA)]) ≥ 0) then some (.ret 5) else some (.next ()))) else some (.next ())) : Option (Out Int Unit)).bind fun q90 => match q90 with | .ret r => some (.ret r) | .next () => (bnd ((if ((mget q64 (LineEnd.mk x56.A x56.EndA)).getD false) then true else ((mget q64 (LineEnd.mk x56.B x56.EndB)).getD false)) : Bool) fun q117 => (if q117 then some (.ret 6) else LinecheckLinks.loop1 x0 rest57 (k55 + 1) (mput (mput q64 (LineEnd.mk x56.A x56.EndA) true) (LineEnd.mk x56.B x56.EndB) true))))))))
def LinecheckLinks (x0 : ApiNet) : Option Int := ((LinecheckLinks.loop1 x0 x0.Links 0 []).bind fun q54 => match q54 with | .ret r => some r | .next _ => some 0)
def Linejoined.loop1 (x1 : LineEnd) : (List ApiLink) → Int → Int → Out (LineEnd × Bool) (Int × Int)
  | [], q65, q66 => (.next (q65, q66))
  | x57 :: rest58, q65, q66 => (bnd ((if (x57.A == x1.section_) then (x57.EndA == x1.end_) else false) : Bool) fun q77 => (if q77 then (.ret ((LineEnd.mk x57.B x57.EndB), true)) else (bnd ((if (x57.B == x1.section_) then (x57.EndB == x1.end_) else false) : Bool) fun q85 => (if q85 then (.ret ((LineEnd.mk x57.A x57.EndA), true)) else Linejoined.loop1 x1 rest58 q65 q66))))
def Linejoined (x0 : ApiNet) (x1 : LineEnd) : LineEnd × Bool := (bnd (Linejoined.loop1 x1 x0.Links 0 0) fun q55 => match q55 with | .ret r => r | .next (_, _) => ((LineEnd.mk 0 0), false))
def LinecheckSignals.loop1 (x0 : ApiNet) : (List ApiSignal) → Nat → Option (Out Int Unit)
  | [], _ => some (.next ())
  | x55 :: rest56, k54 => ((Linehas x0 (LineEnd.mk x55.Section x55.End)).bind fun q70 => (if !q70 then some (.ret 3) else (bnd (Linejoined x0 (LineEnd.mk x55.Section x55.End)) fun q73 => (((if !q73.2 then some true else ((gx x0.Sections x55.Section).bind fun x87 => some (x87.Kind != 1))) : Option Bool).bind fun q84 => (if q84 then some (.ret 1) else (((if decide (((k54 : Nat) : Int) > 0) then ((gx x0.Signals (w64 (((k54 : Nat) : Int) - 1))).bind fun x103 => (if decide ((CmpOrint [(CmpCompareint x103.Section x55.Section), (CmpCompareint x103.End x55.End)]) ≥ 0) then some (.ret 5) else some (.next ()))) else some (.next ())) : Option (Out Int Unit)).bind fun q98 => match q98 with | .ret r => some (.ret r) | .next () => LinecheckSignals.loop1 x0 rest56 (k54 + 1)))))))
def LinecheckSignals (x0 : ApiNet) : Option Int := ((LinecheckSignals.loop1 x0 x0.Signals 0).bind fun q53 => match q53 with | .ret r => some r | .next () => some 0)
def LinecheckGates.loop1 (x0 : ApiNet) : (List ApiGate) → Nat → Option (Out Int Unit)
  | [], _ => some (.next ())
  | x55 :: rest56, k54 => (if !(Linewithin x55.Section 0 (w64 (((x0.Sections).length : Int) - 1))) then some (.ret 3) else ((gx x0.Sections x55.Section).bind fun x70 => (if (x70.Kind != 1) then some (.ret 1) else (if !(Linewithin x55.Close 1 12) then some (.ret 2) else (((if decide (((k54 : Nat) : Int) > 0) then ((gx x0.Gates (w64 (((k54 : Nat) : Int) - 1))).bind fun x88 => some (decide (x55.Section ≤ x88.Section))) else some false) : Option Bool).bind fun q85 => (if q85 then some (.ret 5) else LinecheckGates.loop1 x0 rest56 (k54 + 1)))))))
def LinecheckGates (x0 : ApiNet) : Option Int := ((LinecheckGates.loop1 x0 x0.Gates 0).bind fun q53 => match q53 with | .ret r => some r | .next () => some 0)
def LineCheck.loop1 (x0 : ApiNet) : (List ByteArray) → Nat → Option (Out Int Unit)
  | [], _ => some (.next ())
  | x67 :: rest68, k66 => ((Linename x67).bind fun q80 => (if !q80 then some (.ret 1) else ((cutl x0.Stations 0 ((k66 : Nat) : Int)).bind fun x83 => (if (SlicesContainsLstring x83 x67) then some (.ret 6) else LineCheck.loop1 x0 rest68 (k66 + 1)))))
def LineCheck.loop2 (x0 : ApiNet) : (List ApiSection) → Out Int Unit
  | [] => (.next ())
  | x96 :: rest97 => (if ((LinecheckSection x96 ((x0.Stations).length : Int)) != 0) then (.ret (LinecheckSection x96 ((x0.Stations).length : Int))) else LineCheck.loop2 x0 rest97)
def LineCheck.loop3 (x0 : ApiNet) : Nat → Nat → Option (Out Int Unit)
  | 0, _ => some (.next ())
  | rest115 + 1, k113 => (if (k113 == 0) then ((LinecheckLinks x0).bind fun q124 => (if (q124 != 0) then some (.ret q124) else LineCheck.loop3 x0 rest115 (k113 + 1))) else (if (k113 == 1) then ((LinecheckSignals x0).bind fun q128 => (if (q128 != 0) then some (.ret q128) else LineCheck.loop3 x0 rest115 (k113 + 1))) else ((LinecheckGates x0).bind fun q132 => (if (q132 != 0) then some (.ret q132) else LineCheck.loop3 x0 rest115 (k113 + 1)))))
def LineCheck (x0 : ApiNet) : Option Int := (if (((x0.Sections).length : Int) == 0) then some 1 else (bnd ((if decide (((x0.Stations).length : Int) > 12) then true else (if decide (((x0.Sections).length : Int) > 60) then true else (if decide (((x0.Links).length : Int) > 90) then true else (if decide (((x0.Signals).length : Int) > 40) then true else decide (((x0.Gates).length : Int) > 8))))) : Bool) fun q57 => (if q57 then some 4 else ((LineCheck.loop1 x0 x0.Stations 0).bind fun q65 => match q65 with | .ret r => some r | .next () => (bnd (LineCheck.loop2 x0 x0.Sections) fun q94 => match q94 with | .ret r => some r | .next () => ((LineCheck.loop3 x0 3 0).bind fun q112 => match q112 with | .ret r => some r | .next () => some 0))))))
def Guidewithin (x0 : Int) (x1 : Int) (x2 : Int) : Bool := (bnd ((if decide (x0 ≥ x1) then decide (x0 ≤ x2) else false) : Bool) fun q55 => q55)
def Guidetwo (x0 : Int) : Option ByteArray := ((itoa x0).bind fun q51 => (if decide (x0 < 10) then ((scat (str [48]) q51).bind fun x54 => some x54) else some q51))
def Guideclock (x0 : Int) : Option ByteArray := ((Guidetwo (w64 (Int.tdiv x0 3600))).bind fun q51 => ((scat q51 (str [58])).bind fun x53 => ((Guidetwo (Int.tmod (w64 (Int.tdiv x0 60)) 60)).bind fun q55 => ((scat x53 q55).bind fun x57 => some x57))))
def GuideBoardText.loop1 (x0 : ApiNet) : (List GuideLine) → ByteArray → Option (Out (ByteArray × Int) ByteArray)
  | [], q68 => some (.next q68)
  | x60 :: rest61, q68 => (bnd ((if !(Guidewithin x60.Time 0 28800) then true else (if !(Guidewithin x60.Late 0 28800) then true else !(Guidewithin x60.No 1 9999))) : Bool) fun q79 => (if q79 then some (.ret ((str []), 2)) else (if !(Guidewithin x60.To 0 (w64 (((x0.Stations).length : Int) - 1))) then some (.ret ((str []), 3)) else (bnd ((if !x60.Ends then !(Guidewithin x60.Track 0 59) else false) : Bool) fun q89 => (if q89 then some (.ret ((str []), 2)) else ((gx x0.Stations x60.To).bind fun x94 => ((Guideclock x60.Time).bind fun q103 => ((scat q103 (str [32])).bind fun x105 => ((itoa x60.No).bind fun q107 => ((scat x105 q107).bind fun x109 => ((scat x109 (str [32])).bind fun x111 => ((scat x111 x94).bind fun x113 => ((scat x113 (str [32])).bind fun x115 => ((sbw q68 x115).bind fun q117 => (if x60.Ends then ((sbw q117 (str [99, 97, 110, 99, 101, 108, 108, 101, 100])).bind fun q120 => ((sbw q120 (str [10])).bind fun q122 => GuideBoardText.loop1 x0 rest61 q122)) else ((itoa x60.Track).bind fun q124 => ((scat (str [116, 114, 97, 99, 107, 32]) q124).bind fun x126 => ((sbw q117 x126).bind fun q128 => (if decide (x60.Late ≥ 60) then ((itoa (w64 (Int.tdiv x60.Late 60))).bind fun q131 => ((scat (str [32]) q131).bind fun x133 => ((scat x133 (str [32, 109, 105, 110, 117, 116, 101, 115, 32, 108, 97, 116, 101])).bind fun x135 => ((sbw q128 x135).bind fun q137 => ((sbw q137 (str [10])).bind fun q139 => GuideBoardText.loop1 x0 rest61 q139))))) else ((sbw q128 (str [10])).bind fun q141 => GuideBoardText.loop1 x0 rest61 q141))))))))))))))))))))
def GuideBoardText (x0 : ApiNet) (x1 : List GuideLine) : Option (ByteArray × Int) := ((LineCheck x0).bind fun q52 => (if (q52 != 0) then some ((str []), q52) else (if decide (((x1).length : Int) > 40) then some ((str []), 4) else ((GuideBoardText.loop1 x0 x1 ByteArray.empty).bind fun q58 => match q58 with | .ret r => some r | .next q68 => some (q68, 0)))))
def Planform.loop2 : (List (List Int)) → Out Int Unit
  | [] => (.next ())
  | x94 :: rest95 => (if (((x94).length : Int) == 0) then (.ret 1) else Planform.loop2 rest95)
def Planform.loop3 : (List (List Int)) → Out Int Unit
  | [] => (.next ())
  | x115 :: rest116 => (if decide (((x115).length : Int) > 4) then (.ret 4) else Planform.loop3 rest116)
def Planform.loop1 : (List ApiTrain) → Out Int Unit
  | [] => (.next ())
  | x63 :: rest64 => (bnd ((if (((x63.Stops).length : Int) == 0) then true else (((x63.Legs).length : Int) != (w64 (((x63.Stops).length : Int) - 1)))) : Bool) fun q87 => (if q87 then (.ret 1) else (bnd (Planform.loop2 x63.Legs) fun q92 => match q92 with | .ret r => (.ret r) | .next () => (if decide (((x63.Stops).length : Int) > 8) then (.ret 4) else (bnd (Planform.loop3 x63.Legs) fun q113 => match q113 with | .ret r => (.ret r) | .next () => Planform.loop1 rest64)))))
def Planform.loop4 : (List (List Int)) → Out Int Unit
  | [] => (.next ())
  | x135 :: rest136 => (if (((x135).length : Int) == 0) then (.ret 1) else (if decide (((x135).length : Int) > 12) then (.ret 4) else Planform.loop4 rest136))
def Planform (x0 : ApiDay) : Int := (bnd ((if decide (((x0.Trains).length : Int) > 12) then true else decide (((x0.Turns).length : Int) > 8)) : Bool) fun q56 => (if q56 then 4 else (bnd (Planform.loop1 x0.Trains) fun q61 => match q61 with | .ret r => r | .next () => (bnd (Planform.loop4 x0.Turns) fun q133 => match q133 with | .ret r => r | .next () => 0))))
def Planwithin (x0 : Int) (x1 : Int) (x2 : Int) : Bool := (bnd ((if decide (x0 ≥ x1) then decide (x0 ≤ x2) else false) : Bool) fun q55 => q55)
def Plansentence.loop1 : (List Int) → ByteArray → Option ByteArray
  | [], q62 => some q62
  | x54 :: rest55, q62 => ((itoa x54).bind fun q68 => ((scat (str [32]) q68).bind fun x70 => ((scat q62 x70).bind fun x72 => Plansentence.loop1 rest55 x72)))
def Plansentence (x0 : ByteArray) (x1 : List Int) : Option ByteArray := ((Plansentence.loop1 x1 x0).bind fun q62 => ((scat q62 (str [10])).bind fun x74 => some x74))
def PlanText_1_v1.loop1 : (List Int) → Bool → Bool
  | [], q64 => q64
  | x56 :: rest57, q64 => (bnd ((if q64 then (Planwithin x56 0 999999) else false) : Bool) fun q74 => PlanText_1_v1.loop1 rest57 q74)
def PlanText_1_v1 (x0 : ByteArray) (x1 : List Int) (y0 : Bool) (y1_0 : ByteArray) : Option (Bool × ByteArray) := (bnd (PlanText_1_v1.loop1 x1 y0) fun q64 => ((Plansentence x0 x1).bind fun q77 => ((sbw y1_0 q77).bind fun q79 => some (q64, q79))))
def PlanText.loop2 : (List ApiStop) → ByteArray → Bool → Option (ByteArray × Bool)
  | [], q99, q100 => some (q99, q100)
  | x91 :: rest92, q99, q100 => ((PlanText_1_v1 (str [115, 116, 111, 112]) [x91.Station, x91.Track, x91.Arr, x91.Dep] q100 q99).bind fun q113 => PlanText.loop2 rest92 q113.2 q113.1)
def PlanText.loop3 : (List (List Int)) → ByteArray → Bool → Option (ByteArray × Bool)
  | [], q126, q127 => some (q126, q127)
  | x118 :: rest119, q126, q127 => ((PlanText_1_v1 (str [108, 101, 103]) x118 q127 q126).bind fun q136 => PlanText.loop3 rest119 q136.2 q136.1)
def PlanText.loop1 : (List ApiTrain) → ByteArray → Bool → Option (ByteArray × Bool)
  | [], q66, q67 => some (q66, q67)
  | x58 :: rest59, q66, q67 => ((PlanText_1_v1 (str [116, 114, 97, 105, 110]) [x58.No, x58.Stock] q67 q66).bind fun q86 => ((PlanText.loop2 x58.Stops q86.2 q86.1).bind fun q89 => match q89 with | (q99, q100) => ((PlanText.loop3 x58.Legs q99 q100).bind fun q116 => match q116 with | (q126, q127) => PlanText.loop1 rest59 q126 q127)))
def PlanText.loop4 : (List (List Int)) → ByteArray → Bool → Option (ByteArray × Bool)
  | [], q149, q150 => some (q149, q150)
  | x141 :: rest142, q149, q150 => ((PlanText_1_v1 (str [116, 117, 114, 110]) x141 q150 q149).bind fun q159 => PlanText.loop4 rest142 q159.2 q159.1)
def PlanText (x0 : ApiDay) : Option (ByteArray × Int) := (if ((Planform x0) != 0) then some ((str []), (Planform x0)) else ((PlanText.loop1 x0.Trains ByteArray.empty true).bind fun q56 => match q56 with | (q66, q67) => ((PlanText.loop4 x0.Turns q66 q67).bind fun q139 => match q139 with | (q149, q150) => (if !q150 then some ((str []), 2) else some (q149, 0)))))
def GuideCheck.loop2 (x59 : ApiTrain) : (List ApiStop) → Nat → Option (Out Int Unit)
  | [], _ => some (.next ())
  | x86 :: rest87, k85 => (bnd ((if !(Guidewithin x86.Station 0 11) then true else (if !(Guidewithin x86.Arr 0 28800) then true else !(Guidewithin x86.Dep 0 28800))) : Bool) fun q104 => (if q104 then some (.ret 2) else (((if decide (x86.Dep < x86.Arr) then some true else (if decide (((k85 : Nat) : Int) > 0) then ((gx x59.Stops (w64 (((k85 : Nat) : Int) - 1))).bind fun x117 => some (decide (x86.Arr ≤ x117.Dep))) else some false)) : Option Bool).bind fun q113 => (if q113 then some (.ret 5) else GuideCheck.loop2 x59 rest87 (k85 + 1)))))
def GuideCheck.loop1 : (List ApiTrain) → (List (Int × Bool)) → Option (Out Int (List (Int × Bool)))
  | [], q67 => some (.next q67)
  | x59 :: rest60, q67 => (if !(Guidewithin x59.No 1 9999) then some (.ret 2) else (if ((mget q67 x59.No).getD false) then some (.ret 6) else (if decide (((x59.Stops).length : Int) < 2) then some (.ret 1) else ((GuideCheck.loop2 x59 x59.Stops 0).bind fun q84 => match q84 with | .ret r => some (.ret r) | .next () => GuideCheck.loop1 rest60 (mput q67 x59.No true)))))
def GuideCheck (x0 : ApiDay) : Option Int := ((PlanText x0).bind fun q52 => (if (q52.2 != 0) then some q52.2 else ((GuideCheck.loop1 x0.Trains []).bind fun q57 => match q57 with | .ret r => some r | .next _ => some 0)))
def GuideSay.loop1 (x0 : ApiNet) (x74 : ApiTrain) : (List Int) → Option (Out (ByteArray × Int) Unit)
  | [] => some (.next ())
  | x93 :: rest94 => (((if !(Guidewithin x93 0 (w64 (((x74.Stops).length : Int) - 1))) then some true else ((gx x74.Stops x93).bind fun x109 => some (!(Guidewithin x109.Station 0 (w64 (((x0.Stations).length : Int) - 1)))))) : Option Bool).bind fun q106 => (if q106 then some (.ret ((str []), 3)) else GuideSay.loop1 x0 x74 rest94))
def GuideSay (x0 : ApiNet) (x1 : GuideMessage) (x2 : GuidePromise) (x3 : ApiDay) : Option (ByteArray × Int) := ((LineCheck x0).bind fun q55 => (if (q55 != 0) then some ((str []), q55) else ((GuideCheck x3).bind fun q58 => (if (q58 != 0) then some ((str []), q58) else (if !(Guidewithin x1.Kind 1 4) then some ((str []), 15) else (if !(Guidewithin x1.Ride 0 (w64 (((x2.Journey.Rides).length : Int) - 1))) then some ((str []), 3) else ((gx x2.Journey.Rides x1.Ride).bind fun x63 => (if !(Guidewithin x63.Train 0 (w64 (((x3.Trains).length : Int) - 1))) then some ((str []), 3) else ((gx x3.Trains x63.Train).bind fun x74 => ((GuideSay.loop1 x0 x74 [x63.On, x63.Off]).bind fun q91 => match q91 with | .ret r => some r | .next () => (if !(Guidewithin x1.Value 0 28800) then some ((str []), 2) else ((gx x74.Stops x63.On).bind fun x120 => ((gx x0.Stations x120.Station).bind fun x129 => ((gx x74.Stops x63.Off).bind fun x138 => ((gx x0.Stations x138.Station).bind fun x147 => ((itoa x74.No).bind fun q156 => ((scat (str [116, 114, 97, 105, 110, 32]) q156).bind fun x158 => (if (x1.Kind == 1) then ((scat x158 (str [32, 100, 111, 101, 115, 32, 110, 111, 116, 32, 115, 116, 111, 112, 32, 97, 116, 32])).bind fun x161 => ((scat x161 x129).bind fun x163 => some (x163, 0))) else (if (x1.Kind == 2) then ((scat x158 (str [32, 105, 115, 32, 109, 105, 115, 115, 101, 100, 32, 97, 116, 32])).bind fun x166 => ((scat x166 x129).bind fun x168 => some (x168, 0))) else (if (x1.Kind == 3) then ((scat x158 (str [32, 97, 114, 114, 105, 118, 101, 115, 32, 97, 116, 32])).bind fun x171 => ((scat x171 x147).bind fun x173 => ((scat x173 (str [32, 97, 116, 32])).bind fun x175 => ((Guideclock x1.Value).bind fun q177 => ((scat x175 q177).bind fun x179 => some (x179, 0)))))) else ((scat x158 (str [32, 108, 101, 97, 118, 101, 115, 32])).bind fun x181 => ((scat x181 x129).bind fun x183 => ((scat x183 (str [32, 102, 114, 111, 109, 32, 116, 114, 97, 99, 107, 32])).bind fun x185 => ((itoa x1.Value).bind fun q187 => ((scat x185 q187).bind fun x189 => some (x189, 0))))))))))))))))))))))))))
def Fishref1name.loop1 (x0 : ByteArray) : Nat → Int → Option (Out Bool Int)
  | 0, _ => none
  | n53 + 1, q57 => (if decide (q57 < ((x0.size : Nat) : Int)) then ((((sgx x0 q57).bind fun x66 => (if decide (x66 < 97) then some true else ((sgx x0 q57).bind fun x69 => some (decide (x69 > 122))))) : Option Bool).bind fun q64 => (if q64 then some (.ret false) else Fishref1name.loop1 x0 n53 (w64 (q57 + 1)))) else some (.next q57))
def Fishref1name (fu : Nat) (x0 : ByteArray) : Option Bool := ((Fishref1name.loop1 x0 fu 0).bind fun q52 => match q52 with | .ret r => some r | .next _ => (bnd ((if decide (((x0.size : Nat) : Int) ≥ 1) then decide (((x0.size : Nat) : Int) ≤ 12) else false) : Bool) fun q76 => some q76))
def Fishref1checkSection (x0 : ApiSection) (x1 : Int) : Int := (bnd ((if decide (x0.Kind < 1) then true else decide (x0.Kind > 3)) : Bool) fun q56 => (if q56 then 1 else (bnd ((if decide (x0.Length < 10) then true else (if decide (x0.Length > 3000) then true else (if decide (x0.Grade < (-40)) then true else (if decide (x0.Grade > 40) then true else (if decide (x0.Speed < 300) then true else decide (x0.Speed > 6000)))))) : Bool) fun q64 => (if q64 then 2 else (bnd ((if (x0.Kind == 2) then (if decide (x0.Slow < 300) then true else (if decide (x0.Slow > x0.Speed) then true else (if (x0.Kind == 1) then (if decide (x0.Station < 0) then true else decide (x0.Station > x1)) else false))) else (if (x0.Kind == 1) then (if decide (x0.Station < 0) then true else decide (x0.Station > x1)) else false)) : Bool) fun q76 => (if q76 then 2 else (bnd ((if (x0.Kind != 2) then (if (x0.Slow != 0) then true else (if (x0.Kind != 1) then (if (x0.Station != 0) then true else (if (x0.Kind == 3) then (x0.Grade != 0) else false)) else (if (x0.Kind == 3) then (x0.Grade != 0) else false))) else (if (x0.Kind != 1) then (if (x0.Station != 0) then true else (if (x0.Kind == 3) then (x0.Grade != 0) else false)) else (if (x0.Kind == 3) then (x0.Grade != 0) else false))) : Bool) fun q90 => (if q90 then 1 else 0))))))))
def Fishref1EndsOf (x0 : Int) : Option Int := ((gx [0, 2, 3, 4] x0).bind fun x57 => some x57)
def Fishref1hasEnd (x0 : ApiNet) (x1 : Int) (x2 : Int) : Option Bool := (((if decide (x1 ≥ 0) then (if decide (x1 < ((x0.Sections).length : Int)) then (if decide (x2 ≥ 0) then ((gx x0.Sections x1).bind fun x61 => ((Fishref1EndsOf x61.Kind).bind fun q70 => some (decide (x2 < q70)))) else some false) else some false) else some false) : Option Bool).bind fun q56 => some q56)
def Fishref1less (x0 : Int) (x1 : Int) (x2 : Int) (x3 : Int) : Bool := (bnd ((if decide (x0 < x2) then true else (if (x0 == x2) then decide (x1 < x3) else false)) : Bool) fun q55 => q55)
def Fishref1checkLink.loop2 (x52 : ApiLink) : (List Ar2i64) → Out Int Unit
  | [] => (.next ())
  | x137 :: rest138 => (bnd ((if ((x137.f0 == x52.A) && (x137.f1 == x52.EndA)) then true else ((x137.f0 == x52.B) && (x137.f1 == x52.EndB))) : Bool) fun q155 => (if q155 then (.ret 6) else Fishref1checkLink.loop2 x52 rest138))
def Fishref1checkLink.loop1 (x52 : ApiLink) : (List ApiLink) → Out Int Unit
  | [] => (.next ())
  | x114 :: rest115 => (bnd (Fishref1checkLink.loop2 x52 [(Ar2i64.mk x114.A x114.EndA), (Ar2i64.mk x114.B x114.EndB)]) fun q135 => match q135 with | .ret r => (.ret r) | .next () => Fishref1checkLink.loop1 x52 rest115)
def Fishref1checkLink (x0 : ApiNet) (x1 : Int) : Option Int := ((gx x0.Links x1).bind fun x52 => ((((Fishref1hasEnd x0 x52.A x52.EndA).bind fun q68 => (if !q68 then some true else ((Fishref1hasEnd x0 x52.B x52.EndB).bind fun q71 => some !q71))) : Option Bool).bind fun q66 => (if q66 then some 3 else (if (x52.A == x52.B) then some 1 else (((if decide (x52.A > x52.B) then some true else (if decide (x1 > 0) then ((gx x0.Links (w64 (x1 - 1))).bind fun x83 => ((gx x0.Links (w64 (x1 - 1))).bind fun x92 => some (!(Fishref1less x83.A x92.EndA x52.A x52.EndA)))) else some false)) : Option Bool).bind fun q79 => (if q79 then some 5 else ((cutl x0.Links 0 x1).bind fun x102 => (bnd (Fishref1checkLink.loop1 x52 x102) fun q112 => match q112 with | .ret r => some r | .next () => some 0))))))))
def Fishref1next.loop1 (x1 : Int) (x2 : Int) : (List ApiLink) → Out (Int × Int × Bool) Unit
  | [] => (.next ())
  | x55 :: rest56 => (bnd ((if (x55.A == x1) then (x55.EndA == x2) else false) : Bool) fun q73 => (if q73 then (.ret (x55.B, x55.EndB, true)) else (bnd ((if (x55.B == x1) then (x55.EndB == x2) else false) : Bool) fun q81 => (if q81 then (.ret (x55.A, x55.EndA, true)) else Fishref1next.loop1 x1 x2 rest56))))
def Fishref1next (x0 : ApiNet) (x1 : Int) (x2 : Int) : Int × Int × Bool := (bnd (Fishref1next.loop1 x1 x2 x0.Links) fun q53 => match q53 with | .ret r => r | .next () => (0, 0, false))
def Fishref1checkRest.loop1 (x0 : ApiNet) : (List ApiSignal) → Nat → Option (Out Int Unit)
  | [], _ => some (.next ())
  | x55 :: rest56, k54 => ((Fishref1hasEnd x0 x55.Section x55.End).bind fun q69 => (if !q69 then some (.ret 3) else (bnd (Fishref1next x0 x55.Section x55.End) fun q72 => ((((gx x0.Sections x55.Section).bind fun x80 => (if (x80.Kind != 1) then some true else some !q72.2.2)) : Option Bool).bind fun q78 => (if q78 then some (.ret 1) else (((if decide (((k54 : Nat) : Int) > 0) then ((gx x0.Signals (w64 (((k54 : Nat) : Int) - 1))).bind fun x98 => ((gx x0.Signals (w64 (((k54 : Nat) : Int) - 1))).bind fun x107 => some (!(Fishref1less x98.Section x107.End x55.Section x55.End)))) else some false) : Option Bool).bind fun q95 => (if q95 then some (.ret 5) else Fishref1checkRest.loop1 x0 rest56 (k54 + 1))))))))
def Fishref1checkRest.loop2 (x0 : ApiNet) : (List ApiGate) → Nat → Option (Out Int Unit)
  | [], _ => some (.next ())
  | x120 :: rest121, k119 => (bnd ((if decide (x120.Section < 0) then true else decide (x120.Section ≥ ((x0.Sections).length : Int))) : Bool) fun q138 => (if q138 then some (.ret 3) else ((gx x0.Sections x120.Section).bind fun x142 => (if (x142.Kind != 1) then some (.ret 1) else (bnd ((if decide (x120.Close < 1) then true else decide (x120.Close > 12)) : Bool) fun q156 => (if q156 then some (.ret 2) else (((if decide (((k119 : Nat) : Int) > 0) then ((gx x0.Gates (w64 (((k119 : Nat) : Int) - 1))).bind fun x167 => some (decide (x167.Section ≥ x120.Section))) else some false) : Option Bool).bind fun q164 => (if q164 then some (.ret 5) else Fishref1checkRest.loop2 x0 rest121 (k119 + 1)))))))))
def Fishref1checkRest (x0 : ApiNet) : Option Int := ((Fishref1checkRest.loop1 x0 x0.Signals 0).bind fun q53 => match q53 with | .ret r => some r | .next () => ((Fishref1checkRest.loop2 x0 x0.Gates 0).bind fun q118 => match q118 with | .ret r => some r | .next () => some 0))
def Fishref1CheckNet.loop2 (x67 : ByteArray) : (List ByteArray) → Out Int Unit
  | [] => (.next ())
  | x95 :: rest96 => (if (seq x67 x95) then (.ret 6) else Fishref1CheckNet.loop2 x67 rest96)
def Fishref1CheckNet.loop1 (x0 : ApiNet) (fu : Nat) : (List ByteArray) → Nat → Option (Out Int Unit)
  | [], _ => some (.next ())
  | x67 :: rest68, k66 => ((Fishref1name fu x67).bind fun q80 => (if !q80 then some (.ret 1) else ((cutl x0.Stations 0 ((k66 : Nat) : Int)).bind fun x83 => (bnd (Fishref1CheckNet.loop2 x67 x83) fun q93 => match q93 with | .ret r => some (.ret r) | .next () => Fishref1CheckNet.loop1 x0 fu rest68 (k66 + 1)))))
def Fishref1CheckNet.loop3 (x0 : ApiNet) : (List ApiSection) → Out Int Unit
  | [] => (.next ())
  | x112 :: rest113 => (if ((Fishref1checkSection x112 ((x0.Stations).length : Int)) != 0) then (.ret (Fishref1checkSection x112 ((x0.Stations).length : Int))) else Fishref1CheckNet.loop3 x0 rest113)
def Fishref1CheckNet.loop4 (x0 : ApiNet) : (List ApiLink) → Nat → Option (Out Int Unit)
  | [], _ => some (.next ())
  | _ :: rest131, k129 => ((Fishref1checkLink x0 ((k129 : Nat) : Int)).bind fun q139 => (if (q139 != 0) then some (.ret q139) else Fishref1CheckNet.loop4 x0 rest131 (k129 + 1)))
def Fishref1CheckNet (fu : Nat) (x0 : ApiNet) : Option Int := (if (((x0.Sections).length : Int) == 0) then some 1 else (bnd ((if decide (((x0.Stations).length : Int) > 12) then true else (if decide (((x0.Sections).length : Int) > 60) then true else (if decide (((x0.Links).length : Int) > 90) then true else (if decide (((x0.Signals).length : Int) > 40) then true else decide (((x0.Gates).length : Int) > 8))))) : Bool) fun q57 => (if q57 then some 4 else ((Fishref1CheckNet.loop1 x0 fu x0.Stations 0).bind fun q65 => match q65 with | .ret r => some r | .next () => (bnd (Fishref1CheckNet.loop3 x0 x0.Sections) fun q110 => match q110 with | .ret r => some r | .next () => ((Fishref1CheckNet.loop4 x0 x0.Links 0).bind fun q128 => match q128 with | .ret r => some r | .next () => ((Fishref1checkRest x0).bind fun q142 => some q142)))))))
def Fishlaw2small_1 (x0 : Int) (x1 : Int) (x2 : Int) : ApiStop := (ApiStop.mk x0 0 x1 x2)
def Fishlaw2small : ApiDay := (bnd (Fishlaw2small_1 0 100 100) fun q52 => (bnd (Fishlaw2small_1 1 200 230) fun q58 => (bnd (Fishlaw2small_1 2 300 300) fun q64 => (bnd (Fishlaw2small_1 1 250 250) fun q94 => (bnd (Fishlaw2small_1 3 400 400) fun q100 => (ApiDay.mk [(ApiTrain.mk 1 0 [q52, q58, q64] [[0], [1]]), (ApiTrain.mk 2 0 [q94, q100] [[2]])] []))))))
def GuidecheckLeast (x0 : ApiDay) (x1 : Int) : Option Int := ((GuideCheck x0).bind fun q52 => (if (q52 != 0) then some q52 else (if !(Guidewithin x1 0 28800) then some 2 else some 0)))
def Guidecheck.loop1 : (List Int) → Out Int Unit
  | [] => (.next ())
  | x67 :: rest68 => (if !(Guidewithin x67 0 28800) then (.ret 2) else Guidecheck.loop1 rest68)
def Guidecheck (x0 : ApiDay) (x1 : Int) (x2 : Int) (x3 : Int) (x4 : List Int) : Option Int := ((GuidecheckLeast x0 x1).bind fun q52 => (if (q52 != 0) then some q52 else (bnd ((if !(Guidewithin x2 0 11) then true else !(Guidewithin x3 0 11)) : Bool) fun q59 => (if q59 then some 3 else (if (x2 == x3) then some 1 else (bnd (Guidecheck.loop1 x4) fun q65 => match q65 with | .ret r => some r | .next () => some 0))))))

    def ridesF (t on : Nat) : Nat → Nat → List GuideRide
      | 0, _ => []
      | r + 1, off => ⟨(t : Int), (on : Int), (off : Int)⟩ :: ridesF t on r (off + 1)
    def ridesS (station at_ : Int) (t len : Nat) : List ApiStop → Nat → List GuideRide
      | [], _ => []
      | x :: r, on => (if x.Station ≠ station ∨ x.Dep < at_ then [] else ridesF t on (len - (on + 1)) (on + 1)) ++ ridesS station at_ t len r (on + 1)
    def ridesT (station at_ nt : Int) : List ApiTrain → Nat → List GuideRide
      | [], _ => []
      | x :: r, t => (if (t : Int) = nt then [] else ridesS station at_ t x.Stops.length x.Stops 0) ++ ridesT station at_ nt r (t + 1)
    
def GuideNetrides (x0 : GuideNet) (x1 : Int) (x2 : Int) (x3 : Int) : (List GuideRide) := (ridesT x1 x2 x3 x0.Day.Trains 0)
def GuideNeton (x0 : GuideNet) (x1 : GuideRide) : Option ApiStop := ((gx x0.Day.Trains x1.Train).bind fun x55 => ((gx x55.Stops x1.On).bind fun x70 => some x70))
def GuideNetoff (x0 : GuideNet) (x1 : GuideRide) : Option ApiStop := ((gx x0.Day.Trains x1.Train).bind fun x55 => ((gx x55.Stops x1.Off).bind fun x70 => some x70))
def GuideNetbehind (x0 : GuideNet) (x1 : GuideRide) : Option (List GuideRide) := ((GuideNetoff x0 x1).bind fun q53 => (bnd (GuideNetrides x0 q53.Station (w64 (q53.Arr + x0.least)) x1.Train) fun q60 => some q60))
def SlicesAppendSeqLguideRide_v1.loop1 : List GuideRide → (List GuideRide) → Option (List GuideRide)
  | [], q65 => some q65
  | x54 :: rest55, q65 => ((apd q65 [x54]).bind fun x76 => SlicesAppendSeqLguideRide_v1.loop1 rest55 x76)
def SlicesAppendSeqLguideRide_v1 (x0 : List GuideRide) (x1 : List GuideRide) : Option (List GuideRide) := ((SlicesAppendSeqLguideRide_v1.loop1 x1 x0).bind fun q65 => some q65)
def GuideNetends.loop2 (x0 : GuideNet) (k56 : Nat) : (List GuideRide) → (List GuideRide) → (List (List (GuidePlace × Bool))) → Option ((List GuideRide) × (List (List (GuidePlace × Bool))))
  | [], q89, q96 => some (q89, q96)
  | x81 :: rest82, q89, q96 => ((mgx 4 q96 ((k56 : Nat) : Int)).bind fun x105 => (if ((mget x105 (GuidePlace.mk x81.Train x81.Off)).getD false) then GuideNetends.loop2 x0 k56 rest82 q89 q96 else ((mgx 4 q96 ((k56 : Nat) : Int)).bind fun x114 => ((GuideNetbehind x0 x81).bind fun q121 => ((SlicesAppendSeqLguideRide_v1 q89 q121).bind fun q127 => GuideNetends.loop2 x0 k56 rest82 q127 (q96.set ((((k56 : Nat) : Int)).toNat) (mput x114 (GuidePlace.mk x81.Train x81.Off) true)))))))
def GuideNetends.loop1 (x0 : GuideNet) : Nat → Nat → (List GuideRide) → (List (List (GuidePlace × Bool))) → Option ((List GuideRide) × (List (List (GuidePlace × Bool))))
  | 0, _, q65, q69 => some (q65, q69)
  | rest58 + 1, k56, q65, q69 => ((mst 4 q69 ((k56 : Nat) : Int)).bind fun _ => ((GuideNetends.loop2 x0 k56 q65 [] (q69 ++ [[]])).bind fun q79 => match q79 with | (q89, q96) => GuideNetends.loop1 x0 rest58 (k56 + 1) q89 q96))
def GuideNetends (x0 : GuideNet) (x1 : List GuideRide) : Option (List (List (GuidePlace × Bool))) := ((GuideNetends.loop1 x0 4 0 x1 []).bind fun q55 => match q55 with | (_, q69) => ((mall 4 q69).bind fun _ => some q69))
def MathBitsLen64 (x0 : Int) : Option Int := (bnd ((if decide (x0 ≥ 4294967296) then (Int.fdiv x0 (2 ^ (min (Int.toNat 32) (IntKind.bits .u64))), 32) else (x0, 0)) : Int × Int) fun q52 => match q52 with | (q55, q56) => (bnd ((if decide (q55 ≥ 65536) then (Int.fdiv q55 (2 ^ (min (Int.toNat 16) (IntKind.bits .u64))), w64 (q56 + 16)) else (q55, q56)) : Int × Int) fun q60 => match q60 with | (q63, q64) => (bnd ((if decide (q63 ≥ 256) then (Int.fdiv q63 (2 ^ (min (Int.toNat 8) (IntKind.bits .u64))), w64 (q64 + 8)) else (q63, q64)) : Int × Int) fun q68 => match q68 with | (q71, q72) => ((sgx (str [0, 1, 2, 2, 3, 3, 3, 3, 4, 4, 4, 4, 4, 4, 4, 4, 5, 5, 5, 5, 5, 5, 5, 5, 5, 5, 5, 5, 5, 5, 5, 5, 6, 6, 6, 6, 6, 6, 6, 6, 6, 6, 6, 6, 6, 6, 6, 6, 6, 6, 6, 6, 6, 6, 6, 6, 6, 6, 6, 6, 6, 6, 6, 6, 7, 7, 7, 7, 7, 7, 7, 7, 7, 7, 7, 7, 7, 7, 7, 7, 7, 7, 7, 7, 7, 7, 7, 7, 7, 7, 7, 7, 7, 7, 7, 7, 7, 7, 7, 7, 7, 7, 7, 7, 7, 7, 7, 7, 7, 7, 7, 7, 7, 7, 7, 7, 7, 7, 7, 7, 7, 7, 7, 7, 7, 7, 7, 7, 8, 8, 8, 8, 8, 8, 8, 8, 8, 8, 8, 8, 8, 8, 8, 8, 8, 8, 8, 8, 8, 8, 8, 8, 8, 8, 8, 8, 8, 8, 8, 8, 8, 8, 8, 8, 8, 8, 8, 8, 8, 8, 8, 8, 8, 8, 8, 8, 8, 8, 8, 8, 8, 8, 8, 8, 8, 8, 8, 8, 8, 8, 8, 8, 8, 8, 8, 8, 8, 8, 8, 8, 8, 8, 8, 8, 8, 8, 8, 8, 8, 8, 8, 8, 8, 8, 8, 8, 8, 8, 8, 8, 8, 8, 8, 8, 8, 8, 8, 8, 8, 8, 8, 8, 8, 8, 8, 8, 8, 8, 8, 8, 8, 8, 8, 8, 8, 8, 8, 8, 8, 8, 8, 8, 8, 8, 8, 8]) (IntKind.wrap .u8 q71)).bind fun x75 => some (w64 (q72 + (w64 x75)))))))
def MathBitsLen (x0 : Int) : Option Int := ((MathBitsLen64 x0).bind fun q51 => some q51)
def GuidecomparePoints (x0 : GuidePoint) (x1 : GuidePoint) : Int := (CmpOrint [(CmpCompareint x0.Dep x1.Dep), (CmpCompareint x0.Arr x1.Arr), (CmpCompareint x0.Rides x1.Rides)])
def SlicesinsertionSortCmpFuncguidePoint_v1.loop2 (x1 : Int) : Nat → Int → (List GuidePoint) → Option (Int × (List GuidePoint))
  | 0, _, _ => none
  | n74 + 1, q78, q79 => (((if decide (q78 > x1) then ((gx q79 q78).bind fun x93 => ((gx q79 (w64 (q78 - 1))).bind fun x103 => some (decide ((GuidecomparePoints x93 x103) < 0)))) else some false) : Option Bool).bind fun q90 => (if q90 then ((gx q79 (w64 (q78 - 1))).bind fun x115 => ((gx q79 q78).bind fun x125 => ((ix q79 q78).bind fun _ => ((sx q79 q78 x115).bind fun x140 => ((ix x140 (w64 (q78 - 1))).bind fun _ => ((sx x140 (w64 (q78 - 1)) x125).bind fun x150 => SlicesinsertionSortCmpFuncguidePoint_v1.loop2 x1 n74 (w64 (q78 - 1)) x150)))))) else some (q78, q79)))
def SlicesinsertionSortCmpFuncguidePoint_v1.loop1 (x1 : Int) (x2 : Int) (fu : Nat) : Nat → Int → (List GuidePoint) → Option (Int × (List GuidePoint))
  | 0, _, _ => none
  | n59 + 1, q63, q64 => (if decide (q63 < x2) then ((SlicesinsertionSortCmpFuncguidePoint_v1.loop2 x1 fu q63 q64).bind fun q73 => match q73 with | (_, q79) => SlicesinsertionSortCmpFuncguidePoint_v1.loop1 x1 x2 fu n59 (w64 (q63 + 1)) q79) else some (q63, q64))
def SlicesinsertionSortCmpFuncguidePoint_v1 (fu : Nat) (x0 : List GuidePoint) (x1 : Int) (x2 : Int) : Option (List GuidePoint) := ((SlicesinsertionSortCmpFuncguidePoint_v1.loop1 x1 x2 fu fu (w64 (x1 + 1)) x0).bind fun q58 => match q58 with | (_, q64) => some q64)
def SlicespdqsortCmpFuncguidePoint_v1.loop1 (fu : Nat) : Nat → Int → Int → Int → Bool → Bool → (List GuidePoint) → Option (Out (List GuidePoint) (Int × Int × Int × Bool × Bool × (List GuidePoint)))
  | 0, _, _, _, _, _, _ => none
  | _ + 1, q63, q64, q65, q66, _, q68 => (if decide ((w64 (q64 - q63)) ≤ 12) then ((SlicesinsertionSortCmpFuncguidePoint_v1 fu q68 q63 q64).bind fun q76 => some (.ret q76)) else (if (q65 == 0) then none else (((if !q66 then none else some (q65, q68)) : Option (Int × (List GuidePoint))).bind fun q83 => match q83 with | (_, _) => none)))
def SlicespdqsortCmpFuncguidePoint_v1 (fu : Nat) (x0 : List GuidePoint) (x1 : Int) (x2 : Int) (x3 : Int) : Option (List GuidePoint) := ((SlicespdqsortCmpFuncguidePoint_v1.loop1 fu fu x1 x2 x3 true true x0).bind fun q58 => match q58 with | .ret r => some r | .next _ => none)
def SlicesSortFuncLguidePoint_v1 (fu : Nat) (x0 : List GuidePoint) : Option (List GuidePoint) := ((MathBitsLen (IntKind.wrap .u64 ((x0.length : Nat) : Int))).bind fun q57 => ((SlicespdqsortCmpFuncguidePoint_v1 fu x0 0 ((x0.length : Nat) : Int) q57).bind fun q59 => some q59))
def GuideNetpoints.loop1 (x0 : GuideNet) : List GuideRide → (List (Int × (List GuideRide))) → Option (List (Int × (List GuideRide)))
  | [], q73 => some q73
  | x62 :: rest63, q73 => ((GuideNeton x0 x62).bind fun q80 => ((GuideNeton x0 x62).bind fun q80 => (bnd ((mget q73 q80.Dep).getD []) fun x92 => ((apd x92 [x62]).bind fun x101 => GuideNetpoints.loop1 x0 rest63 (mput q73 q80.Dep x101)))))
def GuideNetpoints.loop4.step (x0 : GuideNet) (x2 : Int) (k127 : Int) (k177 : Nat) (k219 : GuidePlace) (_ : Bool) (q224 : List GuidePoint) (q231 : List (GuidePoint × Bool)) : Orc → Option ((List GuidePoint) × (List (GuidePoint × Bool))) := fun o => ((gx x0.Day.Trains k219.train).bind fun x246 => ((gx x246.Stops k219.off).bind fun x261 => (bnd ((if (x261.Station == x2) then !((mget q231 (GuidePoint.mk k127 x261.Arr ((k177 + 1 : Nat) : Int))).getD false) else false) : Bool) fun q276 => (((if q276 then ((apd q224 [(GuidePoint.mk k127 x261.Arr ((k177 + 1 : Nat) : Int))]).bind fun x294 => some (x294, (mput q231 (GuidePoint.mk k127 x261.Arr ((k177 + 1 : Nat) : Int)) true))) else some (q224, q231)) : Option ((List GuidePoint) × (List (GuidePoint × Bool)))).bind fun q280 => match q280 with | (q283, q290) => some (q283, q290)))))
def GuideNetpoints.loop4 (x0 : GuideNet) (x2 : Int) (k127 : Int) (k177 : Nat) (l : List (GuidePlace × Bool)) (q224 : List GuidePoint) (q231 : List (GuidePoint × Bool)) : Orc → Option ((List GuidePoint) × (List (GuidePoint × Bool))) := rngO (fun x st => GuideNetpoints.loop4.step x0 x2 k127 k177 x.1 x.2 st.1 st.2) l.length l (q224, q231)
def GuideNetpoints.loop3.step (x0 : GuideNet) (x2 : Int) (k127 : Int) (q159 : (List (List (GuidePlace × Bool)))) (k177 : Nat) (q182 : List GuidePoint) (q189 : List (GuidePoint × Bool)) : Orc → Option ((List GuidePoint) × (List (GuidePoint × Bool))) := fun o => ((gx q159 ((k177 : Nat) : Int)).bind fun x199 => (bindO (GuideNetpoints.loop4 x0 x2 k127 k177 x199 q182 q189) (fun q209 o => match q209 with | (q224, q231) => some (q224, q231)) o))
def GuideNetpoints.loop3 (x0 : GuideNet) (x2 : Int) (k127 : Int) (q159 : (List (List (GuidePlace × Bool)))) (n : Nat) (q182 : List GuidePoint) (q189 : List (GuidePoint × Bool)) : Orc → Option ((List GuidePoint) × (List (GuidePoint × Bool))) := cntO (fun x st => GuideNetpoints.loop3.step x0 x2 k127 q159 x st.1 st.2) n 0 (q182, q189)
def GuideNetpoints.loop2.step (x0 : GuideNet) (x2 : Int) (k127 : Int) (x128 : List GuideRide) (q132 : List GuidePoint) (q139 : List (GuidePoint × Bool)) : Orc → Option ((List GuidePoint) × (List (GuidePoint × Bool))) := fun o => ((GuideNetends x0 x128).bind fun q159 => (bindO (GuideNetpoints.loop3 x0 x2 k127 q159 4 q132 q139) (fun q167 o => match q167 with | (q182, q189) => some (q182, q189)) o))
def GuideNetpoints.loop2 (x0 : GuideNet) (x2 : Int) (l : List (Int × (List GuideRide))) (q132 : List GuidePoint) (q139 : List (GuidePoint × Bool)) : Orc → Option ((List GuidePoint) × (List (GuidePoint × Bool))) := rngO (fun x st => GuideNetpoints.loop2.step x0 x2 x.1 x.2 st.1 st.2) l.length l (q132, q139)
def GuideNetpoints.o (fu : Nat) (x0 : GuideNet) (x1 : Int) (x2 : Int) : Orc → Option (List GuidePoint) := fun o => (bnd (GuideNetrides x0 x1 0 (-1)) fun q54 => ((GuideNetpoints.loop1 x0 q54 []).bind fun q73 => (bindO (GuideNetpoints.loop2 x0 x2 q73 [] []) (fun q117 o => match q117 with | (q132, _) => ((SlicesSortFuncLguidePoint_v1 fu q132).bind fun q300 => some q300)) o)))
noncomputable def GuideNetpoints (fu : Nat) (x0 : GuideNet) (x1 : Int) (x2 : Int) : Option (List GuidePoint) := same (GuideNetpoints.o fu x0 x1 x2)
def GuideNetearliest_1_v1 (x0 : GuidePoint) (y0 : Int) : Bool := decide (x0.Dep < y0)
def SlicesIndexFuncLguidePoint_v1.loop1 (y0 : Int) : (List GuidePoint) → Nat → Out Int Unit
  | [], _ => (.next ())
  | x54 :: rest55, k53 => (if (GuideNetearliest_1_v1 x54 y0) then (.ret ((k53 : Nat) : Int)) else SlicesIndexFuncLguidePoint_v1.loop1 y0 rest55 (k53 + 1))
def SlicesIndexFuncLguidePoint_v1 (x0 : List GuidePoint) (y0 : Int) : Int := (bnd (SlicesIndexFuncLguidePoint_v1.loop1 y0 x0 0) fun q52 => match q52 with | .ret r => r | .next () => (-1))
def SlicesDeleteFuncLguidePoint_v1.loop1 (x0 : List GuidePoint) (y0 : Int) : Nat → Int → Int → (List GuidePoint) → Option (Int × Int × (List GuidePoint))
  | 0, _, _, _ => none
  | n58 + 1, q62, q63, q64 => (if decide (q63 < ((x0.length : Nat) : Int)) then ((gx q64 q63).bind fun x72 => (((if !(GuideNetearliest_1_v1 x72 y0) then ((ix q64 q62).bind fun _ => ((sx q64 q62 x72).bind fun x101 => some (w64 (q62 + 1), x101))) else some (q62, q64)) : Option (Int × (List GuidePoint))).bind fun q84 => match q84 with | (q87, q88) => SlicesDeleteFuncLguidePoint_v1.loop1 x0 y0 n58 q87 (w64 (q63 + 1)) q88)) else some (q62, q63, q64))
def SlicesDeleteFuncLguidePoint_v1 (fu : Nat) (x0 : List GuidePoint) (y0 : Int) : Option (List GuidePoint) := (if ((SlicesIndexFuncLguidePoint_v1 x0 y0) == (-1)) then some x0 else ((SlicesDeleteFuncLguidePoint_v1.loop1 x0 y0 fu (SlicesIndexFuncLguidePoint_v1 x0 y0) (w64 ((SlicesIndexFuncLguidePoint_v1 x0 y0) + 1)) x0).bind fun q57 => match q57 with | (q62, _, q64) => ((cutl q64 0 q62).bind fun x106 => some x106)))
def GuideNetearliest_2 (x0 : GuidePoint) (x1 : GuidePoint) : Int := (CmpOrint [(CmpCompareint x0.Arr x1.Arr), (CmpCompareint x0.Rides x1.Rides), (CmpCompareint x1.Dep x0.Dep)])
def SlicesMinFuncLguidePoint_v1.loop1 (x0 : List GuidePoint) : Nat → Int → Int → Int → Int → Option (Int × Int × Int × Int)
  | 0, _, _, _, _ => none
  | n65 + 1, q69, q70, q71, q72 => (if decide (q69 < ((x0).length : Int)) then ((gx x0 q69).bind fun x75 => (((if decide ((GuideNetearliest_2 x75 (GuidePoint.mk q70 q71 q72)) < 0) then ((gx x0 q69).bind fun x93 => some (x93.Dep, x93.Arr, x93.Rides)) else some (q70, q71, q72)) : Option (Int × Int × Int)).bind fun q85 => match q85 with | (q88, q89, q90) => SlicesMinFuncLguidePoint_v1.loop1 x0 n65 (w64 (q69 + 1)) q88 q89 q90)) else some (q69, q70, q71, q72))
def SlicesMinFuncLguidePoint_v1 (fu : Nat) (x0 : List GuidePoint) : Option GuidePoint := (if decide (((x0).length : Int) < 1) then none else ((gx x0 0).bind fun x53 => ((SlicesMinFuncLguidePoint_v1.loop1 x0 fu 1 x53.Dep x53.Arr x53.Rides).bind fun q64 => match q64 with | (_, q70, q71, q72) => some (GuidePoint.mk q70 q71 q72))))
def SlicesCloneLguideRide (x0 : List GuideRide) : Option (List GuideRide) := ((apd [] x0).bind fun x56 => some x56)
def GuideNetleastOf_1_v1.loop1 (x0 : List GuideRide) (y0 : GuideNet) (y1 : GuidePoint) (y2 : Int) (self_GuideNetleastOf_1_v1 : (List GuideRide) → GuideNet → GuidePoint → Int → (List (Ar3i64 × Bool)) → Option ((List GuideRide) × (List (Ar3i64 × Bool)))) : List GuideRide → (List GuideRide) → (List (Ar3i64 × Bool)) → Option (Out ((List GuideRide) × (List (Ar3i64 × Bool))) ((List GuideRide) × (List (Ar3i64 × Bool))))
  | [], q110, q115 => some (.next (q110, q115))
  | x99 :: rest100, q110, q115 => ((SlicesCloneLguideRide x0).bind fun q120 => ((apd q120 [x99]).bind fun x129 => ((self_GuideNetleastOf_1_v1 x129 y0 y1 y2 q115).bind fun q141 => (if !q141.1.isEmpty then some (.ret (q141.1, q141.2)) else GuideNetleastOf_1_v1.loop1 x0 y0 y1 y2 self_GuideNetleastOf_1_v1 rest100 q110 q141.2))))
def GuideNetleastOf_1_v1 : Nat → (List GuideRide) → GuideNet → GuidePoint → Int → (List (Ar3i64 × Bool)) → Option ((List GuideRide) × (List (Ar3i64 × Bool)))
  | 0, _, _, _, _, _ => none
  | fu + 1, x0, y0, y1, y2, y3_0 => ((gx x0 (w64 (((x0).length : Int) - 1))).bind fun x55 => ((GuideNetoff y0 x55).bind fun q65 => (if ((w64 (y1.Rides - ((x0).length : Int))) == 0) then (bnd ((if (q65.Station == y2) then (q65.Arr == y1.Arr) else false) : Bool) fun q77 => (if q77 then ((nz x0).bind fun _ => some (x0, y3_0)) else some ([], y3_0))) else (bnd ((if ((mget y3_0 (Ar3i64.mk x55.Train x55.Off (w64 (y1.Rides - ((x0).length : Int))))).getD false) then true else decide (q65.Arr > y1.Arr)) : Bool) fun q87 => (if q87 then some ([], y3_0) else ((GuideNetbehind y0 x55).bind fun q91 => ((GuideNetleastOf_1_v1.loop1 x0 y0 y1 y2 (GuideNetleastOf_1_v1 fu) q91 [] y3_0).bind fun q98 => match q98 with | .ret (q110, q115) => some (q110, q115) | .next (_, q115) => some ([], (mput q115 (Ar3i64.mk x55.Train x55.Off (w64 (y1.Rides - ((x0).length : Int)))) true)))))))))
def GuideNetleastOf.loop1 (x0 : GuideNet) (x2 : Int) (x3 : GuidePoint) (fu : Nat) : List GuideRide → (List GuideRide) → (List (Ar3i64 × Bool)) → Option (Out ((List GuideRide) × (List (Ar3i64 × Bool))) ((List GuideRide) × (List (Ar3i64 × Bool))))
  | [], q77, q81 => some (.next (q77, q81))
  | x66 :: rest67, q77, q81 => ((GuideNeton x0 x66).bind fun q86 => (if (q86.Dep != x3.Dep) then GuideNetleastOf.loop1 x0 x2 x3 fu rest67 q77 q81 else ((GuideNetleastOf_1_v1 fu [x66] x0 x3 x2 q81).bind fun q99 => (if !q99.1.isEmpty then some (.ret (q99.1, q99.2)) else GuideNetleastOf.loop1 x0 x2 x3 fu rest67 q77 q99.2))))
def GuideNetleastOf (fu : Nat) (x0 : GuideNet) (x1 : Int) (x2 : Int) (x3 : GuidePoint) : Option GuideJourney := (bnd (GuideNetrides x0 x1 x3.Dep (-1)) fun q58 => ((GuideNetleastOf.loop1 x0 x2 x3 fu q58 [] []).bind fun q65 => match q65 with | .ret (q77, _) => some (GuideJourney.mk q77) | .next (_, _) => some (GuideJourney.mk [])))
noncomputable def GuideNetearliest (fu : Nat) (x0 : GuideNet) (x1 : Int) (x2 : Int) (x3 : Int) : Option (GuideJourney × Bool) := ((GuideNetpoints fu x0 x1 x3).bind fun q54 => ((SlicesDeleteFuncLguidePoint_v1 fu q54 x2).bind fun q64 => (if (((q64.length : Nat) : Int) == 0) then some ((GuideJourney.mk []), false) else ((SlicesMinFuncLguidePoint_v1 fu q64).bind fun q76 => ((GuideNetleastOf fu x0 x1 x3 q76).bind fun q83 => some (q83, true))))))
noncomputable def GuideEarliest (fu : Nat) (x0 : ApiDay) (x1 : Int) (x2 : Int) (x3 : Int) (x4 : Int) : Option (GuideJourney × Int) := ((Guidecheck x0 x4 x1 x3 [x2]).bind fun q59 => (if (q59 != 0) then some ((GuideJourney.mk []), q59) else ((GuideNetearliest fu (GuideNet.mk x0 x4) x1 x2 x3).bind fun q62 => (if !q62.2 then some ((GuideJourney.mk []), 9) else some (q62.1, 0)))))
def SlicesEqualLguideRide.loop1 (x1 : List GuideRide) : (List GuideRide) → Nat → Option (Out Bool Unit)
  | [], _ => some (.next ())
  | x55 :: rest56, k54 => ((gx x1 ((k54 : Nat) : Int)).bind fun x68 => (if !((x55.Train == x68.Train) && ((x55.On == x68.On) && (x55.Off == x68.Off))) then some (.ret false) else SlicesEqualLguideRide.loop1 x1 rest56 (k54 + 1)))
def SlicesEqualLguideRide (x0 : List GuideRide) (x1 : List GuideRide) : Option Bool := (if (((x0).length : Int) != ((x1).length : Int)) then some false else ((SlicesEqualLguideRide.loop1 x1 x0 0).bind fun q53 => match q53 with | .ret r => some r | .next () => some true))
noncomputable def Fishlaw2guides (fu : Nat) : Option Bool := (bnd (Fishlaw2small) fun q51 => ((GuideEarliest fu q51 0 0 3 40).bind fun q63 => (((if (q63.2 == 0) then ((SlicesEqualLguideRide q63.1.Rides [(GuideRide.mk 0 0 1), (GuideRide.mk 1 0 1)]).bind fun q86 => some q86) else some false) : Option Bool).bind fun q77 => some q77)))
def Fishref2within (x0 : Int) (x1 : Int) (x2 : Int) : Bool := (bnd ((if decide (x0 ≥ x1) then decide (x0 ≤ x2) else false) : Bool) fun q55 => q55)
def Fishref2clock_1 (x0 : Int) : Option ByteArray := ((itoa (w64 (Int.tdiv x0 10))).bind fun q51 => ((itoa (Int.tmod x0 10)).bind fun q53 => ((scat q51 q53).bind fun x55 => some x55)))
def Fishref2clock (x0 : Int) : Option ByteArray := ((Fishref2clock_1 (w64 (Int.tdiv x0 3600))).bind fun q51 => ((scat q51 (str [58])).bind fun x53 => ((Fishref2clock_1 (Int.tmod (w64 (Int.tdiv x0 60)) 60)).bind fun q55 => ((scat x53 q55).bind fun x57 => some x57))))
def Fishref2BoardText.loop1 (x0 : ApiNet) : (List GuideLine) → ByteArray → Option (Out (ByteArray × Int) ByteArray)
  | [], q64 => some (.next q64)
  | x56 :: rest57, q64 => (bnd ((if !(Fishref2within x56.Time 0 28800) then true else (if !(Fishref2within x56.Late 0 28800) then true else !(Fishref2within x56.No 1 9999))) : Bool) fun q75 => (if q75 then some (.ret ((str []), 2)) else (bnd ((if decide (x56.To < 0) then true else decide (x56.To ≥ ((x0.Stations).length : Int))) : Bool) fun q84 => (if q84 then some (.ret ((str []), 3)) else (bnd ((if !x56.Ends then !(Fishref2within x56.Track 0 59) else false) : Bool) fun q92 => (if q92 then some (.ret ((str []), 2)) else ((Fishref2clock x56.Time).bind fun q96 => ((scat q96 (str [32])).bind fun x98 => ((itoa x56.No).bind fun q100 => ((scat x98 q100).bind fun x102 => ((scat x102 (str [32])).bind fun x104 => ((gx x0.Stations x56.To).bind fun x106 => ((scat x104 x106).bind fun x115 => ((scat x115 (str [32])).bind fun x117 => ((scat q64 x117).bind fun x119 => (((if x56.Ends then ((scat x119 (str [99, 97, 110, 99, 101, 108, 108, 101, 100])).bind fun x128 => some x128) else (((if decide (x56.Late ≥ 60) then ((itoa x56.Track).bind fun q137 => ((scat (str [116, 114, 97, 99, 107, 32]) q137).bind fun x139 => ((scat x139 (str [32])).bind fun x141 => ((itoa (w64 (Int.tdiv x56.Late 60))).bind fun q143 => ((scat x141 q143).bind fun x145 => ((scat x145 (str [32, 109, 105, 110, 117, 116, 101, 115, 32, 108, 97, 116, 101])).bind fun x147 => ((scat x119 x147).bind fun x149 => some x149))))))) else ((itoa x56.Track).bind fun q151 => ((scat (str [116, 114, 97, 99, 107, 32]) q151).bind fun x153 => ((scat x119 x153).bind fun x155 => some x155)))) : Option ByteArray).bind fun q134 => some q134)) : Option ByteArray).bind fun q125 => ((scat q125 (str [10])).bind fun x157 => Fishref2BoardText.loop1 x0 rest57 x157)))))))))))))))))
def Fishref2BoardText (x0 : ApiNet) (x1 : List GuideLine) : Option (ByteArray × Int) := (if decide (((x1).length : Int) > 40) then some ((str []), 4) else ((Fishref2BoardText.loop1 x0 x1 (str [])).bind fun q54 => match q54 with | .ret r => some r | .next q64 => some (q64, 0)))
def Fishref2numbersIn.loop2 : (List ApiStop) → (List (List Int)) → Option (List (List Int))
  | [], q107 => some q107
  | x99 :: rest100, q107 => ((apd q107 [[x99.Station, x99.Track, x99.Arr, x99.Dep]]).bind fun x127 => Fishref2numbersIn.loop2 rest100 x127)
def Fishref2numbersIn.loop1 : (List ApiTrain) → (List (List Int)) → Option (List (List Int))
  | [], q64 => some q64
  | x56 :: rest57, q64 => ((apd q64 [[x56.No, x56.Stock]]).bind fun x90 => ((Fishref2numbersIn.loop2 x56.Stops x90).bind fun q107 => ((apd q107 x56.Legs).bind fun x133 => Fishref2numbersIn.loop1 rest57 x133)))
def Fishref2numbersIn (x0 : ApiDay) : Option (List (List Int)) := ((Fishref2numbersIn.loop1 x0.Trains []).bind fun q64 => ((apd q64 x0.Turns).bind fun x139 => some x139))
def Fishref2TextFault.loop2 : (List (List Int)) → Out Int Unit
  | [] => (.next ())
  | x94 :: rest95 => (if (((x94).length : Int) == 0) then (.ret 1) else Fishref2TextFault.loop2 rest95)
def Fishref2TextFault.loop3 : (List (List Int)) → Out Int Unit
  | [] => (.next ())
  | x115 :: rest116 => (if decide (((x115).length : Int) > 4) then (.ret 4) else Fishref2TextFault.loop3 rest116)
def Fishref2TextFault.loop1 : (List ApiTrain) → Out Int Unit
  | [] => (.next ())
  | x63 :: rest64 => (bnd ((if (((x63.Stops).length : Int) == 0) then true else (((x63.Legs).length : Int) != (w64 (((x63.Stops).length : Int) - 1)))) : Bool) fun q87 => (if q87 then (.ret 1) else (bnd (Fishref2TextFault.loop2 x63.Legs) fun q92 => match q92 with | .ret r => (.ret r) | .next () => (if decide (((x63.Stops).length : Int) > 8) then (.ret 4) else (bnd (Fishref2TextFault.loop3 x63.Legs) fun q113 => match q113 with | .ret r => (.ret r) | .next () => Fishref2TextFault.loop1 rest64)))))
def Fishref2TextFault.loop4 : (List (List Int)) → Out Int Unit
  | [] => (.next ())
  | x135 :: rest136 => (if (((x135).length : Int) == 0) then (.ret 1) else (if decide (((x135).length : Int) > 12) then (.ret 4) else Fishref2TextFault.loop4 rest136))
def Fishref2TextFault.loop6 : (List Int) → Out Int Unit
  | [] => (.next ())
  | x192 :: rest193 => (if !(Fishref2within x192 0 999999) then (.ret 2) else Fishref2TextFault.loop6 rest193)
def Fishref2TextFault.loop5 (q153 : (List (List Int))) : Nat → Nat → Option (Out Int Unit)
  | 0, _ => some (.next ())
  | rest167 + 1, k165 => ((gx q153 ((k165 : Nat) : Int)).bind fun x176 => (bnd (Fishref2TextFault.loop6 x176) fun q190 => match q190 with | .ret r => some (.ret r) | .next () => Fishref2TextFault.loop5 q153 rest167 (k165 + 1)))
def Fishref2TextFault (x0 : ApiDay) : Option Int := (bnd ((if decide (((x0.Trains).length : Int) > 12) then true else decide (((x0.Turns).length : Int) > 8)) : Bool) fun q56 => (if q56 then some 4 else (bnd (Fishref2TextFault.loop1 x0.Trains) fun q61 => match q61 with | .ret r => some r | .next () => (bnd (Fishref2TextFault.loop4 x0.Turns) fun q133 => match q133 with | .ret r => some r | .next () => ((Fishref2numbersIn x0).bind fun q153 => ((Fishref2TextFault.loop5 q153 q153.length 0).bind fun q164 => match q164 with | .ret r => some r | .next () => some 0))))))
def Fishref2GuideFault.loop2 (x58 : ApiTrain) : (List ApiTrain) → Out Int Unit
  | [] => (.next ())
  | x91 :: rest92 => (if (x91.No == x58.No) then (.ret 6) else Fishref2GuideFault.loop2 x58 rest92)
def Fishref2GuideFault.loop3 (x58 : ApiTrain) : (List ApiStop) → Nat → Option (Out Int Unit)
  | [], _ => some (.next ())
  | x116 :: rest117, k115 => (bnd ((if !(Fishref2within x116.Station 0 11) then true else (if !(Fishref2within x116.Arr 0 28800) then true else !(Fishref2within x116.Dep 0 28800))) : Bool) fun q134 => (if q134 then some (.ret 2) else (((if decide (x116.Dep < x116.Arr) then some true else (if decide (((k115 : Nat) : Int) > 0) then ((gx x58.Stops (w64 (((k115 : Nat) : Int) - 1))).bind fun x147 => some (decide (x116.Arr ≤ x147.Dep))) else some false)) : Option Bool).bind fun q143 => (if q143 then some (.ret 5) else Fishref2GuideFault.loop3 x58 rest117 (k115 + 1)))))
def Fishref2GuideFault.loop1 (x0 : ApiDay) : (List ApiTrain) → Nat → Option (Out Int Unit)
  | [], _ => some (.next ())
  | x58 :: rest59, k57 => (if !(Fishref2within x58.No 1 9999) then some (.ret 2) else ((cutl x0.Trains 0 ((k57 : Nat) : Int)).bind fun x79 => (bnd (Fishref2GuideFault.loop2 x58 x79) fun q89 => match q89 with | .ret r => some (.ret r) | .next () => (if decide (((x58.Stops).length : Int) < 2) then some (.ret 1) else ((Fishref2GuideFault.loop3 x58 x58.Stops 0).bind fun q114 => match q114 with | .ret r => some (.ret r) | .next () => Fishref2GuideFault.loop1 x0 rest59 (k57 + 1))))))
def Fishref2GuideFault (x0 : ApiDay) : Option Int := ((Fishref2TextFault x0).bind fun q52 => (if (q52 != 0) then some q52 else ((Fishref2GuideFault.loop1 x0 x0.Trains 0).bind fun q56 => match q56 with | .ret r => some r | .next () => some 0)))
def Fishref2SayOf (x0 : ApiNet) (x1 : GuideMessage) (x2 : GuidePromise) (x3 : ApiDay) : Option (ByteArray × Int) := (if !(Fishref2within x1.Kind 1 4) then some ((str []), 15) else (bnd ((if decide (x1.Ride < 0) then true else decide (x1.Ride ≥ ((x2.Journey.Rides).length : Int))) : Bool) fun q60 => (if q60 then some ((str []), 3) else ((gx x2.Journey.Rides x1.Ride).bind fun x64 => (bnd ((if decide (x64.Train < 0) then true else decide (x64.Train ≥ ((x3.Trains).length : Int))) : Bool) fun q78 => (if q78 then some ((str []), 3) else ((gx x3.Trains x64.Train).bind fun x82 => (bnd ((if decide (x64.On < 0) then true else (if decide (x64.On ≥ ((x82.Stops).length : Int)) then true else (if decide (x64.Off < 0) then true else decide (x64.Off ≥ ((x82.Stops).length : Int))))) : Bool) fun q102 => (if q102 then some ((str []), 3) else ((gx x82.Stops x64.On).bind fun x108 => ((gx x82.Stops x64.Off).bind fun x117 => (bnd ((if decide (x108.Station ≥ ((x0.Stations).length : Int)) then true else decide (x117.Station ≥ ((x0.Stations).length : Int))) : Bool) fun q130 => (if q130 then some ((str []), 3) else (if !(Fishref2within x1.Value 0 28800) then some ((str []), 2) else ((gx x0.Stations x108.Station).bind fun x135 => ((gx x0.Stations x117.Station).bind fun x144 => ((scat (str [32, 100, 111, 101, 115, 32, 110, 111, 116, 32, 115, 116, 111, 112, 32, 97, 116, 32]) x135).bind fun x154 => ((scat (str [32, 105, 115, 32, 109, 105, 115, 115, 101, 100, 32, 97, 116, 32]) x135).bind fun x156 => ((scat (str [32, 97, 114, 114, 105, 118, 101, 115, 32, 97, 116, 32]) x144).bind fun x158 => ((scat x158 (str [32, 97, 116, 32])).bind fun x160 => ((scat (str [32, 108, 101, 97, 118, 101, 115, 32]) x135).bind fun x162 => ((scat x162 (str [32, 102, 114, 111, 109, 32, 116, 114, 97, 99, 107, 32])).bind fun x164 => ((itoa x82.No).bind fun q166 => ((scat (str [116, 114, 97, 105, 110, 32]) q166).bind fun x168 => ((Fishref2clock x1.Value).bind fun q170 => ((scat x160 q170).bind fun x172 => ((itoa x1.Value).bind fun q174 => ((scat x164 q174).bind fun x176 => ((gx [(str []), x154, x156, x172, x176] x1.Kind).bind fun x184 => ((scat x168 x184).bind fun x193 => some (x193, 0)))))))))))))))))))))))))))))))
noncomputable def Fishlaw2GuideSays (fu : Nat) (x0 : ApiNet) (x1 : List GuideLine) (x2 : GuideMessage) (x3 : GuidePromise) (x4 : ApiDay) : Option Bool := ((GuideBoardText x0 x1).bind fun q55 => ((GuideSay x0 x2 x3 x4).bind fun q57 => ((Fishref1CheckNet fu x0).bind fun q59 => (if (q59 != 0) then ((((Fishlaw2guides fu).bind fun q68 => (if q68 then (if (q55.2 == q59) then (if (q57.2 == q59) then ((scat q55.1 q57.1).bind fun x73 => some (seq x73 (str []))) else some false) else some false) else some false)) : Option Bool).bind fun q66 => some q66) else ((Fishref2BoardText x0 x1).bind fun q75 => ((((Fishlaw2guides fu).bind fun q83 => (if !q83 then some true else (if !(seq q55.1 q75.1) then some true else some (q55.2 != q75.2)))) : Option Bool).bind fun q81 => (if q81 then some false else ((Fishref2GuideFault x4).bind fun q88 => (((if (q88 == 0) then ((Fishref2SayOf x0 x2 x3 x4).bind fun q98 => some (q98.1, q98.2)) else some ((str []), q88)) : Option (ByteArray × Int)).bind fun q91 => match q91 with | (q94, q95) => (bnd ((if (seq q57.1 q94) then (q57.2 == q95) else false) : Bool) fun q104 => some q104))))))))))
end Go.Fp
