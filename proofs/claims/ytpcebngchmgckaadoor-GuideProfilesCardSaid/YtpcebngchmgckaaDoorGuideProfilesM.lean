/- The mirrors of the functions that GuideProfiles reaches: plain Lean functions on data. No condition. -/
import Derived.Test.YtpcebngchmgckaaDoorFpAllX
import Derived.Test.YtpcebngchmgckaaDoorFpInD
import Derived.Test.YtpcebngchmgckaaDoorFpMapG
import Derived.Test.YtpcebngchmgckaaDoorFpMaps
import Derived.Test.YtpcebngchmgckaaDoorFpOrc
namespace Go.Fp
structure ApiStop where
  Station : Int
  Track : Int
  Arr : Int
  Dep : Int
  deriving DecidableEq, Inhabited
-- ApiStop is of one size
def InApiStop (x : ApiStop) : Prop := inI x.Station ∧ inI x.Track ∧ inI x.Arr ∧ inI x.Dep
def ApiStop.cells (x : ApiStop) : List Go.Value := [.int .i64 x.Station, .int .i64 x.Track, .int .i64 x.Arr, .int .i64 x.Dep]
def RApiStop : Rd ApiStop := fun _ cs x => cs = x.cells
theorem RApiStop.mono : Rmono RApiStop := fun _ _ _ _ _ h => h
theorem RApiStop.one : Rone RApiStop := by intro s cs x h; subst h; rfl

structure ApiTrain where
  No : Int
  Stock : Int
  Stops : List ApiStop
  Legs : List (List Int)
  deriving DecidableEq, Inhabited
def szApiTrain (x : ApiTrain) : Nat := (szL sz1) x.Stops + (szL (szL sz1)) x.Legs + 1
def InApiTrain (x : ApiTrain) : Prop := inI x.No ∧ inI x.Stock ∧ (inL InApiStop) x.Stops ∧ (inL (inL inI)) x.Legs
def RApiTrain : Rd ApiTrain := fun s cs x => ∃ a0 c0 a1 c1, cs = [.int .i64 x.No, .int .i64 x.Stock, .slice a0 x.Stops.length c0, .slice a1 x.Legs.length c1] ∧ Sl 4 RApiStop s a0 c0 x.Stops ∧ Sl 1 (RL 1 (RI .i64)) s a1 c1 x.Legs
theorem RApiTrain.one : Rone RApiTrain := by rintro s cs x ⟨a0, c0, a1, c1, rfl, _⟩; rfl
theorem RApiTrain.mono : Rmono RApiTrain := fun _ _ h _ _ ⟨a0, c0, a1, c1, e, h0, h1⟩ => ⟨a0, c0, a1, c1, e, h0.mono RApiStop.mono h, h1.mono (RL.mono RI.mono) h⟩

structure ApiDay where
  Trains : List ApiTrain
  Turns : List (List Int)
  deriving DecidableEq, Inhabited
def szApiDay (x : ApiDay) : Nat := (szL szApiTrain) x.Trains + (szL (szL sz1)) x.Turns + 1
def InApiDay (x : ApiDay) : Prop := (inL InApiTrain) x.Trains ∧ (inL (inL inI)) x.Turns
def RApiDay : Rd ApiDay := fun s cs x => ∃ a0 c0 a1 c1, cs = [.slice a0 x.Trains.length c0, .slice a1 x.Turns.length c1] ∧ Sl 4 RApiTrain s a0 c0 x.Trains ∧ Sl 1 (RL 1 (RI .i64)) s a1 c1 x.Turns
theorem RApiDay.one : Rone RApiDay := by rintro s cs x ⟨a0, c0, a1, c1, rfl, _⟩; rfl
theorem RApiDay.mono : Rmono RApiDay := fun _ _ h _ _ ⟨a0, c0, a1, c1, e, h0, h1⟩ => ⟨a0, c0, a1, c1, e, h0.mono RApiTrain.mono h, h1.mono (RL.mono RI.mono) h⟩

structure Ar3i64 where
  f0 : Int
  f1 : Int
  f2 : Int
  deriving DecidableEq, Inhabited
-- Ar3i64 is of one size
def Ar3i64.cells (x : Ar3i64) : List Go.Value := [.int .i64 x.f0, .int .i64 x.f1, .int .i64 x.f2]
def RAr3i64 : Rd Ar3i64 := fun _ cs x => cs = x.cells
theorem RAr3i64.mono : Rmono RAr3i64 := fun _ _ _ _ _ h => h
theorem RAr3i64.one : Rone RAr3i64 := by intro s cs x h; subst h; rfl

structure GuideRide where
  Train : Int
  On : Int
  Off : Int
  deriving DecidableEq, Inhabited
-- GuideRide is of one size
def InGuideRide (x : GuideRide) : Prop := inI x.Train ∧ inI x.On ∧ inI x.Off
def GuideRide.cells (x : GuideRide) : List Go.Value := [.int .i64 x.Train, .int .i64 x.On, .int .i64 x.Off]
def RGuideRide : Rd GuideRide := fun _ cs x => cs = x.cells
theorem RGuideRide.mono : Rmono RGuideRide := fun _ _ _ _ _ h => h
theorem RGuideRide.one : Rone RGuideRide := by intro s cs x h; subst h; rfl

structure GuideJourney where
  Rides : List GuideRide
  deriving DecidableEq, Inhabited
def szGuideJourney (x : GuideJourney) : Nat := (szL sz1) x.Rides + 1
def InGuideJourney (x : GuideJourney) : Prop := (inL InGuideRide) x.Rides
def RGuideJourney : Rd GuideJourney := fun s cs x => ∃ a0 c0, cs = [.slice a0 x.Rides.length c0] ∧ Sl 3 RGuideRide s a0 c0 x.Rides
theorem RGuideJourney.one : Rone RGuideJourney := by rintro s cs x ⟨a0, c0, rfl, _⟩; rfl
theorem RGuideJourney.mono : Rmono RGuideJourney := fun _ _ h _ _ ⟨a0, c0, e, h0⟩ => ⟨a0, c0, e, h0.mono RGuideRide.mono h⟩

structure GuideNet where
  Day : ApiDay
  least : Int
  deriving DecidableEq, Inhabited
def szGuideNet (x : GuideNet) : Nat := szApiDay x.Day + 1
def InGuideNet (x : GuideNet) : Prop := InApiDay x.Day ∧ inI x.least
def RGuideNet : Rd GuideNet := fun s cs x => ∃ a0 c0 a1 c1, cs = [.slice a0 x.Day.Trains.length c0, .slice a1 x.Day.Turns.length c1, .int .i64 x.least] ∧ Sl 4 RApiTrain s a0 c0 x.Day.Trains ∧ Sl 1 (RL 1 (RI .i64)) s a1 c1 x.Day.Turns
theorem RGuideNet.one : Rone RGuideNet := by rintro s cs x ⟨a0, c0, a1, c1, rfl, _⟩; rfl
theorem RGuideNet.mono : Rmono RGuideNet := fun _ _ h _ _ ⟨a0, c0, a1, c1, e, h0, h1⟩ => ⟨a0, c0, a1, c1, e, h0.mono RApiTrain.mono h, h1.mono (RL.mono RI.mono) h⟩

structure GuidePlace where
  train : Int
  off : Int
  deriving DecidableEq, Inhabited
-- GuidePlace is of one size
def InGuidePlace (x : GuidePlace) : Prop := inI x.train ∧ inI x.off
def GuidePlace.cells (x : GuidePlace) : List Go.Value := [.int .i64 x.train, .int .i64 x.off]
def RGuidePlace : Rd GuidePlace := fun _ cs x => cs = x.cells
theorem RGuidePlace.mono : Rmono RGuidePlace := fun _ _ _ _ _ h => h
theorem RGuidePlace.one : Rone RGuidePlace := by intro s cs x h; subst h; rfl

structure GuidePoint where
  Dep : Int
  Arr : Int
  Rides : Int
  deriving DecidableEq, Inhabited
-- GuidePoint is of one size
def InGuidePoint (x : GuidePoint) : Prop := inI x.Dep ∧ inI x.Arr ∧ inI x.Rides
def GuidePoint.cells (x : GuidePoint) : List Go.Value := [.int .i64 x.Dep, .int .i64 x.Arr, .int .i64 x.Rides]
def RGuidePoint : Rd GuidePoint := fun _ cs x => cs = x.cells
theorem RGuidePoint.mono : Rmono RGuidePoint := fun _ _ _ _ _ h => h
theorem RGuidePoint.one : Rone RGuidePoint := by intro s cs x h; subst h; rfl
def Planform.loop2 : (List (List Int)) → Out Int Unit
  | [] => (.next ())
  | x94 :: rest95 => (if (((x94).length : Int) == 0) then (.ret 1) else Planform.loop2 rest95)
def Planform.loop3 : (List (List Int)) → Out Int Unit
  | [] => (.next ())
  | x115 :: rest116 => (if decide (((x115).length : Int) > 4) then (.ret 4) else Planform.loop3 rest116)
def Planform.loop1 : (List ApiTrain) → Out Int Unit
  | [] => (.next ())
  | x63 :: rest64 => (bnd ((if (((x63.Stops).length : Int) == 0) then true else (((x63.Legs).length : Int) != (w64 (((x63.Stops).length : Int) - 1)))) : Bool) fun q87 => (if q87 then (.ret 1) else (bnd (Planform.loop2 x63.Legs) fun q92 => match q92 with | .ret r => (.ret r) | .next () => (if decide (((x63.Stops).length : Int) > 8) then (.ret 4) else (bnd (Planform.loop3 x63.Legs) fun q113 => match q113 with | .ret r => (.ret r) | .next () => Planform.loop1 rest64)))))
def Planform.loop4 : (List (List Int)) → Out Int Unit
  | [] => (.next ())
  | x135 :: rest136 => (if (((x135).length : Int) == 0) then (.ret 1) else (if decide (((x135).length : Int) > 12) then (.ret 4) else Planform.loop4 rest136))
def Planform (x0 : ApiDay) : Int := (bnd ((if decide (((x0.Trains).length : Int) > 12) then true else decide (((x0.Turns).length : Int) > 8)) : Bool) fun q56 => (if q56 then 4 else (bnd (Planform.loop1 x0.Trains) fun q61 => match q61 with | .ret r => r | .next () => (bnd (Planform.loop4 x0.Turns) fun q133 => match q133 with | .ret r => r | .next () => 0))))
def Planwithin (x0 : Int) (x1 : Int) (x2 : Int) : Bool := (bnd ((if decide (x0 ≥ x1) then decide (x0 ≤ x2) else false) : Bool) fun q55 => q55)
def Plansentence.loop1 : (List Int) → ByteArray → Option ByteArray
  | [], q62 => some q62
  | x54 :: rest55, q62 => ((itoa x54).bind fun q68 => ((scat (str [32]) q68).bind fun x70 => ((scat q62 x70).bind fun x72 => Plansentence.loop1 rest55 x72)))
def Plansentence (x0 : ByteArray) (x1 : List Int) : Option ByteArray := ((Plansentence.loop1 x1 x0).bind fun q62 => ((scat q62 (str [10])).bind fun x74 => some x74))
def PlanText_1_v1.loop1 : (List Int) → Bool → Bool
  | [], q64 => q64
  | x56 :: rest57, q64 => (bnd ((if q64 then (Planwithin x56 0 999999) else false) : Bool) fun q74 => PlanText_1_v1.loop1 rest57 q74)
def PlanText_1_v1 (x0 : ByteArray) (x1 : List Int) (y0 : Bool) (y1_0 : ByteArray) : Option (Bool × ByteArray) := (bnd (PlanText_1_v1.loop1 x1 y0) fun q64 => ((Plansentence x0 x1).bind fun q77 => ((sbw y1_0 q77).bind fun q79 => some (q64, q79))))
def PlanText.loop2 : (List ApiStop) → ByteArray → Bool → Option (ByteArray × Bool)
  | [], q99, q100 => some (q99, q100)
  | x91 :: rest92, q99, q100 => ((PlanText_1_v1 (str [115, 116, 111, 112]) [x91.Station, x91.Track, x91.Arr, x91.Dep] q100 q99).bind fun q113 => PlanText.loop2 rest92 q113.2 q113.1)
def PlanText.loop3 : (List (List Int)) → ByteArray → Bool → Option (ByteArray × Bool)
  | [], q126, q127 => some (q126, q127)
  | x118 :: rest119, q126, q127 => ((PlanText_1_v1 (str [108, 101, 103]) x118 q127 q126).bind fun q136 => PlanText.loop3 rest119 q136.2 q136.1)
def PlanText.loop1 : (List ApiTrain) → ByteArray → Bool → Option (ByteArray × Bool)
  | [], q66, q67 => some (q66, q67)
  | x58 :: rest59, q66, q67 => ((PlanText_1_v1 (str [116, 114, 97, 105, 110]) [x58.No, x58.Stock] q67 q66).bind fun q86 => ((PlanText.loop2 x58.Stops q86.2 q86.1).bind fun q89 => match q89 with | (q99, q100) => ((PlanText.loop3 x58.Legs q99 q100).bind fun q116 => match q116 with | (q126, q127) => PlanText.loop1 rest59 q126 q127)))
def PlanText.loop4 : (List (List Int)) → ByteArray → Bool → Option (ByteArray × Bool)
  | [], q149, q150 => some (q149, q150)
  | x141 :: rest142, q149, q150 => ((PlanText_1_v1 (str [116, 117, 114, 110]) x141 q150 q149).bind fun q159 => PlanText.loop4 rest142 q159.2 q159.1)
def PlanText (x0 : ApiDay) : Option (ByteArray × Int) := (if ((Planform x0) != 0) then some ((str []), (Planform x0)) else ((PlanText.loop1 x0.Trains ByteArray.empty true).bind fun q56 => match q56 with | (q66, q67) => ((PlanText.loop4 x0.Turns q66 q67).bind fun q139 => match q139 with | (q149, q150) => (if !q150 then some ((str []), 2) else some (q149, 0)))))
def Guidewithin (x0 : Int) (x1 : Int) (x2 : Int) : Bool := (bnd ((if decide (x0 ≥ x1) then decide (x0 ≤ x2) else false) : Bool) fun q55 => q55)
def GuideCheck.loop2 (x59 : ApiTrain) : (List ApiStop) → Nat → Option (Out Int Unit)
  | [], _ => some (.next ())
  | x86 :: rest87, k85 => (bnd ((if !(Guidewithin x86.Station 0 11) then true else (if !(Guidewithin x86.Arr 0 28800) then true else !(Guidewithin x86.Dep 0 28800))) : Bool) fun q104 => (if q104 then some (.ret 2) else (((if decide (x86.Dep < x86.Arr) then some true else (if decide (((k85 : Nat) : Int) > 0) then ((gx x59.Stops (w64 (((k85 : Nat) : Int) - 1))).bind fun x117 => some (decide (x86.Arr ≤ x117.Dep))) else some false)) : Option Bool).bind fun q113 => (if q113 then some (.ret 5) else GuideCheck.loop2 x59 rest87 (k85 + 1)))))
def GuideCheck.loop1 : (List ApiTrain) → (List (Int × Bool)) → Option (Out Int (List (Int × Bool)))
  | [], q67 => some (.next q67)
  | x59 :: rest60, q67 => (if !(Guidewithin x59.No 1 9999) then some (.ret 2) else (if ((mget q67 x59.No).getD false) then some (.ret 6) else (if decide (((x59.Stops).length : Int) < 2) then some (.ret 1) else ((GuideCheck.loop2 x59 x59.Stops 0).bind fun q84 => match q84 with | .ret r => some (.ret r) | .next () => GuideCheck.loop1 rest60 (mput q67 x59.No true)))))
def GuideCheck (x0 : ApiDay) : Option Int := ((PlanText x0).bind fun q52 => (if (q52.2 != 0) then some q52.2 else ((GuideCheck.loop1 x0.Trains []).bind fun q57 => match q57 with | .ret r => some r | .next _ => some 0)))
def GuidecheckLeast (x0 : ApiDay) (x1 : Int) : Option Int := ((GuideCheck x0).bind fun q52 => (if (q52 != 0) then some q52 else (if !(Guidewithin x1 0 28800) then some 2 else some 0)))
def Guidecheck.loop1 : (List Int) → Out Int Unit
  | [] => (.next ())
  | x67 :: rest68 => (if !(Guidewithin x67 0 28800) then (.ret 2) else Guidecheck.loop1 rest68)
def Guidecheck (x0 : ApiDay) (x1 : Int) (x2 : Int) (x3 : Int) (x4 : List Int) : Option Int := ((GuidecheckLeast x0 x1).bind fun q52 => (if (q52 != 0) then some q52 else (bnd ((if !(Guidewithin x2 0 11) then true else !(Guidewithin x3 0 11)) : Bool) fun q59 => (if q59 then some 3 else (if (x2 == x3) then some 1 else (bnd (Guidecheck.loop1 x4) fun q65 => match q65 with | .ret r => some r | .next () => some 0))))))

    def ridesF (t on : Nat) : Nat → Nat → List GuideRide
      | 0, _ => []
      | r + 1, off => ⟨(t : Int), (on : Int), (off : Int)⟩ :: ridesF t on r (off + 1)
    def ridesS (station at_ : Int) (t len : Nat) : List ApiStop → Nat → List GuideRide
      | [], _ => []
      | x :: r, on => (if x.Station ≠ station ∨ x.Dep < at_ then [] else ridesF t on (len - (on + 1)) (on + 1)) ++ ridesS station at_ t len r (on + 1)
    def ridesT (station at_ nt : Int) : List ApiTrain → Nat → List GuideRide
      | [], _ => []
      | x :: r, t => (if (t : Int) = nt then [] else ridesS station at_ t x.Stops.length x.Stops 0) ++ ridesT station at_ nt r (t + 1)
    
def GuideNetrides (x0 : GuideNet) (x1 : Int) (x2 : Int) (x3 : Int) : (List GuideRide) := (ridesT x1 x2 x3 x0.Day.Trains 0)
def GuideNeton (x0 : GuideNet) (x1 : GuideRide) : Option ApiStop := ((gx x0.Day.Trains x1.Train).bind fun x55 => ((gx x55.Stops x1.On).bind fun x70 => some x70))
def GuideNetoff (x0 : GuideNet) (x1 : GuideRide) : Option ApiStop := ((gx x0.Day.Trains x1.Train).bind fun x55 => ((gx x55.Stops x1.Off).bind fun x70 => some x70))
def GuideNetbehind (x0 : GuideNet) (x1 : GuideRide) : Option (List GuideRide) := ((GuideNetoff x0 x1).bind fun q53 => (bnd (GuideNetrides x0 q53.Station (w64 (q53.Arr + x0.least)) x1.Train) fun q60 => some q60))
def SlicesAppendSeqLguideRide_v1.loop1 : List GuideRide → (List GuideRide) → Option (List GuideRide)
  | [], q65 => some q65
  | x54 :: rest55, q65 => ((apd q65 [x54]).bind fun x76 => SlicesAppendSeqLguideRide_v1.loop1 rest55 x76)
def SlicesAppendSeqLguideRide_v1 (x0 : List GuideRide) (x1 : List GuideRide) : Option (List GuideRide) := ((SlicesAppendSeqLguideRide_v1.loop1 x1 x0).bind fun q65 => some q65)
def GuideNetends.loop2 (x0 : GuideNet) (k56 : Nat) : (List GuideRide) → (List GuideRide) → (List (List (GuidePlace × Bool))) → Option ((List GuideRide) × (List (List (GuidePlace × Bool))))
  | [], q89, q96 => some (q89, q96)
  | x81 :: rest82, q89, q96 => ((mgx 4 q96 ((k56 : Nat) : Int)).bind fun x105 => (if ((mget x105 (GuidePlace.mk x81.Train x81.Off)).getD false) then GuideNetends.loop2 x0 k56 rest82 q89 q96 else ((mgx 4 q96 ((k56 : Nat) : Int)).bind fun x114 => ((GuideNetbehind x0 x81).bind fun q121 => ((SlicesAppendSeqLguideRide_v1 q89 q121).bind fun q127 => GuideNetends.loop2 x0 k56 rest82 q127 (q96.set ((((k56 : Nat) : Int)).toNat) (mput x114 (GuidePlace.mk x81.Train x81.Off) true)))))))
def GuideNetends.loop1 (x0 : GuideNet) : Nat → Nat → (List GuideRide) → (List (List (GuidePlace × Bool))) → Option ((List GuideRide) × (List (List (GuidePlace × Bool))))
  | 0, _, q65, q69 => some (q65, q69)
  | rest58 + 1, k56, q65, q69 => ((mst 4 q69 ((k56 : Nat) : Int)).bind fun _ => ((GuideNetends.loop2 x0 k56 q65 [] (q69 ++ [[]])).bind fun q79 => match q79 with | (q89, q96) => GuideNetends.loop1 x0 rest58 (k56 + 1) q89 q96))
def GuideNetends (x0 : GuideNet) (x1 : List GuideRide) : Option (List (List (GuidePlace × Bool))) := ((GuideNetends.loop1 x0 4 0 x1 []).bind fun q55 => match q55 with | (_, q69) => ((mall 4 q69).bind fun _ => some q69))
def CmpisNaNint (x0 : Int) : Bool := (x0 != x0)
def CmpCompareint (x0 : Int) (x1 : Int) : Int := (if (CmpisNaNint x0) then (if (CmpisNaNint x1) then 0 else (-1)) else (if (CmpisNaNint x1) then 1 else (if decide (x0 < x1) then (-1) else (if decide (x0 > x1) then 1 else 0))))
def CmpOrint.loop1 : (List Int) → Out Int Unit
  | [] => (.next ())
  | x54 :: rest55 => (if (x54 != 0) then (.ret x54) else CmpOrint.loop1 rest55)
def CmpOrint (x0 : List Int) : Int := (bnd (CmpOrint.loop1 x0) fun q52 => match q52 with | .ret r => r | .next () => 0)
def GuidecomparePoints (x0 : GuidePoint) (x1 : GuidePoint) : Int := (CmpOrint [(CmpCompareint x0.Dep x1.Dep), (CmpCompareint x0.Arr x1.Arr), (CmpCompareint x0.Rides x1.Rides)])
def GuideNetpoints.loop1 (x0 : GuideNet) : List GuideRide → (List (Int × (List GuideRide))) → Option (List (Int × (List GuideRide)))
  | [], q73 => some q73
  | x62 :: rest63, q73 => ((GuideNeton x0 x62).bind fun q80 => ((GuideNeton x0 x62).bind fun q80 => (bnd ((mget q73 q80.Dep).getD []) fun x92 => ((apd x92 [x62]).bind fun x101 => GuideNetpoints.loop1 x0 rest63 (mput q73 q80.Dep x101)))))
def GuideNetpoints.loop4.step (x0 : GuideNet) (x2 : Int) (k127 : Int) (k177 : Nat) (k219 : GuidePlace) (_ : Bool) (q224 : List GuidePoint) (q231 : List (GuidePoint × Bool)) : Orc → Option ((List GuidePoint) × (List (GuidePoint × Bool))) := fun o => ((gx x0.Day.Trains k219.train).bind fun x246 => ((gx x246.Stops k219.off).bind fun x261 => (bnd ((if (x261.Station == x2) then !((mget q231 (GuidePoint.mk k127 x261.Arr ((k177 + 1 : Nat) : Int))).getD false) else false) : Bool) fun q276 => (((if q276 then ((apd q224 [(GuidePoint.mk k127 x261.Arr ((k177 + 1 : Nat) : Int))]).bind fun x294 => some (x294, (mput q231 (GuidePoint.mk k127 x261.Arr ((k177 + 1 : Nat) : Int)) true))) else some (q224, q231)) : Option ((List GuidePoint) × (List (GuidePoint × Bool)))).bind fun q280 => match q280 with | (q283, q290) => some (q283, q290)))))
def GuideNetpoints.loop4 (x0 : GuideNet) (x2 : Int) (k127 : Int) (k177 : Nat) (l : List (GuidePlace × Bool)) (q224 : List GuidePoint) (q231 : List (GuidePoint × Bool)) : Orc → Option ((List GuidePoint) × (List (GuidePoint × Bool))) := rngO (fun x st => GuideNetpoints.loop4.step x0 x2 k127 k177 x.1 x.2 st.1 st.2) l.length l (q224, q231)
def GuideNetpoints.loop3.step (x0 : GuideNet) (x2 : Int) (k127 : Int) (q159 : (List (List (GuidePlace × Bool)))) (k177 : Nat) (q182 : List GuidePoint) (q189 : List (GuidePoint × Bool)) : Orc → Option ((List GuidePoint) × (List (GuidePoint × Bool))) := fun o => ((gx q159 ((k177 : Nat) : Int)).bind fun x199 => (bindO (GuideNetpoints.loop4 x0 x2 k127 k177 x199 q182 q189) (fun q209 o => match q209 with | (q224, q231) => some (q224, q231)) o))
def GuideNetpoints.loop3 (x0 : GuideNet) (x2 : Int) (k127 : Int) (q159 : (List (List (GuidePlace × Bool)))) (n : Nat) (q182 : List GuidePoint) (q189 : List (GuidePoint × Bool)) : Orc → Option ((List GuidePoint) × (List (GuidePoint × Bool))) := cntO (fun x st => GuideNetpoints.loop3.step x0 x2 k127 q159 x st.1 st.2) n 0 (q182, q189)
def GuideNetpoints.loop2.step (x0 : GuideNet) (x2 : Int) (k127 : Int) (x128 : List GuideRide) (q132 : List GuidePoint) (q139 : List (GuidePoint × Bool)) : Orc → Option ((List GuidePoint) × (List (GuidePoint × Bool))) := fun o => ((GuideNetends x0 x128).bind fun q159 => (bindO (GuideNetpoints.loop3 x0 x2 k127 q159 4 q132 q139) (fun q167 o => match q167 with | (q182, q189) => some (q182, q189)) o))
def GuideNetpoints.loop2 (x0 : GuideNet) (x2 : Int) (l : List (Int × (List GuideRide))) (q132 : List GuidePoint) (q139 : List (GuidePoint × Bool)) : Orc → Option ((List GuidePoint) × (List (GuidePoint × Bool))) := rngO (fun x st => GuideNetpoints.loop2.step x0 x2 x.1 x.2 st.1 st.2) l.length l (q132, q139)
def GuideNetpoints.o (x0 : GuideNet) (x1 : Int) (x2 : Int) : Orc → Option (List GuidePoint) := fun o => (bnd (GuideNetrides x0 x1 0 (-1)) fun q54 => ((GuideNetpoints.loop1 x0 q54 []).bind fun q73 => (bindO (GuideNetpoints.loop2 x0 x2 q73 [] []) (fun q117 o => match q117 with | (q132, _) => ((srtF GuidecomparePoints q132).bind fun q303 => some q303)) o)))
noncomputable def GuideNetpoints (x0 : GuideNet) (x1 : Int) (x2 : Int) : Option (List GuidePoint) := same (GuideNetpoints.o x0 x1 x2)
def GuideProfile_1_v1 (x0 : GuidePoint) (y0 : GuidePoint) : Bool := (bnd ((if !((x0.Dep == y0.Dep) && ((x0.Arr == y0.Arr) && (x0.Rides == y0.Rides))) then (if decide (x0.Dep ≥ y0.Dep) then (if decide (x0.Arr ≤ y0.Arr) then decide (x0.Rides ≤ y0.Rides) else false) else false) else false) : Bool) fun q56 => q56)
def SlicesIndexFuncLguidePoint_v1.loop1 (y0 : GuidePoint) : (List GuidePoint) → Nat → Out Int Unit
  | [], _ => (.next ())
  | x54 :: rest55, k53 => (if (GuideProfile_1_v1 x54 y0) then (.ret ((k53 : Nat) : Int)) else SlicesIndexFuncLguidePoint_v1.loop1 y0 rest55 (k53 + 1))
def SlicesIndexFuncLguidePoint_v1 (x0 : List GuidePoint) (y0 : GuidePoint) : Int := (bnd (SlicesIndexFuncLguidePoint_v1.loop1 y0 x0 0) fun q52 => match q52 with | .ret r => r | .next () => (-1))
def SlicesContainsFuncLguidePoint_v1 (x0 : List GuidePoint) (y0 : GuidePoint) : Bool := decide ((SlicesIndexFuncLguidePoint_v1 x0 y0) ≥ 0)
def GuideProfile.loop1 (q56 : (List GuidePoint)) : Nat → Nat → (List GuidePoint) → Option (List GuidePoint)
  | 0, _, q79 => some q79
  | rest71 + 1, k69, q79 => ((gx q56 ((k69 : Nat) : Int)).bind fun x87 => (((if !(SlicesContainsFuncLguidePoint_v1 q56 x87) then ((apd q79 [x87]).bind fun x116 => some x116) else some q79) : Option (List GuidePoint)).bind fun q106 => GuideProfile.loop1 q56 rest71 (k69 + 1) q106))
noncomputable def GuideProfile (x0 : ApiDay) (x1 : Int) (x2 : Int) (x3 : Int) : Option ((List GuidePoint) × Int) := ((Guidecheck x0 x3 x1 x2 []).bind fun q52 => (if (q52 != 0) then some ([], q52) else ((GuideNetpoints (GuideNet.mk x0 x3) x1 x2).bind fun q56 => ((GuideProfile.loop1 q56 q56.length 0 []).bind fun q79 => some (q79, 0)))))
def SlicesCloneLguideRide (x0 : List GuideRide) : Option (List GuideRide) := ((apd [] x0).bind fun x56 => some x56)
def GuideAll_1_v1.loop1 (x0 : List GuideRide) (y1 : Int) (y2 : GuideNet) (y3 : Int) (self_GuideAll_1_v1 : (List GuideRide) → (List GuideRide) → (List GuideJourney) → Int → GuideNet → Int → (List (Ar3i64 × Bool)) → Option (Bool × (List (Ar3i64 × Bool)) × (List GuideJourney))) : List GuideRide → Bool → Bool → (List (Ar3i64 × Bool)) → (List GuideJourney) → Option (Out (Bool × Bool × (List (Ar3i64 × Bool)) × (List GuideJourney)) (Bool × Bool × (List (Ar3i64 × Bool)) × (List GuideJourney)))
  | [], q83, q84, q85, q86 => some (.next (q83, q84, q85, q86))
  | x72 :: rest73, q83, q84, q85, q86 => (if (((q86.length : Nat) : Int) == y1) then some (.ret (true, q84, q85, q86)) else ((SlicesCloneLguideRide x0).bind fun q98 => ((apd q98 [x72]).bind fun x107 => ((GuideNetoff y2 x72).bind fun q115 => (((if (q115.Station == y3) then ((apd q86 [(GuideJourney.mk x107)]).bind fun x139 => some (true, x139)) else some (q84, q86)) : Option (Bool × (List GuideJourney))).bind fun q125 => match q125 with | (q128, q129) => (bnd ((if (((x107).length : Int) == 4) then true else ((mget q85 (Ar3i64.mk x72.Train x72.Off ((x107).length : Int))).getD false)) : Bool) fun q150 => (if q150 then GuideAll_1_v1.loop1 x0 y1 y2 y3 self_GuideAll_1_v1 rest73 q83 q128 q85 q129 else ((GuideNetbehind y2 x72).bind fun q155 => ((self_GuideAll_1_v1 x107 q155 q129 y1 y2 y3 q85).bind fun q161 => (bnd ((if q161.1 then (true, q161.2.1) else (q128, (mput q161.2.1 (Ar3i64.mk x72.Train x72.Off ((x107).length : Int)) true))) : Bool × (List (Ar3i64 × Bool))) fun q171 => match q171 with | (q174, q175) => GuideAll_1_v1.loop1 x0 y1 y2 y3 self_GuideAll_1_v1 rest73 q83 q174 q175 q161.2.2))))))))))
def GuideAll_1_v1 : Nat → (List GuideRide) → (List GuideRide) → (List GuideJourney) → Int → GuideNet → Int → (List (Ar3i64 × Bool)) → Option (Bool × (List (Ar3i64 × Bool)) × (List GuideJourney))
  | 0, _, _, _, _, _, _, _ => none
  | fu + 1, x0, x1, y0, y1, y2, y3, y4_0 => ((GuideAll_1_v1.loop1 x0 y1 y2 y3 (GuideAll_1_v1 fu) x1 false false y4_0 y0).bind fun q71 => match q71 with | .ret (q83, _, q85, q86) => some (q83, q85, q86) | .next (_, q84, q85, q86) => some (q84, q85, q86))
def GuideAll (fu : Nat) (x0 : ApiDay) (x1 : Int) (x2 : Int) (x3 : Int) (x4 : Int) : Option ((List GuideJourney) × Int) := ((Guidecheck x0 x3 x1 x2 []).bind fun q54 => (if (q54 != 0) then some ([], q54) else (if !(Guidewithin x4 0 200) then some ([], 2) else (bnd (GuideNetrides (GuideNet.mk x0 x3) x1 0 (-1)) fun q67 => ((GuideAll_1_v1 fu [] q67 [] x4 (GuideNet.mk x0 x3) x2 []).bind fun q73 => some (q73.2.2, 0))))))
def Fishref2numbersIn.loop2 : (List ApiStop) → (List (List Int)) → Option (List (List Int))
  | [], q107 => some q107
  | x99 :: rest100, q107 => ((apd q107 [[x99.Station, x99.Track, x99.Arr, x99.Dep]]).bind fun x127 => Fishref2numbersIn.loop2 rest100 x127)
def Fishref2numbersIn.loop1 : (List ApiTrain) → (List (List Int)) → Option (List (List Int))
  | [], q64 => some q64
  | x56 :: rest57, q64 => ((apd q64 [[x56.No, x56.Stock]]).bind fun x90 => ((Fishref2numbersIn.loop2 x56.Stops x90).bind fun q107 => ((apd q107 x56.Legs).bind fun x133 => Fishref2numbersIn.loop1 rest57 x133)))
def Fishref2numbersIn (x0 : ApiDay) : Option (List (List Int)) := ((Fishref2numbersIn.loop1 x0.Trains []).bind fun q64 => ((apd q64 x0.Turns).bind fun x139 => some x139))
def Fishref2within (x0 : Int) (x1 : Int) (x2 : Int) : Bool := (bnd ((if decide (x0 ≥ x1) then decide (x0 ≤ x2) else false) : Bool) fun q55 => q55)
def Fishref2TextFault.loop2 : (List (List Int)) → Out Int Unit
  | [] => (.next ())
  | x94 :: rest95 => (if (((x94).length : Int) == 0) then (.ret 1) else Fishref2TextFault.loop2 rest95)
def Fishref2TextFault.loop3 : (List (List Int)) → Out Int Unit
  | [] => (.next ())
  | x115 :: rest116 => (if decide (((x115).length : Int) > 4) then (.ret 4) else Fishref2TextFault.loop3 rest116)
def Fishref2TextFault.loop1 : (List ApiTrain) → Out Int Unit
  | [] => (.next ())
  | x63 :: rest64 => (bnd ((if (((x63.Stops).length : Int) == 0) then true else (((x63.Legs).length : Int) != (w64 (((x63.Stops).length : Int) - 1)))) : Bool) fun q87 => (if q87 then (.ret 1) else (bnd (Fishref2TextFault.loop2 x63.Legs) fun q92 => match q92 with | .ret r => (.ret r) | .next () => (if decide (((x63.Stops).length : Int) > 8) then (.ret 4) else (bnd (Fishref2TextFault.loop3 x63.Legs) fun q113 => match q113 with | .ret r => (.ret r) | .next () => Fishref2TextFault.loop1 rest64)))))
def Fishref2TextFault.loop4 : (List (List Int)) → Out Int Unit
  | [] => (.next ())
  | x135 :: rest136 => (if (((x135).length : Int) == 0) then (.ret 1) else (if decide (((x135).length : Int) > 12) then (.ret 4) else Fishref2TextFault.loop4 rest136))
def Fishref2TextFault.loop6 : (List Int) → Out Int Unit
  | [] => (.next ())
  | x192 :: rest193 => (if !(Fishref2within x192 0 999999) then (.ret 2) else Fishref2TextFault.loop6 rest193)
def Fishref2TextFault.loop5 (q153 : (List (List Int))) : Nat → Nat → Option (Out Int Unit)
  | 0, _ => some (.next ())
  | rest167 + 1, k165 => ((gx q153 ((k165 : Nat) : Int)).bind fun x176 => (bnd (Fishref2TextFault.loop6 x176) fun q190 => match q190 with | .ret r => some (.ret r) | .next () => Fishref2TextFault.loop5 q153 rest167 (k165 + 1)))
def Fishref2TextFault (x0 : ApiDay) : Option Int := (bnd ((if decide (((x0.Trains).length : Int) > 12) then true else decide (((x0.Turns).length : Int) > 8)) : Bool) fun q56 => (if q56 then some 4 else (bnd (Fishref2TextFault.loop1 x0.Trains) fun q61 => match q61 with | .ret r => some r | .next () => (bnd (Fishref2TextFault.loop4 x0.Turns) fun q133 => match q133 with | .ret r => some r | .next () => ((Fishref2numbersIn x0).bind fun q153 => ((Fishref2TextFault.loop5 q153 q153.length 0).bind fun q164 => match q164 with | .ret r => some r | .next () => some 0))))))
def Fishref2GuideFault.loop2 (x58 : ApiTrain) : (List ApiTrain) → Out Int Unit
  | [] => (.next ())
  | x91 :: rest92 => (if (x91.No == x58.No) then (.ret 6) else Fishref2GuideFault.loop2 x58 rest92)
def Fishref2GuideFault.loop3 (x58 : ApiTrain) : (List ApiStop) → Nat → Option (Out Int Unit)
  | [], _ => some (.next ())
  | x116 :: rest117, k115 => (bnd ((if !(Fishref2within x116.Station 0 11) then true else (if !(Fishref2within x116.Arr 0 28800) then true else !(Fishref2within x116.Dep 0 28800))) : Bool) fun q134 => (if q134 then some (.ret 2) else (((if decide (x116.Dep < x116.Arr) then some true else (if decide (((k115 : Nat) : Int) > 0) then ((gx x58.Stops (w64 (((k115 : Nat) : Int) - 1))).bind fun x147 => some (decide (x116.Arr ≤ x147.Dep))) else some false)) : Option Bool).bind fun q143 => (if q143 then some (.ret 5) else Fishref2GuideFault.loop3 x58 rest117 (k115 + 1)))))
def Fishref2GuideFault.loop1 (x0 : ApiDay) : (List ApiTrain) → Nat → Option (Out Int Unit)
  | [], _ => some (.next ())
  | x58 :: rest59, k57 => (if !(Fishref2within x58.No 1 9999) then some (.ret 2) else ((cutl x0.Trains 0 ((k57 : Nat) : Int)).bind fun x79 => (bnd (Fishref2GuideFault.loop2 x58 x79) fun q89 => match q89 with | .ret r => some (.ret r) | .next () => (if decide (((x58.Stops).length : Int) < 2) then some (.ret 1) else ((Fishref2GuideFault.loop3 x58 x58.Stops 0).bind fun q114 => match q114 with | .ret r => some (.ret r) | .next () => Fishref2GuideFault.loop1 x0 rest59 (k57 + 1))))))
def Fishref2GuideFault (x0 : ApiDay) : Option Int := ((Fishref2TextFault x0).bind fun q52 => (if (q52 != 0) then some q52 else ((Fishref2GuideFault.loop1 x0 x0.Trains 0).bind fun q56 => match q56 with | .ret r => some r | .next () => some 0)))
def Fishref2SearchFault (x0 : Int) (x1 : Int) (x2 : Int) (x3 : Int) (x4 : Bool) (x5 : Bool) : Int := (if !(Fishref2within x0 0 28800) then 2 else (bnd ((if !(Fishref2within x1 0 11) then true else (if x4 then !(Fishref2within x2 0 11) else false)) : Bool) fun q56 => (if q56 then 3 else (bnd ((if x4 then (x1 == x2) else false) : Bool) fun q65 => (if q65 then 1 else (bnd ((if x5 then !(Fishref2within x3 0 28800) else false) : Bool) fun q73 => (if q73 then 2 else 0)))))))
def Fishlaw2small_1 (x0 : Int) (x1 : Int) (x2 : Int) : ApiStop := (ApiStop.mk x0 0 x1 x2)
def Fishlaw2small : ApiDay := (bnd (Fishlaw2small_1 0 100 100) fun q52 => (bnd (Fishlaw2small_1 1 200 230) fun q58 => (bnd (Fishlaw2small_1 2 300 300) fun q64 => (bnd (Fishlaw2small_1 1 250 250) fun q94 => (bnd (Fishlaw2small_1 3 400 400) fun q100 => (ApiDay.mk [(ApiTrain.mk 1 0 [q52, q58, q64] [[0], [1]]), (ApiTrain.mk 2 0 [q94, q100] [[2]])] []))))))
def GuideNetearliest_1_v1 (x0 : GuidePoint) (y0 : Int) : Bool := decide (x0.Dep < y0)
def SlicesIndexFuncLguidePoint_v2.loop1 (y0 : Int) : (List GuidePoint) → Nat → Out Int Unit
  | [], _ => (.next ())
  | x54 :: rest55, k53 => (if (GuideNetearliest_1_v1 x54 y0) then (.ret ((k53 : Nat) : Int)) else SlicesIndexFuncLguidePoint_v2.loop1 y0 rest55 (k53 + 1))
def SlicesIndexFuncLguidePoint_v2 (x0 : List GuidePoint) (y0 : Int) : Int := (bnd (SlicesIndexFuncLguidePoint_v2.loop1 y0 x0 0) fun q52 => match q52 with | .ret r => r | .next () => (-1))
def SlicesDeleteFuncLguidePoint_v1.loop1 (x0 : List GuidePoint) (y0 : Int) : Nat → Int → Int → (List GuidePoint) → Option (Int × Int × (List GuidePoint))
  | 0, _, _, _ => none
  | n58 + 1, q62, q63, q64 => (if decide (q63 < ((x0.length : Nat) : Int)) then ((gx q64 q63).bind fun x72 => (((if !(GuideNetearliest_1_v1 x72 y0) then ((ix q64 q62).bind fun _ => ((sx q64 q62 x72).bind fun x101 => some (w64 (q62 + 1), x101))) else some (q62, q64)) : Option (Int × (List GuidePoint))).bind fun q84 => match q84 with | (q87, q88) => SlicesDeleteFuncLguidePoint_v1.loop1 x0 y0 n58 q87 (w64 (q63 + 1)) q88)) else some (q62, q63, q64))
def SlicesDeleteFuncLguidePoint_v1 (fu : Nat) (x0 : List GuidePoint) (y0 : Int) : Option (List GuidePoint) := (if ((SlicesIndexFuncLguidePoint_v2 x0 y0) == (-1)) then some x0 else ((SlicesDeleteFuncLguidePoint_v1.loop1 x0 y0 fu (SlicesIndexFuncLguidePoint_v2 x0 y0) (w64 ((SlicesIndexFuncLguidePoint_v2 x0 y0) + 1)) x0).bind fun q57 => match q57 with | (q62, _, q64) => ((cutl q64 0 q62).bind fun x106 => some x106)))
def GuideNetearliest_2 (x0 : GuidePoint) (x1 : GuidePoint) : Int := (CmpOrint [(CmpCompareint x0.Arr x1.Arr), (CmpCompareint x0.Rides x1.Rides), (CmpCompareint x1.Dep x0.Dep)])
def SlicesMinFuncLguidePoint_v1.loop1 (x0 : List GuidePoint) : Nat → Int → Int → Int → Int → Option (Int × Int × Int × Int)
  | 0, _, _, _, _ => none
  | n65 + 1, q69, q70, q71, q72 => (if decide (q69 < ((x0).length : Int)) then ((gx x0 q69).bind fun x75 => (((if decide ((GuideNetearliest_2 x75 (GuidePoint.mk q70 q71 q72)) < 0) then ((gx x0 q69).bind fun x93 => some (x93.Dep, x93.Arr, x93.Rides)) else some (q70, q71, q72)) : Option (Int × Int × Int)).bind fun q85 => match q85 with | (q88, q89, q90) => SlicesMinFuncLguidePoint_v1.loop1 x0 n65 (w64 (q69 + 1)) q88 q89 q90)) else some (q69, q70, q71, q72))
def SlicesMinFuncLguidePoint_v1 (fu : Nat) (x0 : List GuidePoint) : Option GuidePoint := (if decide (((x0).length : Int) < 1) then none else ((gx x0 0).bind fun x53 => ((SlicesMinFuncLguidePoint_v1.loop1 x0 fu 1 x53.Dep x53.Arr x53.Rides).bind fun q64 => match q64 with | (_, q70, q71, q72) => some (GuidePoint.mk q70 q71 q72))))
def GuideNetleastOf_1_v1.loop1 (x0 : List GuideRide) (y0 : GuideNet) (y1 : GuidePoint) (y2 : Int) (self_GuideNetleastOf_1_v1 : (List GuideRide) → GuideNet → GuidePoint → Int → (List (Ar3i64 × Bool)) → Option ((List GuideRide) × (List (Ar3i64 × Bool)))) : List GuideRide → (List GuideRide) → (List (Ar3i64 × Bool)) → Option (Out ((List GuideRide) × (List (Ar3i64 × Bool))) ((List GuideRide) × (List (Ar3i64 × Bool))))
  | [], q110, q115 => some (.next (q110, q115))
  | x99 :: rest100, q110, q115 => ((SlicesCloneLguideRide x0).bind fun q120 => ((apd q120 [x99]).bind fun x129 => ((self_GuideNetleastOf_1_v1 x129 y0 y1 y2 q115).bind fun q141 => (if !q141.1.isEmpty then some (.ret (q141.1, q141.2)) else GuideNetleastOf_1_v1.loop1 x0 y0 y1 y2 self_GuideNetleastOf_1_v1 rest100 q110 q141.2))))
def GuideNetleastOf_1_v1 : Nat → (List GuideRide) → GuideNet → GuidePoint → Int → (List (Ar3i64 × Bool)) → Option ((List GuideRide) × (List (Ar3i64 × Bool)))
  | 0, _, _, _, _, _ => none
  | fu + 1, x0, y0, y1, y2, y3_0 => ((gx x0 (w64 (((x0).length : Int) - 1))).bind fun x55 => ((GuideNetoff y0 x55).bind fun q65 => (if ((w64 (y1.Rides - ((x0).length : Int))) == 0) then (bnd ((if (q65.Station == y2) then (q65.Arr == y1.Arr) else false) : Bool) fun q77 => (if q77 then ((nz x0).bind fun _ => some (x0, y3_0)) else some ([], y3_0))) else (bnd ((if ((mget y3_0 (Ar3i64.mk x55.Train x55.Off (w64 (y1.Rides - ((x0).length : Int))))).getD false) then true else decide (q65.Arr > y1.Arr)) : Bool) fun q87 => (if q87 then some ([], y3_0) else ((GuideNetbehind y0 x55).bind fun q91 => ((GuideNetleastOf_1_v1.loop1 x0 y0 y1 y2 (GuideNetleastOf_1_v1 fu) q91 [] y3_0).bind fun q98 => match q98 with | .ret (q110, q115) => some (q110, q115) | .next (_, q115) => some ([], (mput q115 (Ar3i64.mk x55.Train x55.Off (w64 (y1.Rides - ((x0).length : Int)))) true)))))))))
def GuideNetleastOf.loop1 (x0 : GuideNet) (x2 : Int) (x3 : GuidePoint) (fu : Nat) : List GuideRide → (List GuideRide) → (List (Ar3i64 × Bool)) → Option (Out ((List GuideRide) × (List (Ar3i64 × Bool))) ((List GuideRide) × (List (Ar3i64 × Bool))))
  | [], q77, q81 => some (.next (q77, q81))
  | x66 :: rest67, q77, q81 => ((GuideNeton x0 x66).bind fun q86 => (if (q86.Dep != x3.Dep) then GuideNetleastOf.loop1 x0 x2 x3 fu rest67 q77 q81 else ((GuideNetleastOf_1_v1 fu [x66] x0 x3 x2 q81).bind fun q99 => (if !q99.1.isEmpty then some (.ret (q99.1, q99.2)) else GuideNetleastOf.loop1 x0 x2 x3 fu rest67 q77 q99.2))))
def GuideNetleastOf (fu : Nat) (x0 : GuideNet) (x1 : Int) (x2 : Int) (x3 : GuidePoint) : Option GuideJourney := (bnd (GuideNetrides x0 x1 x3.Dep (-1)) fun q58 => ((GuideNetleastOf.loop1 x0 x2 x3 fu q58 [] []).bind fun q65 => match q65 with | .ret (q77, _) => some (GuideJourney.mk q77) | .next (_, _) => some (GuideJourney.mk [])))
noncomputable def GuideNetearliest (fu : Nat) (x0 : GuideNet) (x1 : Int) (x2 : Int) (x3 : Int) : Option (GuideJourney × Bool) := ((GuideNetpoints x0 x1 x3).bind fun q54 => ((SlicesDeleteFuncLguidePoint_v1 fu q54 x2).bind fun q64 => (if (((q64.length : Nat) : Int) == 0) then some ((GuideJourney.mk []), false) else ((SlicesMinFuncLguidePoint_v1 fu q64).bind fun q76 => ((GuideNetleastOf fu x0 x1 x3 q76).bind fun q83 => some (q83, true))))))
noncomputable def GuideEarliest (fu : Nat) (x0 : ApiDay) (x1 : Int) (x2 : Int) (x3 : Int) (x4 : Int) : Option (GuideJourney × Int) := ((Guidecheck x0 x4 x1 x3 [x2]).bind fun q59 => (if (q59 != 0) then some ((GuideJourney.mk []), q59) else ((GuideNetearliest fu (GuideNet.mk x0 x4) x1 x2 x3).bind fun q62 => (if !q62.2 then some ((GuideJourney.mk []), 9) else some (q62.1, 0)))))
def SlicesEqualLguideRide.loop1 (x1 : List GuideRide) : (List GuideRide) → Nat → Option (Out Bool Unit)
  | [], _ => some (.next ())
  | x55 :: rest56, k54 => ((gx x1 ((k54 : Nat) : Int)).bind fun x68 => (if !((x55.Train == x68.Train) && ((x55.On == x68.On) && (x55.Off == x68.Off))) then some (.ret false) else SlicesEqualLguideRide.loop1 x1 rest56 (k54 + 1)))
def SlicesEqualLguideRide (x0 : List GuideRide) (x1 : List GuideRide) : Option Bool := (if (((x0).length : Int) != ((x1).length : Int)) then some false else ((SlicesEqualLguideRide.loop1 x1 x0 0).bind fun q53 => match q53 with | .ret r => some r | .next () => some true))
noncomputable def Fishlaw2guides (fu : Nat) : Option Bool := (bnd (Fishlaw2small) fun q51 => ((GuideEarliest fu q51 0 0 3 40).bind fun q63 => (((if (q63.2 == 0) then ((SlicesEqualLguideRide q63.1.Rides [(GuideRide.mk 0 0 1), (GuideRide.mk 1 0 1)]).bind fun q86 => some q86) else some false) : Option Bool).bind fun q77 => some q77)))
def Fishref2JourneyFault.loop1 (x0 : ApiDay) (x1 : GuideJourney) (x2 : Int) (x3 : Bool) : (List GuideRide) → Nat → Option (Out Int Unit)
  | [], _ => some (.next ())
  | x58 :: rest59, k57 => (bnd ((if decide (x58.Train < 0) then true else decide (x58.Train ≥ ((x0.Trains).length : Int))) : Bool) fun q76 => (if q76 then some (.ret 3) else ((gx x0.Trains x58.Train).bind fun x80 => (bnd ((if decide (x58.On < 0) then true else (if decide (x58.On ≥ ((x80.Stops).length : Int)) then true else (if decide (x58.Off < 0) then true else decide (x58.Off ≥ ((x80.Stops).length : Int))))) : Bool) fun q99 => (if q99 then some (.ret 3) else (if decide (x58.On ≥ x58.Off) then some (.ret 1) else (if (((k57 : Nat) : Int) == 0) then Fishref2JourneyFault.loop1 x0 x1 x2 x3 rest59 (k57 + 1) else ((gx x1.Rides (w64 (((k57 : Nat) : Int) - 1))).bind fun x107 => ((gx x0.Trains x107.Train).bind fun x118 => ((gx x118.Stops x107.Off).bind fun x133 => (((if (x107.Train == x58.Train) then some true else ((gx x80.Stops x58.On).bind fun x150 => some (x150.Station != x133.Station))) : Option Bool).bind fun q147 => (if q147 then some (.ret 1) else (((if x3 then ((gx x80.Stops x58.On).bind fun x167 => some (decide (x167.Dep < (w64 (x133.Arr + x2))))) else some false) : Option Bool).bind fun q164 => (if q164 then some (.ret 13) else Fishref2JourneyFault.loop1 x0 x1 x2 x3 rest59 (k57 + 1)))))))))))))))
def Fishref2JourneyFault (x0 : ApiDay) (x1 : GuideJourney) (x2 : Int) (x3 : Bool) : Option Int := (if !(Fishref2within x2 0 28800) then some 2 else (if !(Fishref2within ((x1.Rides).length : Int) 1 4) then some 4 else ((Fishref2JourneyFault.loop1 x0 x1 x2 x3 x1.Rides 0).bind fun q56 => match q56 with | .ret r => some r | .next () => some 0)))
def Fishref2AllOf_1_v1.loop3 (x0 : List GuideRide) (y0 : ApiDay) (y1 : Int) (y3 : Int) (y4 : Int) (self_Fishref2AllOf_1_v1 : (List GuideRide) → ApiDay → Int → (List GuideJourney) → Int → Int → Option (List GuideJourney)) (x155 : ApiTrain) (k154 : Nat) (k184 : Nat) : Nat → Int → (List GuideJourney) → Option (Int × (List GuideJourney))
  | 0, _, _ => none
  | n215 + 1, q219, q220 => (if decide (q219 < ((x155.Stops).length : Int)) then ((SlicesCloneLguideRide x0).bind fun q229 => ((apd q229 [(GuideRide.mk ((k154 : Nat) : Int) ((k184 : Nat) : Int) q219)]).bind fun x238 => (((if (((x238).length : Int) == 1) then some true else ((cutl x238 (w64 (((x238).length : Int) - 2)) ((x238).length : Int)).bind fun x254 => ((Fishref2JourneyFault y0 (GuideJourney.mk x254) y4 true).bind fun q263 => some (q263 == 0)))) : Option Bool).bind fun q251 => (if q251 then ((self_Fishref2AllOf_1_v1 x238 y0 y1 q220 y3 y4).bind fun q266 => Fishref2AllOf_1_v1.loop3 x0 y0 y1 y3 y4 self_Fishref2AllOf_1_v1 x155 k154 k184 n215 (w64 (q219 + 1)) q266) else Fishref2AllOf_1_v1.loop3 x0 y0 y1 y3 y4 self_Fishref2AllOf_1_v1 x155 k154 k184 n215 (w64 (q219 + 1)) q220)))) else some (q219, q220))
def Fishref2AllOf_1_v1.loop2 (x0 : List GuideRide) (y0 : ApiDay) (y1 : Int) (y3 : Int) (y4 : Int) (fu : Nat) (self_Fishref2AllOf_1_v1 : (List GuideRide) → ApiDay → Int → (List GuideJourney) → Int → Int → Option (List GuideJourney)) (x155 : ApiTrain) (k154 : Nat) : (List ApiStop) → Nat → (List GuideJourney) → Option (List GuideJourney)
  | [], _, q193 => some q193
  | x185 :: rest186, k184, q193 => (bnd ((if (((x0).length : Int) == 0) then (x185.Station != y3) else false) : Bool) fun q205 => (if q205 then Fishref2AllOf_1_v1.loop2 x0 y0 y1 y3 y4 fu self_Fishref2AllOf_1_v1 x155 k154 rest186 (k184 + 1) q193 else ((Fishref2AllOf_1_v1.loop3 x0 y0 y1 y3 y4 self_Fishref2AllOf_1_v1 x155 k154 k184 fu ((k184 + 1 : Nat) : Int) q193).bind fun q214 => match q214 with | (_, q220) => Fishref2AllOf_1_v1.loop2 x0 y0 y1 y3 y4 fu self_Fishref2AllOf_1_v1 x155 k154 rest186 (k184 + 1) q220)))
def Fishref2AllOf_1_v1.loop1 (x0 : List GuideRide) (y0 : ApiDay) (y1 : Int) (y3 : Int) (y4 : Int) (fu : Nat) (self_Fishref2AllOf_1_v1 : (List GuideRide) → ApiDay → Int → (List GuideJourney) → Int → Int → Option (List GuideJourney)) : (List ApiTrain) → Nat → (List GuideJourney) → Option (List GuideJourney)
  | [], _, q163 => some q163
  | x155 :: rest156, k154, q163 => ((Fishref2AllOf_1_v1.loop2 x0 y0 y1 y3 y4 fu self_Fishref2AllOf_1_v1 x155 k154 x155.Stops 0 q163).bind fun q193 => Fishref2AllOf_1_v1.loop1 x0 y0 y1 y3 y4 fu self_Fishref2AllOf_1_v1 rest156 (k154 + 1) q193)
def Fishref2AllOf_1_v1 : Nat → (List GuideRide) → ApiDay → Int → (List GuideJourney) → Int → Int → Option (List GuideJourney)
  | 0, _, _, _, _, _, _ => none
  | fu + 1, x0, y0, y1, y2, y3, y4 => (((if decide (((x0).length : Int) > 0) then ((gx x0 (w64 (((x0).length : Int) - 1))).bind fun x78 => ((gx y0.Trains x78.Train).bind fun x88 => ((gx x88.Stops x78.Off).bind fun x103 => (bnd ((if decide (y1 < 0) then true else (x103.Station == y1)) : Bool) fun q116 => (((if q116 then ((SlicesCloneLguideRide x0).bind fun q133 => ((apd y2 [(GuideJourney.mk q133)]).bind fun x145 => some x145)) else some y2) : Option (List GuideJourney)).bind fun q123 => some q123))))) else some y2) : Option (List GuideJourney)).bind fun q69 => (if (((x0).length : Int) == 4) then some q69 else ((Fishref2AllOf_1_v1.loop1 x0 y0 y1 y3 y4 fu (Fishref2AllOf_1_v1 fu) y0.Trains 0 q69).bind fun q163 => some q163)))
def Fishref2AllOf (fu : Nat) (x0 : ApiDay) (x1 : Int) (x2 : Int) (x3 : Int) : Option (List GuideJourney) := ((Fishref2AllOf_1_v1 fu [] x0 x2 [] x1 x3).bind fun q58 => some q58)
def Fishref2Leaves (x0 : ApiDay) (x1 : GuideJourney) : Option Int := ((gx x1.Rides 0).bind fun x53 => ((gx x0.Trains x53.Train).bind fun x63 => ((gx x63.Stops x53.On).bind fun x78 => some x78.Dep)))
def Fishref2Arrives (x0 : ApiDay) (x1 : GuideJourney) : Option Int := ((gx x1.Rides (w64 (((x1.Rides).length : Int) - 1))).bind fun x53 => ((gx x0.Trains x53.Train).bind fun x63 => ((gx x63.Stops x53.Off).bind fun x78 => some x78.Arr)))
def SlicesIndexLguidePoint.loop1 (x1 : GuidePoint) : (List GuidePoint) → Nat → Out Int Unit
  | [], _ => (.next ())
  | x55 :: rest56, k54 => (if ((x1.Dep == x55.Dep) && ((x1.Arr == x55.Arr) && (x1.Rides == x55.Rides))) then (.ret ((k54 : Nat) : Int)) else SlicesIndexLguidePoint.loop1 x1 rest56 (k54 + 1))
def SlicesIndexLguidePoint (x0 : List GuidePoint) (x1 : GuidePoint) : Int := (bnd (SlicesIndexLguidePoint.loop1 x1 x0 0) fun q53 => match q53 with | .ret r => r | .next () => (-1))
def SlicesContainsLguidePoint (x0 : List GuidePoint) (x1 : GuidePoint) : Bool := decide ((SlicesIndexLguidePoint x0 x1) ≥ 0)
def SlicesCompareLint.loop1 (x1 : List Int) : (List Int) → Nat → Option (Out Int Unit)
  | [], _ => some (.next ())
  | x54 :: rest55, k53 => (if decide (((k53 : Nat) : Int) ≥ ((x1).length : Int)) then some (.ret 1) else ((gx x1 ((k53 : Nat) : Int)).bind fun x68 => (if ((CmpCompareint x54 x68) != 0) then some (.ret (CmpCompareint x54 x68)) else SlicesCompareLint.loop1 x1 rest55 (k53 + 1))))
def SlicesCompareLint (x0 : List Int) (x1 : List Int) : Option Int := ((SlicesCompareLint.loop1 x1 x0 0).bind fun q52 => match q52 with | .ret r => some r | .next () => (if decide (((x0).length : Int) < ((x1).length : Int)) then some (-1) else some 0))
def Fishref2ProfileOf_1 (x0 : GuidePoint) (x1 : GuidePoint) : Option Int := ((SlicesCompareLint [x0.Dep, x0.Arr, x0.Rides] [x1.Dep, x1.Arr, x1.Rides]).bind fun q65 => some q65)
def Fishref2ProfileOf_1T (x y : GuidePoint) : Int := (Fishref2ProfileOf_1 x y).getD 0
def Fishref2ProfileOf.loop1 (x0 : ApiDay) (q54 : (List GuideJourney)) : Nat → Nat → (List GuidePoint) → Option (List GuidePoint)
  | 0, _, q76 => some q76
  | rest68 + 1, k66, q76 => ((gx q54 ((k66 : Nat) : Int)).bind fun x84 => ((Fishref2Leaves x0 x84).bind fun q99 => ((Fishref2Arrives x0 x84).bind fun q101 => ((apd q76 [(GuidePoint.mk q99 q101 ((x84.Rides).length : Int))]).bind fun x104 => Fishref2ProfileOf.loop1 x0 q54 rest68 (k66 + 1) x104))))
def Fishref2ProfileOf.loop3 (q76 : List GuidePoint) (x130 : GuidePoint) : Nat → Nat → Bool → Option Bool
  | 0, _, q153 => some q153
  | rest145 + 1, k143, q153 => ((gx q76 ((k143 : Nat) : Int)).bind fun x155 => (bnd ((if !((x155.Dep == x130.Dep) && ((x155.Arr == x130.Arr) && (x155.Rides == x130.Rides))) then (if decide (x155.Dep ≥ x130.Dep) then (if decide (x155.Arr ≤ x130.Arr) then decide (x155.Rides ≤ x130.Rides) else false) else false) else false) : Bool) fun q170 => (bnd ((if q170 then false else q153) : Bool) fun q179 => Fishref2ProfileOf.loop3 q76 x130 rest145 (k143 + 1) q179)))
def Fishref2ProfileOf.loop2 (q76 : List GuidePoint) : Nat → Nat → (List GuidePoint) → Option (List GuidePoint)
  | 0, _, q122 => some q122
  | rest114 + 1, k112, q122 => ((gx q76 ((k112 : Nat) : Int)).bind fun x130 => ((Fishref2ProfileOf.loop3 q76 x130 q76.length 0 true).bind fun q153 => (bnd ((if q153 then !(SlicesContainsLguidePoint q122 x130) else false) : Bool) fun q186 => (((if q186 then ((apd q122 [x130]).bind fun x207 => some x207) else some q122) : Option (List GuidePoint)).bind fun q197 => Fishref2ProfileOf.loop2 q76 rest114 (k112 + 1) q197))))
def Fishref2ProfileOf (fu : Nat) (x0 : ApiDay) (x1 : Int) (x2 : Int) (x3 : Int) : Option (List GuidePoint) := ((Fishref2AllOf fu x0 x1 x2 x3).bind fun q54 => ((Fishref2ProfileOf.loop1 x0 q54 q54.length 0 []).bind fun q76 => ((Fishref2ProfileOf.loop2 q76 q76.length 0 []).bind fun q122 => ((srtF Fishref2ProfileOf_1T q122).bind fun q216 => some q216))))
def SlicesEqualLguidePoint.loop1 (x1 : List GuidePoint) : (List GuidePoint) → Nat → Option (Out Bool Unit)
  | [], _ => some (.next ())
  | x55 :: rest56, k54 => ((gx x1 ((k54 : Nat) : Int)).bind fun x68 => (if !((x55.Dep == x68.Dep) && ((x55.Arr == x68.Arr) && (x55.Rides == x68.Rides))) then some (.ret false) else SlicesEqualLguidePoint.loop1 x1 rest56 (k54 + 1)))
def SlicesEqualLguidePoint (x0 : List GuidePoint) (x1 : List GuidePoint) : Option Bool := (if (((x0).length : Int) != ((x1).length : Int)) then some false else ((SlicesEqualLguidePoint.loop1 x1 x0 0).bind fun q53 => match q53 with | .ret r => some r | .next () => some true))
def Fishlaw2sameJourney (x0 : GuideJourney) (x1 : GuideJourney) : Option Bool := ((SlicesEqualLguideRide x0.Rides x1.Rides).bind fun q53 => some q53)
def SlicesEqualFuncLguideJourney_v1.loop1 (x1 : List GuideJourney) : (List GuideJourney) → Nat → Option (Out Bool Unit)
  | [], _ => some (.next ())
  | x55 :: rest56, k54 => ((gx x1 ((k54 : Nat) : Int)).bind fun x72 => ((Fishlaw2sameJourney x55 x72).bind fun q85 => (if !q85 then some (.ret false) else SlicesEqualFuncLguideJourney_v1.loop1 x1 rest56 (k54 + 1))))
def SlicesEqualFuncLguideJourney_v1 (x0 : List GuideJourney) (x1 : List GuideJourney) : Option Bool := (if (((x0).length : Int) != ((x1).length : Int)) then some false else ((SlicesEqualFuncLguideJourney_v1.loop1 x1 x0 0).bind fun q53 => match q53 with | .ret r => some r | .next () => some true))
noncomputable def Fishlaw2GuideProfiles (fu : Nat) (x0 : ApiDay) (x1 : Int) (x2 : Int) (x3 : Int) (x4 : Int) : Option Bool := ((GuideProfile x0 x1 x2 x3).bind fun q52 => ((GuideAll fu x0 x1 x2 x3 x4).bind fun q62 => ((Fishref2GuideFault x0).bind fun q72 => (bnd ((if (q72 == 0) then (Fishref2SearchFault x3 x1 x2 0 true false) else q72) : Int) fun q78 => (if (q78 != 0) then ((((Fishlaw2guides fu).bind fun q88 => (if q88 then (if (q52.2 == q78) then (if (q62.2 == q78) then some ((w64 (((q52.1.length : Nat) : Int) + ((q62.1.length : Nat) : Int))) == 0) else some false) else some false) else some false)) : Option Bool).bind fun q86 => some q86) else ((((Fishlaw2guides fu).bind fun q99 => (if !q99 then some true else (if (q52.2 != 0) then some true else ((Fishref2ProfileOf fu x0 x1 x2 x3).bind fun q103 => ((SlicesEqualLguidePoint q52.1 q103).bind fun q113 => some !q113))))) : Option Bool).bind fun q97 => (if q97 then some false else (bnd ((if decide (x4 < 0) then true else decide (x4 > 200)) : Bool) fun q128 => (if q128 then (bnd ((if (q62.2 == 2) then (((q62.1.length : Nat) : Int) == 0) else false) : Bool) fun q136 => some q136) else ((Fishref2AllOf fu x0 x1 x2 x3).bind fun q139 => (((if (q62.2 == 0) then ((cutl q139 0 (mn x4 ((q139.length : Nat) : Int))).bind fun x159 => ((SlicesEqualFuncLguideJourney_v1 q62.1 x159).bind fun q168 => some q168)) else some false) : Option Bool).bind fun q153 => some q153)))))))))))
end Go.Fp
