/- The mirrors of the functions that TopTicketed reaches: plain Lean functions on data. No condition. -/
import Derived.Test.YtngamgkmhgmmjaaGreatDoorFpAllT
import Derived.Test.YtngamgkmhgmmjaaGreatDoorFpInD
import Derived.Test.YtngamgkmhgmmjaaGreatDoorFpErr
namespace Go.Fp
structure ApiStop where
  Station : Int
  Track : Int
  Arr : Int
  Dep : Int
  deriving DecidableEq, Inhabited
-- ApiStop is of one size
def InApiStop (x : ApiStop) : Prop := inI x.Station ∧ inI x.Track ∧ inI x.Arr ∧ inI x.Dep
def ApiStop.cells (x : ApiStop) : List Go.Value := [.int .i64 x.Station, .int .i64 x.Track, .int .i64 x.Arr, .int .i64 x.Dep]
def RApiStop : Rd ApiStop := fun _ cs x => cs = x.cells
theorem RApiStop.mono : Rmono RApiStop := fun _ _ _ _ _ h => h
theorem RApiStop.one : Rone RApiStop := by intro s cs x h; subst h; rfl

structure ApiTrain where
  No : Int
  Stock : Int
  Stops : List ApiStop
  Legs : List (List Int)
  deriving DecidableEq, Inhabited
def InApiTrain (x : ApiTrain) : Prop := inI x.No ∧ inI x.Stock ∧ (inL InApiStop) x.Stops ∧ (inL (inL inI)) x.Legs
def RApiTrain : Rd ApiTrain := fun s cs x => ∃ a0 c0 a1 c1, cs = [.int .i64 x.No, .int .i64 x.Stock, .slice a0 x.Stops.length c0, .slice a1 x.Legs.length c1] ∧ Sl 4 RApiStop s a0 c0 x.Stops ∧ Sl 1 (RL 1 (RI .i64)) s a1 c1 x.Legs
theorem RApiTrain.one : Rone RApiTrain := by rintro s cs x ⟨a0, c0, a1, c1, rfl, _⟩; rfl
theorem RApiTrain.mono : Rmono RApiTrain := fun _ _ h _ _ ⟨a0, c0, a1, c1, e, h0, h1⟩ => ⟨a0, c0, a1, c1, e, h0.mono RApiStop.mono h, h1.mono (RL.mono RI.mono) h⟩

structure ApiDay where
  Trains : List ApiTrain
  Turns : List (List Int)
  deriving DecidableEq, Inhabited
def InApiDay (x : ApiDay) : Prop := (inL InApiTrain) x.Trains ∧ (inL (inL inI)) x.Turns
def RApiDay : Rd ApiDay := fun s cs x => ∃ a0 c0 a1 c1, cs = [.slice a0 x.Trains.length c0, .slice a1 x.Turns.length c1] ∧ Sl 4 RApiTrain s a0 c0 x.Trains ∧ Sl 1 (RL 1 (RI .i64)) s a1 c1 x.Turns
theorem RApiDay.one : Rone RApiDay := by rintro s cs x ⟨a0, c0, a1, c1, rfl, _⟩; rfl
theorem RApiDay.mono : Rmono RApiDay := fun _ _ h _ _ ⟨a0, c0, a1, c1, e, h0, h1⟩ => ⟨a0, c0, a1, c1, e, h0.mono RApiTrain.mono h, h1.mono (RL.mono RI.mono) h⟩

structure FareBand where
  Upto : Int
  Price : Int
  deriving DecidableEq, Inhabited
-- FareBand is of one size
def InFareBand (x : FareBand) : Prop := inI x.Upto ∧ inI x.Price
def FareBand.cells (x : FareBand) : List Go.Value := [.int .i64 x.Upto, .int .i64 x.Price]
def RFareBand : Rd FareBand := fun _ cs x => cs = x.cells
theorem RFareBand.mono : Rmono RFareBand := fun _ _ _ _ _ h => h
theorem RFareBand.one : Rone RFareBand := by intro s cs x h; subst h; rfl

structure FareCond where
  Kind : Int
  A : Int
  B : Int
  Kids : List FareCond
instance : Inhabited FareCond := ⟨⟨0, 0, 0, []⟩⟩
mutual
def szFareCond : FareCond → Nat
  | ⟨_, _, _, k⟩ => szsFareCond k + 1
def szsFareCond : List FareCond → Nat
  | [] => 1
  | x :: r => szFareCond x + szsFareCond r
end
theorem szsFareCond_eq : ∀ l, szsFareCond l = szL szFareCond l
  | [] => rfl
  | x :: r => by rw [szsFareCond, szsFareCond_eq r]; simp only [szL, List.map_cons, List.sum_cons]; omega
def RNFareCond : Nat → Rd FareCond
  | 0 => fun _ _ _ => False
  | n + 1 => fun s cs x => ∃ a0 c0, cs = [.int .i64 x.Kind, .int .i64 x.A, .int .i64 x.B, .slice a0 x.Kids.length c0] ∧ Sl 4 (RNFareCond n) s a0 c0 x.Kids
def RFareCond : Rd FareCond := fun s cs x => ∃ n, RNFareCond n s cs x
theorem RNFareCond.mono : ∀ n, Rmono (RNFareCond n)
  | 0 => fun _ _ _ _ _ h => h.elim
  | n + 1 => fun _ _ h _ _ ⟨a0, c0, e, h0⟩ => ⟨a0, c0, e, h0.mono (RNFareCond.mono n) h⟩
theorem RFareCond.mono : Rmono RFareCond := fun s t h cs x ⟨n, q⟩ => ⟨n, RNFareCond.mono n s t h cs x q⟩
theorem RNFareCond.up : ∀ n s cs x, RNFareCond n s cs x → RNFareCond (n + 1) s cs x
  | 0 => fun _ _ _ h => h.elim
  | n + 1 => fun _ _ _ ⟨a0, c0, e, h0⟩ => ⟨a0, c0, e, h0.impl (RNFareCond.up n)⟩
theorem RFareCond.unf {s : Sg} {cs : List Value} {x : FareCond} (h : RFareCond s cs x) : ∃ a0 c0, cs = [.int .i64 x.Kind, .int .i64 x.A, .int .i64 x.B, .slice a0 x.Kids.length c0] ∧ Sl 4 RFareCond s a0 c0 x.Kids := by
  obtain ⟨n, h⟩ := h
  cases n with
  | zero => exact h.elim
  | succ n => obtain ⟨a0, c0, e, h0⟩ := h; exact ⟨a0, c0, e, h0.impl (fun _ _ _ q => ⟨n, q⟩)⟩
theorem RFareCond.fold {s : Sg} {cs : List Value} {x : FareCond} (h : ∃ a0 c0, cs = [.int .i64 x.Kind, .int .i64 x.A, .int .i64 x.B, .slice a0 x.Kids.length c0] ∧ Sl 4 RFareCond s a0 c0 x.Kids) : RFareCond s cs x := by
  obtain ⟨a0, c0, e, h0⟩ := h
  obtain ⟨n, q⟩ := Sl.level RNFareCond.up h0
  exact ⟨n + 1, a0, c0, e, q⟩
theorem RFareCond.one : Rone RFareCond := by intro s cs x h; obtain ⟨a0, c0, rfl, _⟩ := h.unf; rfl

structure FareKey where
  N : Int
  E : Int
  D : Int
  deriving DecidableEq, Inhabited
-- FareKey is of one size
def FareKey.cells (x : FareKey) : List Go.Value := [.int .i64 x.N, .int .i64 x.E, .int .i64 x.D]
def RFareKey : Rd FareKey := fun _ cs x => cs = x.cells
theorem RFareKey.mono : Rmono RFareKey := fun _ _ _ _ _ h => h
theorem RFareKey.one : Rone RFareKey := by intro s cs x h; subst h; rfl

structure FareRule where
  If : FareCond
  Do : Int
  N : Int
  Stop : Bool
  deriving Inhabited
def InFareRule (x : FareRule) : Prop := inA x.If ∧ inI x.Do ∧ inI x.N ∧ inA x.Stop
def RFareRule : Rd FareRule := fun s cs x => ∃ a0 c0, cs = [.int .i64 x.If.Kind, .int .i64 x.If.A, .int .i64 x.If.B, .slice a0 x.If.Kids.length c0, .int .i64 x.Do, .int .i64 x.N, .bool x.Stop] ∧ Sl 4 RFareCond s a0 c0 x.If.Kids
theorem RFareRule.one : Rone RFareRule := by rintro s cs x ⟨a0, c0, rfl, _⟩; rfl
theorem RFareRule.mono : Rmono RFareRule := fun _ _ h _ _ ⟨a0, c0, e, h0⟩ => ⟨a0, c0, e, h0.mono RFareCond.mono h⟩

structure FareTariff where
  ByKm : Bool
  Bands : List FareBand
  Round : Int
  Rules : List FareRule
  deriving Inhabited
def InFareTariff (x : FareTariff) : Prop := inA x.ByKm ∧ (inL InFareBand) x.Bands ∧ inI x.Round ∧ (inL InFareRule) x.Rules
def RFareTariff : Rd FareTariff := fun s cs x => ∃ a0 c0 a1 c1, cs = [.bool x.ByKm, .slice a0 x.Bands.length c0, .int .i64 x.Round, .slice a1 x.Rules.length c1] ∧ Sl 2 RFareBand s a0 c0 x.Bands ∧ Sl 7 RFareRule s a1 c1 x.Rules
theorem RFareTariff.one : Rone RFareTariff := by rintro s cs x ⟨a0, c0, a1, c1, rfl, _⟩; rfl
theorem RFareTariff.mono : Rmono RFareTariff := fun _ _ h _ _ ⟨a0, c0, a1, c1, e, h0, h1⟩ => ⟨a0, c0, a1, c1, e, h0.mono RFareBand.mono h, h1.mono RFareRule.mono h⟩

structure FareTicket where
  No : Int
  Day : Int
  Start : Int
  End : Int
  Price : Int
  Zones : List Int
  deriving DecidableEq, Inhabited
def RFareTicket : Rd FareTicket := fun s cs x => ∃ a0 c0, cs = [.int .i64 x.No, .int .i64 x.Day, .int .i64 x.Start, .int .i64 x.End, .int .i64 x.Price, .slice a0 x.Zones.length c0] ∧ Sl 1 (RI .i64) s a0 c0 x.Zones
theorem RFareTicket.one : Rone RFareTicket := by rintro s cs x ⟨a0, c0, rfl, _⟩; rfl
theorem RFareTicket.mono : Rmono RFareTicket := fun _ _ h _ _ ⟨a0, c0, e, h0⟩ => ⟨a0, c0, e, h0.mono RI.mono h⟩

structure FareTrip where
  Day : Int
  At : Int
  Km : Int
  Age : Int
  Card : Bool
  Zones : List Int
  deriving DecidableEq, Inhabited
def RFareTrip : Rd FareTrip := fun s cs x => ∃ a0 c0, cs = [.int .i64 x.Day, .int .i64 x.At, .int .i64 x.Km, .int .i64 x.Age, .bool x.Card, .slice a0 x.Zones.length c0] ∧ Sl 1 (RI .i64) s a0 c0 x.Zones
theorem RFareTrip.one : Rone RFareTrip := by rintro s cs x ⟨a0, c0, rfl, _⟩; rfl
theorem RFareTrip.mono : Rmono RFareTrip := fun _ _ h _ _ ⟨a0, c0, e, h0⟩ => ⟨a0, c0, e, h0.mono RI.mono h⟩

structure GuideRide where
  Train : Int
  On : Int
  Off : Int
  deriving DecidableEq, Inhabited
-- GuideRide is of one size
def InGuideRide (x : GuideRide) : Prop := inI x.Train ∧ inI x.On ∧ inI x.Off
def GuideRide.cells (x : GuideRide) : List Go.Value := [.int .i64 x.Train, .int .i64 x.On, .int .i64 x.Off]
def RGuideRide : Rd GuideRide := fun _ cs x => cs = x.cells
theorem RGuideRide.mono : Rmono RGuideRide := fun _ _ _ _ _ h => h
theorem RGuideRide.one : Rone RGuideRide := by intro s cs x h; subst h; rfl

structure GuideJourney where
  Rides : List GuideRide
  deriving DecidableEq, Inhabited
def InGuideJourney (x : GuideJourney) : Prop := (inL InGuideRide) x.Rides
def RGuideJourney : Rd GuideJourney := fun s cs x => ∃ a0 c0, cs = [.slice a0 x.Rides.length c0] ∧ Sl 3 RGuideRide s a0 c0 x.Rides
theorem RGuideJourney.one : Rone RGuideJourney := by rintro s cs x ⟨a0, c0, rfl, _⟩; rfl
theorem RGuideJourney.mono : Rmono RGuideJourney := fun _ _ h _ _ ⟨a0, c0, e, h0⟩ => ⟨a0, c0, e, h0.mono RGuideRide.mono h⟩

structure GuideNet where
  Day : ApiDay
  least : Int
  deriving DecidableEq, Inhabited
def RGuideNet : Rd GuideNet := fun s cs x => ∃ a0 c0 a1 c1, cs = [.slice a0 x.Day.Trains.length c0, .slice a1 x.Day.Turns.length c1, .int .i64 x.least] ∧ Sl 4 RApiTrain s a0 c0 x.Day.Trains ∧ Sl 1 (RL 1 (RI .i64)) s a1 c1 x.Day.Turns
theorem RGuideNet.one : Rone RGuideNet := by rintro s cs x ⟨a0, c0, a1, c1, rfl, _⟩; rfl
theorem RGuideNet.mono : Rmono RGuideNet := fun _ _ h _ _ ⟨a0, c0, a1, c1, e, h0, h1⟩ => ⟨a0, c0, a1, c1, e, h0.mono RApiTrain.mono h, h1.mono (RL.mono RI.mono) h⟩
def Planform.loop2 : (List (List Int)) → Out Int Unit
  | [] => (.next ())
  | x94 :: rest95 => (if (((x94).length : Int) == 0) then (.ret 1) else Planform.loop2 rest95)
def Planform.loop3 : (List (List Int)) → Out Int Unit
  | [] => (.next ())
  | x115 :: rest116 => (if decide (((x115).length : Int) > 4) then (.ret 4) else Planform.loop3 rest116)
def Planform.loop1 : (List ApiTrain) → Out Int Unit
  | [] => (.next ())
  | x63 :: rest64 => (bnd ((if (((x63.Stops).length : Int) == 0) then true else (((x63.Legs).length : Int) != (w64 (((x63.Stops).length : Int) - 1)))) : Bool) fun q87 => (if q87 then (.ret 1) else (bnd (Planform.loop2 x63.Legs) fun q92 => match q92 with | .ret r => (.ret r) | .next () => (if decide (((x63.Stops).length : Int) > 8) then (.ret 4) else (bnd (Planform.loop3 x63.Legs) fun q113 => match q113 with | .ret r => (.ret r) | .next () => Planform.loop1 rest64)))))
def Planform.loop4 : (List (List Int)) → Out Int Unit
  | [] => (.next ())
  | x135 :: rest136 => (if (((x135).length : Int) == 0) then (.ret 1) else (if decide (((x135).length : Int) > 12) then (.ret 4) else Planform.loop4 rest136))
def Planform (x0 : ApiDay) : Int := (bnd ((if decide (((x0.Trains).length : Int) > 12) then true else decide (((x0.Turns).length : Int) > 8)) : Bool) fun q56 => (if q56 then 4 else (bnd (Planform.loop1 x0.Trains) fun q61 => match q61 with | .ret r => r | .next () => (bnd (Planform.loop4 x0.Turns) fun q133 => match q133 with | .ret r => r | .next () => 0))))
def Planwithin (x0 : Int) (x1 : Int) (x2 : Int) : Bool := (bnd ((if decide (x0 ≥ x1) then decide (x0 ≤ x2) else false) : Bool) fun q55 => q55)
def Plansentence.loop1 : (List Int) → ByteArray → Option ByteArray
  | [], q62 => some q62
  | x54 :: rest55, q62 => ((itoa x54).bind fun q68 => ((scat (str [32]) q68).bind fun x70 => ((scat q62 x70).bind fun x72 => Plansentence.loop1 rest55 x72)))
def Plansentence (x0 : ByteArray) (x1 : List Int) : Option ByteArray := ((Plansentence.loop1 x1 x0).bind fun q62 => ((scat q62 (str [10])).bind fun x74 => some x74))
def PlanText_1_v1.loop1 : (List Int) → Bool → Bool
  | [], q64 => q64
  | x56 :: rest57, q64 => (bnd ((if q64 then (Planwithin x56 0 999999) else false) : Bool) fun q74 => PlanText_1_v1.loop1 rest57 q74)
def PlanText_1_v1 (x0 : ByteArray) (x1 : List Int) (y0 : Bool) (y1_0 : ByteArray) : Option (Bool × ByteArray) := (bnd (PlanText_1_v1.loop1 x1 y0) fun q64 => ((Plansentence x0 x1).bind fun q77 => ((sbw y1_0 q77).bind fun q79 => some (q64, q79))))
def PlanText.loop2 : (List ApiStop) → ByteArray → Bool → Option (ByteArray × Bool)
  | [], q99, q100 => some (q99, q100)
  | x91 :: rest92, q99, q100 => ((PlanText_1_v1 (str [115, 116, 111, 112]) [x91.Station, x91.Track, x91.Arr, x91.Dep] q100 q99).bind fun q113 => PlanText.loop2 rest92 q113.2 q113.1)
def PlanText.loop3 : (List (List Int)) → ByteArray → Bool → Option (ByteArray × Bool)
  | [], q126, q127 => some (q126, q127)
  | x118 :: rest119, q126, q127 => ((PlanText_1_v1 (str [108, 101, 103]) x118 q127 q126).bind fun q136 => PlanText.loop3 rest119 q136.2 q136.1)
def PlanText.loop1 : (List ApiTrain) → ByteArray → Bool → Option (ByteArray × Bool)
  | [], q66, q67 => some (q66, q67)
  | x58 :: rest59, q66, q67 => ((PlanText_1_v1 (str [116, 114, 97, 105, 110]) [x58.No, x58.Stock] q67 q66).bind fun q86 => ((PlanText.loop2 x58.Stops q86.2 q86.1).bind fun q89 => match q89 with | (q99, q100) => ((PlanText.loop3 x58.Legs q99 q100).bind fun q116 => match q116 with | (q126, q127) => PlanText.loop1 rest59 q126 q127)))
def PlanText.loop4 : (List (List Int)) → ByteArray → Bool → Option (ByteArray × Bool)
  | [], q149, q150 => some (q149, q150)
  | x141 :: rest142, q149, q150 => ((PlanText_1_v1 (str [116, 117, 114, 110]) x141 q150 q149).bind fun q159 => PlanText.loop4 rest142 q159.2 q159.1)
def PlanText (x0 : ApiDay) : Option (ByteArray × Int) := (if ((Planform x0) != 0) then some ((str []), (Planform x0)) else ((PlanText.loop1 x0.Trains ByteArray.empty true).bind fun q56 => match q56 with | (q66, q67) => ((PlanText.loop4 x0.Turns q66 q67).bind fun q139 => match q139 with | (q149, q150) => (if !q150 then some ((str []), 2) else some (q149, 0)))))
def Guidewithin (x0 : Int) (x1 : Int) (x2 : Int) : Bool := (bnd ((if decide (x0 ≥ x1) then decide (x0 ≤ x2) else false) : Bool) fun q55 => q55)
def GuideCheck.loop2 (x59 : ApiTrain) : (List ApiStop) → Nat → Option (Out Int Unit)
  | [], _ => some (.next ())
  | x86 :: rest87, k85 => (bnd ((if !(Guidewithin x86.Station 0 11) then true else (if !(Guidewithin x86.Arr 0 28800) then true else !(Guidewithin x86.Dep 0 28800))) : Bool) fun q104 => (if q104 then some (.ret 2) else (((if decide (x86.Dep < x86.Arr) then some true else (if decide (((k85 : Nat) : Int) > 0) then ((gx x59.Stops (w64 (((k85 : Nat) : Int) - 1))).bind fun x117 => some (decide (x86.Arr ≤ x117.Dep))) else some false)) : Option Bool).bind fun q113 => (if q113 then some (.ret 5) else GuideCheck.loop2 x59 rest87 (k85 + 1)))))
def GuideCheck.loop1 : (List ApiTrain) → (List (Int × Bool)) → Option (Out Int (List (Int × Bool)))
  | [], q67 => some (.next q67)
  | x59 :: rest60, q67 => (if !(Guidewithin x59.No 1 9999) then some (.ret 2) else (if ((mget q67 x59.No).getD false) then some (.ret 6) else (if decide (((x59.Stops).length : Int) < 2) then some (.ret 1) else ((GuideCheck.loop2 x59 x59.Stops 0).bind fun q84 => match q84 with | .ret r => some (.ret r) | .next () => GuideCheck.loop1 rest60 (mput q67 x59.No true)))))
def GuideCheck (x0 : ApiDay) : Option Int := ((PlanText x0).bind fun q52 => (if (q52.2 != 0) then some q52.2 else ((GuideCheck.loop1 x0.Trains []).bind fun q57 => match q57 with | .ret r => some r | .next _ => some 0)))
def GuidecheckLeast (x0 : ApiDay) (x1 : Int) : Option Int := ((GuideCheck x0).bind fun q52 => (if (q52 != 0) then some q52 else (if !(Guidewithin x1 0 28800) then some 2 else some 0)))
def GuideNeton (x0 : GuideNet) (x1 : GuideRide) : Option ApiStop := ((gx x0.Day.Trains x1.Train).bind fun x55 => ((gx x55.Stops x1.On).bind fun x70 => some x70))
def GuideNetoff (x0 : GuideNet) (x1 : GuideRide) : Option ApiStop := ((gx x0.Day.Trains x1.Train).bind fun x55 => ((gx x55.Stops x1.Off).bind fun x70 => some x70))
def GuideNetjourney.loop1 (x0 : GuideNet) (x1 : GuideJourney) (x2 : Bool) : (List GuideRide) → Nat → Option (Out Int Unit)
  | [], _ => some (.next ())
  | x57 :: rest58, k56 => (if !(Guidewithin x57.Train 0 (w64 (((x0.Day.Trains).length : Int) - 1))) then some (.ret 3) else ((gx x0.Day.Trains x57.Train).bind fun x72 => (bnd ((if !(Guidewithin x57.On 0 (w64 (((x72.Stops).length : Int) - 1))) then true else !(Guidewithin x57.Off 0 (w64 (((x72.Stops).length : Int) - 1)))) : Bool) fun q91 => (if q91 then some (.ret 3) else (if decide (x57.On ≥ x57.Off) then some (.ret 1) else (if (((k56 : Nat) : Int) == 0) then GuideNetjourney.loop1 x0 x1 x2 rest58 (k56 + 1) else ((gx x1.Rides (w64 (((k56 : Nat) : Int) - 1))).bind fun x97 => (((if (x57.Train == x97.Train) then some true else ((GuideNeton x0 x57).bind fun q115 => ((GuideNetoff x0 x97).bind fun q119 => some (q115.Station != q119.Station)))) : Option Bool).bind fun q111 => (if q111 then some (.ret 1) else (((if x2 then ((GuideNeton x0 x57).bind fun q132 => ((GuideNetoff x0 x97).bind fun q136 => some (decide (q132.Dep < (w64 (q136.Arr + x0.least)))))) else some false) : Option Bool).bind fun q128 => (if q128 then some (.ret 13) else GuideNetjourney.loop1 x0 x1 x2 rest58 (k56 + 1))))))))))))
def GuideNetjourney (x0 : GuideNet) (x1 : GuideJourney) (x2 : Bool) : Option Int := (if !(Guidewithin ((x1.Rides).length : Int) 1 4) then some 4 else ((GuideNetjourney.loop1 x0 x1 x2 x1.Rides 0).bind fun q55 => match q55 with | .ret r => some r | .next () => some 0))
def GuideCheckJourney (x0 : ApiDay) (x1 : GuideJourney) (x2 : Int) : Option Int := ((GuidecheckLeast x0 x2).bind fun q53 => (if (q53 != 0) then some q53 else ((GuideNetjourney (GuideNet.mk x0 x2) x1 true).bind fun q56 => some q56)))
def FishtopawakeGuide : Option Bool := ((GuideCheckJourney (ApiDay.mk [] []) (GuideJourney.mk []) (-1)).bind fun q51 => some (q51 != 0))
def Fishref2numbersIn.loop2 : (List ApiStop) → (List (List Int)) → Option (List (List Int))
  | [], q107 => some q107
  | x99 :: rest100, q107 => ((apd q107 [[x99.Station, x99.Track, x99.Arr, x99.Dep]]).bind fun x127 => Fishref2numbersIn.loop2 rest100 x127)
def Fishref2numbersIn.loop1 : (List ApiTrain) → (List (List Int)) → Option (List (List Int))
  | [], q64 => some q64
  | x56 :: rest57, q64 => ((apd q64 [[x56.No, x56.Stock]]).bind fun x90 => ((Fishref2numbersIn.loop2 x56.Stops x90).bind fun q107 => ((apd q107 x56.Legs).bind fun x133 => Fishref2numbersIn.loop1 rest57 x133)))
def Fishref2numbersIn (x0 : ApiDay) : Option (List (List Int)) := ((Fishref2numbersIn.loop1 x0.Trains []).bind fun q64 => ((apd q64 x0.Turns).bind fun x139 => some x139))
def Fishref2within (x0 : Int) (x1 : Int) (x2 : Int) : Bool := (bnd ((if decide (x0 ≥ x1) then decide (x0 ≤ x2) else false) : Bool) fun q55 => q55)
def Fishref2TextFault.loop2 : (List (List Int)) → Out Int Unit
  | [] => (.next ())
  | x94 :: rest95 => (if (((x94).length : Int) == 0) then (.ret 1) else Fishref2TextFault.loop2 rest95)
def Fishref2TextFault.loop3 : (List (List Int)) → Out Int Unit
  | [] => (.next ())
  | x115 :: rest116 => (if decide (((x115).length : Int) > 4) then (.ret 4) else Fishref2TextFault.loop3 rest116)
def Fishref2TextFault.loop1 : (List ApiTrain) → Out Int Unit
  | [] => (.next ())
  | x63 :: rest64 => (bnd ((if (((x63.Stops).length : Int) == 0) then true else (((x63.Legs).length : Int) != (w64 (((x63.Stops).length : Int) - 1)))) : Bool) fun q87 => (if q87 then (.ret 1) else (bnd (Fishref2TextFault.loop2 x63.Legs) fun q92 => match q92 with | .ret r => (.ret r) | .next () => (if decide (((x63.Stops).length : Int) > 8) then (.ret 4) else (bnd (Fishref2TextFault.loop3 x63.Legs) fun q113 => match q113 with | .ret r => (.ret r) | .next () => Fishref2TextFault.loop1 rest64)))))
def Fishref2TextFault.loop4 : (List (List Int)) → Out Int Unit
  | [] => (.next ())
  | x135 :: rest136 => (if (((x135).length : Int) == 0) then (.ret 1) else (if decide (((x135).length : Int) > 12) then (.ret 4) else Fishref2TextFault.loop4 rest136))
def Fishref2TextFault.loop6 : (List Int) → Out Int Unit
  | [] => (.next ())
  | x192 :: rest193 => (if !(Fishref2within x192 0 999999) then (.ret 2) else Fishref2TextFault.loop6 rest193)
def Fishref2TextFault.loop5 (q153 : (List (List Int))) : Nat → Nat → Option (Out Int Unit)
  | 0, _ => some (.next ())
  | rest167 + 1, k165 => ((gx q153 ((k165 : Nat) : Int)).bind fun x176 => (bnd (Fishref2TextFault.loop6 x176) fun q190 => match q190 with | .ret r => some (.ret r) | .next () => Fishref2TextFault.loop5 q153 rest167 (k165 + 1)))
def Fishref2TextFault (x0 : ApiDay) : Option Int := (bnd ((if decide (((x0.Trains).length : Int) > 12) then true else decide (((x0.Turns).length : Int) > 8)) : Bool) fun q56 => (if q56 then some 4 else (bnd (Fishref2TextFault.loop1 x0.Trains) fun q61 => match q61 with | .ret r => some r | .next () => (bnd (Fishref2TextFault.loop4 x0.Turns) fun q133 => match q133 with | .ret r => some r | .next () => ((Fishref2numbersIn x0).bind fun q153 => ((Fishref2TextFault.loop5 q153 q153.length 0).bind fun q164 => match q164 with | .ret r => some r | .next () => some 0))))))
def Fishref2GuideFault.loop2 (x58 : ApiTrain) : (List ApiTrain) → Out Int Unit
  | [] => (.next ())
  | x91 :: rest92 => (if (x91.No == x58.No) then (.ret 6) else Fishref2GuideFault.loop2 x58 rest92)
def Fishref2GuideFault.loop3 (x58 : ApiTrain) : (List ApiStop) → Nat → Option (Out Int Unit)
  | [], _ => some (.next ())
  | x116 :: rest117, k115 => (bnd ((if !(Fishref2within x116.Station 0 11) then true else (if !(Fishref2within x116.Arr 0 28800) then true else !(Fishref2within x116.Dep 0 28800))) : Bool) fun q134 => (if q134 then some (.ret 2) else (((if decide (x116.Dep < x116.Arr) then some true else (if decide (((k115 : Nat) : Int) > 0) then ((gx x58.Stops (w64 (((k115 : Nat) : Int) - 1))).bind fun x147 => some (decide (x116.Arr ≤ x147.Dep))) else some false)) : Option Bool).bind fun q143 => (if q143 then some (.ret 5) else Fishref2GuideFault.loop3 x58 rest117 (k115 + 1)))))
def Fishref2GuideFault.loop1 (x0 : ApiDay) : (List ApiTrain) → Nat → Option (Out Int Unit)
  | [], _ => some (.next ())
  | x58 :: rest59, k57 => (if !(Fishref2within x58.No 1 9999) then some (.ret 2) else ((cutl x0.Trains 0 ((k57 : Nat) : Int)).bind fun x79 => (bnd (Fishref2GuideFault.loop2 x58 x79) fun q89 => match q89 with | .ret r => some (.ret r) | .next () => (if decide (((x58.Stops).length : Int) < 2) then some (.ret 1) else ((Fishref2GuideFault.loop3 x58 x58.Stops 0).bind fun q114 => match q114 with | .ret r => some (.ret r) | .next () => Fishref2GuideFault.loop1 x0 rest59 (k57 + 1))))))
def Fishref2GuideFault (x0 : ApiDay) : Option Int := ((Fishref2TextFault x0).bind fun q52 => (if (q52 != 0) then some q52 else ((Fishref2GuideFault.loop1 x0 x0.Trains 0).bind fun q56 => match q56 with | .ret r => some r | .next () => some 0)))
def Fishref2JourneyFault.loop1 (x0 : ApiDay) (x1 : GuideJourney) (x2 : Int) (x3 : Bool) : (List GuideRide) → Nat → Option (Out Int Unit)
  | [], _ => some (.next ())
  | x58 :: rest59, k57 => (bnd ((if decide (x58.Train < 0) then true else decide (x58.Train ≥ ((x0.Trains).length : Int))) : Bool) fun q76 => (if q76 then some (.ret 3) else ((gx x0.Trains x58.Train).bind fun x80 => (bnd ((if decide (x58.On < 0) then true else (if decide (x58.On ≥ ((x80.Stops).length : Int)) then true else (if decide (x58.Off < 0) then true else decide (x58.Off ≥ ((x80.Stops).length : Int))))) : Bool) fun q99 => (if q99 then some (.ret 3) else (if decide (x58.On ≥ x58.Off) then some (.ret 1) else (if (((k57 : Nat) : Int) == 0) then Fishref2JourneyFault.loop1 x0 x1 x2 x3 rest59 (k57 + 1) else ((gx x1.Rides (w64 (((k57 : Nat) : Int) - 1))).bind fun x107 => ((gx x0.Trains x107.Train).bind fun x118 => ((gx x118.Stops x107.Off).bind fun x133 => (((if (x107.Train == x58.Train) then some true else ((gx x80.Stops x58.On).bind fun x150 => some (x150.Station != x133.Station))) : Option Bool).bind fun q147 => (if q147 then some (.ret 1) else (((if x3 then ((gx x80.Stops x58.On).bind fun x167 => some (decide (x167.Dep < (w64 (x133.Arr + x2))))) else some false) : Option Bool).bind fun q164 => (if q164 then some (.ret 13) else Fishref2JourneyFault.loop1 x0 x1 x2 x3 rest59 (k57 + 1)))))))))))))))
def Fishref2JourneyFault (x0 : ApiDay) (x1 : GuideJourney) (x2 : Int) (x3 : Bool) : Option Int := (if !(Fishref2within x2 0 28800) then some 2 else (if !(Fishref2within ((x1.Rides).length : Int) 1 4) then some 4 else ((Fishref2JourneyFault.loop1 x0 x1 x2 x3 x1.Rides 0).bind fun q56 => match q56 with | .ret r => some r | .next () => some 0)))
def SlicesCollectint_v1 (y0 : List Int) : Option (List Int) := ((apd [] y0).bind fun q51 => some q51)
def SlicesSortedint_v1 (y0 : List Int) : Option (List Int) := ((SlicesCollectint_v1 y0).bind fun q51 => ((srt q51).bind fun q62 => some q62))
def Fishref2Leaves (x0 : ApiDay) (x1 : GuideJourney) : Option Int := ((gx x1.Rides 0).bind fun x53 => ((gx x0.Trains x53.Train).bind fun x63 => ((gx x63.Stops x53.On).bind fun x78 => some x78.Dep)))
def Farewithin (x0 : Int) (x1 : Int) (x2 : Int) : Bool := (bnd ((if decide (x0 ≥ x1) then decide (x0 ≤ x2) else false) : Bool) fun q55 => q55)
def FareCondsize.loop1 (self_FareCondsize : FareCond → Option (Int × Int)) : (List FareCond) → Int → Int → Option (Int × Int)
  | [], q63, q64 => some (q63, q64)
  | x55 :: rest56, q63, q64 => ((self_FareCondsize x55).bind fun q74 => FareCondsize.loop1 self_FareCondsize rest56 (w64 (q63 + q74.1)) (mx q64 q74.2))
def FareCondsize : Nat → FareCond → Option (Int × Int)
  | 0, _ => none
  | fu + 1, x0 => ((FareCondsize.loop1 (FareCondsize fu) x0.Kids 1 0).bind fun q53 => match q53 with | (q63, q64) => some (q63, w64 (q64 + 1)))
def Farenumbers (x0 : Int) : Int := (bnd ((if (x0 == 2) then (x0 == 2) else (bnd ((if (x0 == 3) then (x0 == 3) else (bnd ((if (x0 == 4) then (x0 == 4) else (x0 == 5)) : Bool) fun q69 => q69)) : Bool) fun q62 => q62)) : Bool) fun q55 => (if q55 then 2 else (bnd ((if (x0 == 6) then (x0 == 6) else (bnd ((if (x0 == 7) then (x0 == 7) else (x0 == 8)) : Bool) fun q84 => q84)) : Bool) fun q77 => (if q77 then 1 else 0))))
def FareCondnode.loop1 (self_FareCondnode : FareCond → Option Int) : (List FareCond) → Option (Out Int Unit)
  | [] => some (.next ())
  | x98 :: rest99 => ((self_FareCondnode x98).bind fun q115 => (if (q115 != 0) then some (.ret q115) else FareCondnode.loop1 self_FareCondnode rest99))
def FareCondnode : Nat → FareCond → Option Int
  | 0, _ => none
  | fu + 1, x0 => (if !(Farewithin x0.Kind 0 11) then some 15 else (bnd ((if !(Farewithin x0.A 0 28800) then true else !(Farewithin x0.B 0 28800)) : Bool) fun q57 => (if q57 then some 2 else (bnd ((if decide ((Farenumbers x0.Kind) < 1) then (if (x0.A != 0) then true else (if decide ((Farenumbers x0.Kind) < 2) then (if (x0.B != 0) then true else (if ((Farenumbers x0.Kind) == 2) then decide (x0.A > x0.B) else false)) else (if ((Farenumbers x0.Kind) == 2) then decide (x0.A > x0.B) else false))) else (if decide ((Farenumbers x0.Kind) < 2) then (if (x0.B != 0) then true else (if ((Farenumbers x0.Kind) == 2) then decide (x0.A > x0.B) else false)) else (if ((Farenumbers x0.Kind) == 2) then decide (x0.A > x0.B) else false))) : Bool) fun q65 => (if q65 then some 1 else (bnd ((if (x0.Kind == 9) then (if (((x0.Kids).length : Int) != 1) then true else (if decide (x0.Kind > 9) then (if decide (((x0.Kids).length : Int) < 2) then true else (if decide (x0.Kind < 9) then decide (((x0.Kids).length : Int) > 0) else false)) else (if decide (x0.Kind < 9) then decide (((x0.Kids).length : Int) > 0) else false))) else (if decide (x0.Kind > 9) then (if decide (((x0.Kids).length : Int) < 2) then true else (if decide (x0.Kind < 9) then decide (((x0.Kids).length : Int) > 0) else false)) else (if decide (x0.Kind < 9) then decide (((x0.Kids).length : Int) > 0) else false))) : Bool) fun q82 => (if q82 then some 1 else ((FareCondnode.loop1 (FareCondnode fu) x0.Kids).bind fun q96 => match q96 with | .ret r => some r | .next () => some 0))))))))
def FareCondcheck (fu : Nat) (x0 : FareCond) : Option Int := ((FareCondsize fu x0).bind fun q52 => (bnd ((if decide (q52.1 > 40) then true else decide (q52.2 > 6)) : Bool) fun q58 => (if q58 then some 4 else ((FareCondnode fu x0).bind fun q62 => some q62))))
def FareCheckTariff.loop1 (x0 : FareTariff) : (List FareBand) → Nat → Option (Out Int Unit)
  | [], _ => some (.next ())
  | x63 :: rest64, k62 => (bnd ((if !(Farewithin x63.Upto 1 1000) then true else !(Farewithin x63.Price 0 100000)) : Bool) fun q81 => (if q81 then some (.ret 2) else (((if decide (((k62 : Nat) : Int) > 0) then ((gx x0.Bands (w64 (((k62 : Nat) : Int) - 1))).bind fun x92 => (if decide (x63.Upto ≤ x92.Upto) then some true else ((gx x0.Bands (w64 (((k62 : Nat) : Int) - 1))).bind fun x102 => some (decide (x63.Price < x102.Price))))) else some false) : Option Bool).bind fun q89 => (if q89 then some (.ret 1) else FareCheckTariff.loop1 x0 rest64 (k62 + 1)))))
def FareCheckTariff.loop2 (fu : Nat) : (List FareRule) → Option (Out Int Unit)
  | [] => some (.next ())
  | x116 :: rest117 => ((FareCondcheck fu x116.If).bind fun q133 => (if (q133 != 0) then some (.ret q133) else (bnd ((if (x116.Do == 1) then 200 else 100000) : Int) fun q140 => (if !(Farewithin x116.Do 1 6) then some (.ret 15) else (if !(Farewithin x116.N 0 q140) then some (.ret 2) else FareCheckTariff.loop2 fu rest117)))))
def FareCheckTariff (fu : Nat) (x0 : FareTariff) : Option Int := (bnd ((if !(Farewithin ((x0.Bands).length : Int) 1 8) then true else decide (((x0.Rules).length : Int) > 20)) : Bool) fun q56 => (if q56 then some 4 else ((FareCheckTariff.loop1 x0 x0.Bands 0).bind fun q61 => match q61 with | .ret r => some r | .next () => (if !(Farewithin x0.Round 1 100) then some 2 else ((FareCheckTariff.loop2 fu x0.Rules).bind fun q114 => match q114 with | .ret r => some r | .next () => some 0)))))
def FarecheckZones.loop1 (x0 : List Int) (x1 : Bool) : (List Int) → Nat → Option (Out Int Unit)
  | [], _ => some (.next ())
  | x54 :: rest55, k53 => (if !(Farewithin x54 0 19) then some (.ret 2) else (((if decide (((k53 : Nat) : Int) > 0) then ((gx x0 (w64 (((k53 : Nat) : Int) - 1))).bind fun x75 => (if (x54 == x75) then some true else (if x1 then ((gx x0 (w64 (((k53 : Nat) : Int) - 1))).bind fun x86 => some (decide (x54 < x86))) else some false))) else some false) : Option Bool).bind fun q72 => (if q72 then some (.ret 1) else FarecheckZones.loop1 x0 x1 rest55 (k53 + 1))))
def FarecheckZones (x0 : List Int) (x1 : Bool) : Option Int := ((FarecheckZones.loop1 x0 x1 x0 0).bind fun q52 => match q52 with | .ret r => some r | .next () => some 0)
def FareCheckTrip (x0 : FareTrip) : Option Int := (bnd ((if !(Farewithin x0.Day 0 6) then true else (if !(Farewithin x0.At 0 28800) then true else (if !(Farewithin x0.Km 0 1000) then true else !(Farewithin x0.Age 0 120)))) : Bool) fun q56 => (if q56 then some 2 else (if !(Farewithin ((x0.Zones).length : Int) 1 10) then some 4 else ((FarecheckZones x0.Zones false).bind fun q63 => some q63))))
def FareTariffprice_1_v1 (x0 : FareBand) (y0 : Int) : Bool := decide (x0.Upto ≥ y0)
def SlicesIndexFuncLfareBand_v1.loop1 (y0 : Int) : (List FareBand) → Nat → Out Int Unit
  | [], _ => (.next ())
  | x54 :: rest55, k53 => (if (FareTariffprice_1_v1 x54 y0) then (.ret ((k53 : Nat) : Int)) else SlicesIndexFuncLfareBand_v1.loop1 y0 rest55 (k53 + 1))
def SlicesIndexFuncLfareBand_v1 (x0 : List FareBand) (y0 : Int) : Int := (bnd (SlicesIndexFuncLfareBand_v1.loop1 y0 x0 0) fun q52 => match q52 with | .ret r => r | .next () => (-1))
def FareCondholds_1_v1 (x0 : Int) (y0 : FareCond) : Bool := (Farewithin x0 y0.A y0.B)
def SlicesIndexLint.loop1 (x1 : Int) : (List Int) → Nat → Out Int Unit
  | [], _ => (.next ())
  | x54 :: rest55, k53 => (if (x1 == x54) then (.ret ((k53 : Nat) : Int)) else SlicesIndexLint.loop1 x1 rest55 (k53 + 1))
def SlicesIndexLint (x0 : List Int) (x1 : Int) : Int := (bnd (SlicesIndexLint.loop1 x1 x0 0) fun q52 => match q52 with | .ret r => r | .next () => (-1))
def SlicesContainsLint (x0 : List Int) (x1 : Int) : Bool := decide ((SlicesIndexLint x0 x1) ≥ 0)
def FareCondholds_2_v1 (self_FareCondholds : FareCond → FareTrip → Option Bool) (x0 : FareCond) (y0 : FareTrip) : Option Bool := ((self_FareCondholds x0 y0).bind fun q52 => some !q52)
def SlicesIndexFuncLfareCond_v1.loop1 (y0 : FareTrip) (self_FareCondholds : FareCond → FareTrip → Option Bool) : (List FareCond) → Nat → Option (Out Int Unit)
  | [], _ => some (.next ())
  | x54 :: rest55, k53 => ((FareCondholds_2_v1 self_FareCondholds x54 y0).bind fun q70 => (if q70 then some (.ret ((k53 : Nat) : Int)) else SlicesIndexFuncLfareCond_v1.loop1 y0 self_FareCondholds rest55 (k53 + 1)))
def SlicesIndexFuncLfareCond_v1 (self_FareCondholds : FareCond → FareTrip → Option Bool) (x0 : List FareCond) (y0 : FareTrip) : Option Int := ((SlicesIndexFuncLfareCond_v1.loop1 y0 self_FareCondholds x0 0).bind fun q52 => match q52 with | .ret r => some r | .next () => some (-1))
def SlicesContainsFuncLfareCond_v1 (self_FareCondholds : FareCond → FareTrip → Option Bool) (x0 : List FareCond) (y0 : FareTrip) : Option Bool := ((SlicesIndexFuncLfareCond_v1 self_FareCondholds x0 y0).bind fun q51 => some (decide (q51 ≥ 0)))
def FareCondholds_3_v1 (self_FareCondholds : FareCond → FareTrip → Option Bool) (x0 : FareCond) (y0 : FareTrip) : Option Bool := ((self_FareCondholds x0 y0).bind fun q52 => some q52)
def SlicesIndexFuncLfareCond_v2.loop1 (y0 : FareTrip) (self_FareCondholds : FareCond → FareTrip → Option Bool) : (List FareCond) → Nat → Option (Out Int Unit)
  | [], _ => some (.next ())
  | x54 :: rest55, k53 => ((FareCondholds_3_v1 self_FareCondholds x54 y0).bind fun q70 => (if q70 then some (.ret ((k53 : Nat) : Int)) else SlicesIndexFuncLfareCond_v2.loop1 y0 self_FareCondholds rest55 (k53 + 1)))
def SlicesIndexFuncLfareCond_v2 (self_FareCondholds : FareCond → FareTrip → Option Bool) (x0 : List FareCond) (y0 : FareTrip) : Option Int := ((SlicesIndexFuncLfareCond_v2.loop1 y0 self_FareCondholds x0 0).bind fun q52 => match q52 with | .ret r => some r | .next () => some (-1))
def SlicesContainsFuncLfareCond_v2 (self_FareCondholds : FareCond → FareTrip → Option Bool) (x0 : List FareCond) (y0 : FareTrip) : Option Bool := ((SlicesIndexFuncLfareCond_v2 self_FareCondholds x0 y0).bind fun q51 => some (decide (q51 ≥ 0)))
def FareCondholds : Nat → FareCond → FareTrip → Option Bool
  | 0, _, _ => none
  | fu + 1, x0, x1 => (if (x0.Kind == 1) then some x1.Card else (if (x0.Kind == 2) then some (FareCondholds_1_v1 x1.Age x0) else (if (x0.Kind == 3) then some (FareCondholds_1_v1 x1.At x0) else (if (x0.Kind == 4) then some (FareCondholds_1_v1 x1.Km x0) else (if (x0.Kind == 5) then some (FareCondholds_1_v1 ((x1.Zones).length : Int) x0) else (if (x0.Kind == 6) then some (SlicesContainsLint x1.Zones x0.A) else (if (x0.Kind == 7) then ((gx x1.Zones 0).bind fun x60 => some (x60 == x0.A)) else (if (x0.Kind == 8) then ((gx x1.Zones (w64 (((x1.Zones).length : Int) - 1))).bind fun x70 => some (x70 == x0.A)) else (if (x0.Kind == 9) then ((gx x0.Kids 0).bind fun x80 => (((FareCondholds fu) x80 x1).bind fun q92 => some !q92)) else (if (x0.Kind == 10) then ((SlicesContainsFuncLfareCond_v1 (FareCondholds fu) x0.Kids x1).bind fun q95 => some !q95) else (if (x0.Kind == 11) then ((SlicesContainsFuncLfareCond_v2 (FareCondholds fu) x0.Kids x1).bind fun q98 => some q98) else some true)))))))))))
def FareRulechange (x0 : FareRule) (x1 : Int) : Int := (if (x0.Do == 1) then mn 100000 (w64 (Int.tdiv (w64 (x1 * x0.N)) 100)) else (if (x0.Do == 2) then mx 0 (w64 (x1 - x0.N)) else (if (x0.Do == 3) then mn 100000 (w64 (x1 + x0.N)) else (if (x0.Do == 4) then x0.N else (if (x0.Do == 5) then mn x1 x0.N else mx x1 x0.N)))))
def FareTariffprice.loop1 (x1 : FareTrip) (fu : Nat) : (List FareRule) → Nat → Int → (List Int) → Option (Int × (List Int))
  | [], _, q89, q90 => some (q89, q90)
  | x81 :: rest82, k80, q89, q90 => ((FareCondholds fu x81.If x1).bind fun q106 => (if !q106 then FareTariffprice.loop1 x1 fu rest82 (k80 + 1) q89 q90 else ((apd q90 [((k80 : Nat) : Int)]).bind fun x110 => (if x81.Stop then some ((FareRulechange x81 q89), x110) else FareTariffprice.loop1 x1 fu rest82 (k80 + 1) (FareRulechange x81 q89) x110))))
def FareTariffprice (fu : Nat) (x0 : FareTariff) (x1 : FareTrip) : Option (Int × (List Int)) := (bnd ((if x0.ByKm then x1.Km else ((x1.Zones).length : Int)) : Int) fun q58 => (bnd ((if decide ((SlicesIndexFuncLfareBand_v1 x0.Bands q58) < 0) then w64 (((x0.Bands).length : Int) - 1) else (SlicesIndexFuncLfareBand_v1 x0.Bands q58)) : Int) fun q65 => ((gx x0.Bands q65).bind fun x68 => ((FareTariffprice.loop1 x1 fu x0.Rules 0 x68.Price []).bind fun q79 => match q79 with | (q89, q90) => ((dv (w64 ((w64 (q89 + x0.Round)) - 1)) x0.Round).bind fun x117 => some (w64 (x117 * x0.Round), q90))))))
def FarePrice (fu : Nat) (x0 : FareTariff) (x1 : FareTrip) : Option (Int × (List Int) × Int) := ((FareCheckTariff fu x0).bind fun q53 => (if (q53 != 0) then some (0, [], q53) else ((FareCheckTrip x1).bind fun q57 => (if (q57 != 0) then some (0, [], q57) else ((FareTariffprice fu x0 x1).bind fun q61 => some (q61.1, q61.2, 0))))))
def Fareprime.loop1 (x0 : Int) : Nat → Int → Option (Out Bool Int)
  | 0, _ => none
  | n53 + 1, q57 => (if decide ((w64 (q57 * q57)) ≤ x0) then ((rm x0 q57).bind fun x60 => (if (x60 == 0) then some (.ret false) else Fareprime.loop1 x0 n53 (w64 (q57 + 1)))) else some (.next q57))
def Fareprime (fu : Nat) (x0 : Int) : Option Bool := ((Fareprime.loop1 x0 fu 2).bind fun q52 => match q52 with | .ret r => some r | .next _ => some (decide (x0 > 1)))
def Fareinverse.loop1 : Nat → Int → Int → Int → Int → Option (Int × Int × Int × Int)
  | 0, _, _, _, _ => none
  | n55 + 1, q59, q60, q61, q62 => (if decide (q60 > 0) then ((dv q59 q60).bind fun x65 => Fareinverse.loop1 n55 q60 (w64 (q59 - (w64 (x65 * q60)))) q62 (w64 (q61 - (w64 (x65 * q62))))) else some (q59, q60, q61, q62))
def Fareinverse (fu : Nat) (x0 : Int) (x1 : Int) : Option (Int × Bool) := ((rm x0 x1).bind fun x51 => ((Fareinverse.loop1 fu x51 x1 1 0).bind fun q54 => match q54 with | (q59, _, q61, _) => (if (q59 != 1) then some (0, false) else ((rm q61 x1).bind fun x68 => ((rm (w64 (x68 + x1)) x1).bind fun x70 => some (x70, true))))))
def FareMakeKey (fu : Nat) (x0 : Int) (x1 : Int) (x2 : Int) : Option (FareKey × Int) := (bnd ((if !(Farewithin x0 1009 32749) then true else (if !(Farewithin x1 1009 32749) then true else !(Farewithin x2 3 32749))) : Bool) fun q56 => (if q56 then some ((FareKey.mk 0 0 0), 2) else ((((Fareprime fu x0).bind fun q67 => (if !q67 then some true else ((Fareprime fu x1).bind fun q70 => (if !q70 then some true else some (x0 == x1))))) : Option Bool).bind fun q65 => (if q65 then some ((FareKey.mk 0 0 0), 1) else ((Fareinverse fu x2 (w64 ((w64 (x0 - 1)) * (w64 (x1 - 1))))).bind fun q74 => (if !q74.2 then some ((FareKey.mk 0 0 0), 1) else some ((FareKey.mk (w64 (x0 * x1)) x2 q74.1), 0)))))))
def Fishref2Arrives (x0 : ApiDay) (x1 : GuideJourney) : Option Int := ((gx x1.Rides (w64 (((x1.Rides).length : Int) - 1))).bind fun x53 => ((gx x0.Trains x53.Train).bind fun x63 => ((gx x63.Stops x53.Off).bind fun x78 => some x78.Arr)))
def FareKeycheck (x0 : FareKey) (x1 : Bool) : Int := (bnd ((if !(Farewithin x0.N 1018081 1072497001) then true else (if !(Farewithin x0.E 3 32749) then true else (if x1 then !(Farewithin x0.D 1 (w64 (x0.N - 1))) else false))) : Bool) fun q56 => (if q56 then 2 else 0))
def FareTicketcheck (x0 : FareTicket) : Option Int := (bnd ((if !(Farewithin x0.No 0 999999) then true else (if !(Farewithin x0.Day 0 6) then true else (if !(Farewithin x0.Start 0 28800) then true else (if !(Farewithin x0.End 0 28800) then true else !(Farewithin x0.Price 0 100000))))) : Bool) fun q56 => (if q56 then some 2 else (if decide (x0.End < x0.Start) then some 13 else (if !(Farewithin ((x0.Zones).length : Int) 1 10) then some 4 else ((FarecheckZones x0.Zones true).bind fun q65 => some q65)))))
def FareDigest.loop1 (x0 : ByteArray) : Nat → Nat → Int → Option Int
  | 0, _, q64 => some q64
  | rest55 + 1, k53, q64 => ((sgx x0 ((k53 : Nat) : Int)).bind fun x66 => FareDigest.loop1 x0 rest55 (k53 + 1) (Int.tmod (w64 ((w64 ((w64 (q64 * 257)) + (w64 x66))) + 1)) 999983))
def FareDigest (x0 : ByteArray) : Option Int := ((szok x0).bind fun _ => (FareDigest.loop1 x0 x0.size 0 1).bind fun q64 => some q64)
def Farepower.loop1 (x2 : Int) : Nat → Int → Int → Int → Option (Int × Int × Int)
  | 0, _, _, _ => none
  | n57 + 1, q61, q62, q63 => (if decide (q62 > 0) then (((if ((IntKind.wrap .i64 ((BitVec.ofInt (IntKind.bits .i64) q62 &&& BitVec.ofInt (IntKind.bits .i64) 1).toNat : Int)) == 1) then ((rm (w64 (q63 * q61)) x2).bind fun x73 => some x73) else some q63) : Option Int).bind fun q70 => ((rm (w64 (q61 * q61)) x2).bind fun x75 => Farepower.loop1 x2 n57 x75 (Int.fdiv q62 (2 ^ (min (Int.toNat 1) (IntKind.bits .i64)))) q70)) else some (q61, q62, q63))
def Farepower (fu : Nat) (x0 : Int) (x1 : Int) (x2 : Int) : Option Int := ((rm 1 x2).bind fun x51 => ((rm x0 x2).bind fun x53 => ((Farepower.loop1 x2 fu x53 x1 x51).bind fun q56 => match q56 with | (_, _, q63) => some q63)))
def FareSign (fu : Nat) (x0 : FareKey) (x1 : ByteArray) : Option (Int × Int) := (if ((FareKeycheck x0 true) != 0) then some (0, (FareKeycheck x0 true)) else ((FareDigest x1).bind fun q53 => ((Farepower fu q53 x0.D x0.N).bind fun q55 => some (q55, 0))))
def FareIssue.loop1 (x60 : List Int) : Nat → Nat → ByteArray → Option ByteArray
  | 0, _, q78 => some q78
  | rest70 + 1, k68, q78 => ((gx x60 ((k68 : Nat) : Int)).bind fun x80 => ((itoa x80).bind fun q90 => ((scat (str [32]) q90).bind fun x92 => ((scat q78 x92).bind fun x94 => FareIssue.loop1 x60 rest70 (k68 + 1) x94))))
def FareIssue (fu : Nat) (x0 : FareKey) (x1 : FareTicket) : Option (ByteArray × Int) := (if ((FareKeycheck x0 true) != 0) then some ((str []), (FareKeycheck x0 true)) else ((FareTicketcheck x1).bind fun q54 => (if (q54 != 0) then some ((str []), q54) else ((apd [x1.No, x1.Day, x1.Start, x1.End, x1.Price] x1.Zones).bind fun x60 => ((FareIssue.loop1 x60 x60.length 0 (str [116, 105, 99, 107, 101, 116])).bind fun q78 => ((scat q78 (str [32, 58, 32])).bind fun x96 => ((FareSign fu x0 x96).bind fun q98 => ((itoa q98.1).bind fun q100 => ((scat x96 q100).bind fun x102 => ((scat x102 (str [10])).bind fun x104 => some (x104, 0)))))))))))
def InternalStringsliteHasSuffix (x0 : ByteArray) (x1 : ByteArray) : Option Bool := (((if decide (((x0.size : Nat) : Int) ≥ ((x1.size : Nat) : Int)) then ((scut x0 (w64 (((x0.size : Nat) : Int) - ((x1.size : Nat) : Int))) ((x0.size : Nat) : Int)).bind fun x58 => some (seq x58 x1)) else some false) : Option Bool).bind fun q55 => some q55)
def InternalStringsliteCutSuffix (x0 : ByteArray) (x1 : ByteArray) : Option (ByteArray × Bool) := ((InternalStringsliteHasSuffix x0 x1).bind fun q51 => (if !q51 then some (x0, false) else ((scut x0 0 (w64 (((x0.size : Nat) : Int) - ((x1.size : Nat) : Int)))).bind fun x54 => some (x54, true))))
def StringsCutSuffix (x0 : ByteArray) (x1 : ByteArray) : Option (ByteArray × Bool) := ((InternalStringsliteCutSuffix x0 x1).bind fun q51 => some (q51.1, q51.2))
def Farenumber (x0 : ByteArray) : Option (Option Int) := ((atoiq x0).bind fun q51 => (((if (!(q51.2)) then some true else (if decide (q51.1 < 0) then some true else ((itoa q51.1).bind fun q63 => some (!(seq q63 x0))))) : Option Bool).bind fun q59 => (if q59 then some none else some (some q51.1))))
def Fareopen.loop1 : (List ByteArray) → (List Int) → Option (Out ((List Int) × Int × Bool) (List Int))
  | [], q115 => some (.next q115)
  | x107 :: rest108, q115 => ((Farenumber x107).bind fun q127 => match q127 with | none => some (.ret (q115, 0, false)) | some rr129 => ((apd q115 [rr129]).bind fun x137 => Fareopen.loop1 rest108 x137))
def Fareopen (x0 : ByteArray) : Option ((List Int) × Int × Bool) := ((StringsCutSuffix x0 (str [10])).bind fun q53 => ((splitq q53.1 (str [32])).bind fun q55 => (((if !q53.2 then some true else (if decide (((q55.length : Nat) : Int) < 9) then some true else ((gx q55 0).bind fun x69 => (if !(seq x69 (str [116, 105, 99, 107, 101, 116])) then some true else ((gx q55 (w64 (((q55.length : Nat) : Int) - 2))).bind fun x80 => some (!(seq x80 (str [58])))))))) : Option Bool).bind fun q65 => (if q65 then some ([], 0, false) else ((cutl q55 1 (w64 (((q55.length : Nat) : Int) - 2))).bind fun x95 => ((Fareopen.loop1 x95 []).bind fun q105 => match q105 with | .ret r => some r | .next q115 => ((gx q55 (w64 (((q55).length : Int) - 1))).bind fun x143 => ((Farenumber x143).bind fun q152 => match q152 with | none => some (q115, 0, false) | some rr154 => some (q115, rr154, true)))))))))
def InternalBytealgLastIndexByteString.loop1 (x0 : ByteArray) (x1 : Int) : Nat → Int → Option (Out Int Int)
  | 0, _ => none
  | n53 + 1, q57 => (if decide (q57 ≥ 0) then ((sgx x0 q57).bind fun x60 => (if (x60 == x1) then some (.ret q57) else InternalBytealgLastIndexByteString.loop1 x0 x1 n53 (w64 (q57 - 1)))) else some (.next q57))
def InternalBytealgLastIndexByteString (fu : Nat) (x0 : ByteArray) (x1 : Int) : Option Int := ((InternalBytealgLastIndexByteString.loop1 x0 x1 fu (w64 (((x0.size : Nat) : Int) - 1))).bind fun q52 => match q52 with | .ret r => some r | .next _ => some (-1))
def StringsLastIndexByte (fu : Nat) (x0 : ByteArray) (x1 : Int) : Option Int := ((InternalBytealgLastIndexByteString fu x0 x1).bind fun q51 => some q51)
def FareVerify (fu : Nat) (x0 : FareKey) (x1 : ByteArray) (x2 : Int) : Option (Bool × Int) := (if ((FareKeycheck x0 false) != 0) then some (false, (FareKeycheck x0 false)) else (((if (Farewithin x2 0 (w64 (x0.N - 1))) then ((Farepower fu x2 x0.E x0.N).bind fun q61 => ((FareDigest x1).bind fun q63 => some ((q61 == q63), 0))) else some (false, 0)) : Option (Bool × Int)).bind fun q54 => match q54 with | (q57, q58) => some (q57, q58)))
def FareOpen (fu : Nat) (x0 : FareKey) (x1 : ByteArray) : Option (FareTicket × Int) := (if ((FareKeycheck x0 false) != 0) then some ((FareTicket.mk 0 0 0 0 0 []), (FareKeycheck x0 false)) else (if decide (((x1.size : Nat) : Int) > 200) then some ((FareTicket.mk 0 0 0 0 0 []), 4) else ((Fareopen x1).bind fun q55 => (if !q55.2.2 then some ((FareTicket.mk 0 0 0 0 0 []), 10) else ((StringsLastIndexByte fu x1 32).bind fun q66 => ((scut x1 0 (w64 (q66 + 1))).bind fun x68 => ((FareVerify fu x0 x68 q55.2.1).bind fun q70 => (if !q70.1 then some ((FareTicket.mk 0 0 0 0 0 []), 11) else ((gx q55.1 0).bind fun x77 => ((gx q55.1 1).bind fun x86 => ((gx q55.1 2).bind fun x95 => ((gx q55.1 3).bind fun x104 => ((gx q55.1 4).bind fun x113 => ((cutl q55.1 5 ((q55.1).length : Int)).bind fun x122 => ((FareTicketcheck (FareTicket.mk x77 x86 x95 x104 x113 x122)).bind fun q132 => (if (q132 != 0) then some ((FareTicket.mk 0 0 0 0 0 []), q132) else some ((FareTicket.mk x77 x86 x95 x104 x113 x122), 0)))))))))))))))))
def FareAccept (fu : Nat) (x0 : FareKey) (x1 : ByteArray) (x2 : Int) (x3 : Int) (x4 : Int) (x5 : List Int) : Option Int := ((FareOpen fu x0 x1).bind fun q52 => (if (q52.2 != 0) then some q52.2 else (bnd ((if (q52.1.Day != x2) then true else !(Farewithin x3 q52.1.Start q52.1.End)) : Bool) fun q67 => (if q67 then some 13 else (if !(SlicesContainsLint q52.1.Zones x4) then some 9 else (if (SlicesContainsLint x5 q52.1.No) then some 7 else some 0))))))
def FishtopTopTicketed.loop2 : (List ApiStop) → (List Int) → Option (List Int)
  | [], q129 => some q129
  | x121 :: rest122, q129 => (((if (((q129.length : Nat) : Int) == 0) then some true else ((gx q129 (w64 (((q129.length : Nat) : Int) - 1))).bind fun x149 => some (x149 != x121.Station))) : Option Bool).bind fun q146 => (((if q146 then ((apd q129 [x121.Station]).bind fun x173 => some x173) else some q129) : Option (List Int)).bind fun q163 => FishtopTopTicketed.loop2 rest122 q163))
def FishtopTopTicketed.loop1 (x0 : ApiDay) : (List GuideRide) → (List Int) → Option (List Int)
  | [], q81 => some q81
  | x73 :: rest74, q81 => ((gx x0.Trains x73.Train).bind fun x94 => ((cutl x94.Stops x73.On (w64 (x73.Off + 1))).bind fun x109 => ((FishtopTopTicketed.loop2 x109 q81).bind fun q129 => FishtopTopTicketed.loop1 x0 rest74 q129)))
def FishtopTopTicketed.loop4 (x6 : Int) (fu : Nat) (q211 : FareKey × Int) (q221 : ByteArray × Int) : (List ApiStop) → Nat → Option (Out Bool Unit)
  | [], _ => some (.next ())
  | x277 :: rest278, k276 => (bnd ((if (((k276 : Nat) : Int) == 0) then x277.Dep else x277.Arr) : Int) fun q295 => ((((FareAccept fu (FareKey.mk q211.1.N q211.1.E 0) q221.1 3 q295 x277.Station [w64 (x6 + 1)]).bind fun q310 => (if (q310 != 0) then some true else ((FareAccept fu (FareKey.mk q211.1.N q211.1.E 0) q221.1 2 q295 x277.Station []).bind fun q313 => (if (q313 != 13) then some true else ((FareAccept fu (FareKey.mk q211.1.N q211.1.E 0) q221.1 3 q295 x277.Station [x6]).bind fun q322 => some (q322 != 7)))))) : Option Bool).bind fun q302 => (if q302 then some (.ret false) else FishtopTopTicketed.loop4 x6 fu q211 q221 rest278 (k276 + 1))))
def FishtopTopTicketed.loop3 (x0 : ApiDay) (x6 : Int) (fu : Nat) (q211 : FareKey × Int) (q221 : ByteArray × Int) : (List GuideRide) → Option (Out Bool Unit)
  | [] => some (.next ())
  | x236 :: rest237 => ((gx x0.Trains x236.Train).bind fun x250 => ((cutl x250.Stops x236.On (w64 (x236.Off + 1))).bind fun x265 => ((FishtopTopTicketed.loop4 x6 fu q211 q221 x265 0).bind fun q275 => match q275 with | .ret r => some (.ret r) | .next () => FishtopTopTicketed.loop3 x0 x6 fu q211 q221 rest237)))
def FishtopTopTicketed.loop5 (x0 : ApiDay) (x1 : GuideJourney) (fu : Nat) (q194 : List Int) (q211 : FareKey × Int) (q221 : ByteArray × Int) : Nat → Nat → Option (Out Bool Unit)
  | 0, _ => some (.next ())
  | rest354 + 1, k352 => ((Fishref2Leaves x0 x1).bind fun q366 => ((FareAccept fu (FareKey.mk q211.1.N q211.1.E 0) q221.1 3 q366 ((k352 : Nat) : Int) []).bind fun q368 => (if !((SlicesContainsLint q194 ((k352 : Nat) : Int)) == (q368 == 0)) then some (.ret false) else FishtopTopTicketed.loop5 x0 x1 fu q194 q211 q221 rest354 (k352 + 1))))
def FishtopTopTicketed (fu : Nat) (x0 : ApiDay) (x1 : GuideJourney) (x2 : FareTariff) (x3 : Int) (x4 : Int) (x5 : Int) (x6 : Int) (x7 : Int) : Option Bool := ((FishtopawakeGuide).bind fun q54 => (if !q54 then some false else ((((Fishref2GuideFault x0).bind fun q63 => (if (q63 != 0) then some true else ((Fishref2JourneyFault x0 x1 0 true).bind fun q66 => some (q66 != 0)))) : Option Bool).bind fun q61 => (if q61 then some true else ((FishtopTopTicketed.loop1 x0 x1.Rides []).bind fun q81 => ((SlicesSortedint_v1 q81).bind fun q183 => (bnd (Lib.compact q183) fun q194 => (if decide (((q81).length : Int) > 10) then some true else ((Fishref2Leaves x0 x1).bind fun q200 => ((FarePrice fu x2 (FareTrip.mk 0 q200 ((q81).length : Int) x7 false q81)).bind fun q202 => (if (q202.2.2 != 0) then some (q202.1 == 0) else ((FareMakeKey fu x3 x4 x5).bind fun q211 => (if (q211.2 != 0) then some ((q211.1.N == 0) && ((q211.1.E == 0) && (q211.1.D == 0))) else ((Fishref2Leaves x0 x1).bind fun q217 => ((Fishref2Arrives x0 x1).bind fun q219 => ((FareIssue fu q211.1 (FareTicket.mk x6 3 q217 q219 q202.1 q194)).bind fun q221 => (if (q221.2 != 0) then (bnd ((if decide (x6 < 0) then true else (if decide (x6 > 999999) then true else decide (q202.1 > 100000))) : Bool) fun q228 => some q228) else ((FishtopTopTicketed.loop3 x0 x6 fu q211 q221 x1.Rides).bind fun q234 => match q234 with | .ret r => some r | .next () => ((gx q81 0).bind fun x325 => ((((Fishref2Leaves x0 x1).bind fun q340 => ((FareAccept fu (FareKey.mk q211.1.N q211.1.E 0) q221.1 3 (w64 (q340 - 1)) x325 []).bind fun q342 => (if (q342 != 13) then some true else ((Fishref2Arrives x0 x1).bind fun q345 => ((FareAccept fu (FareKey.mk q211.1.N q211.1.E 0) q221.1 3 (w64 (q345 + 1)) x325 []).bind fun q347 => some (q347 != 13)))))) : Option Bool).bind fun q338 => (if q338 then some false else ((FishtopTopTicketed.loop5 x0 x1 fu q194 q211 q221 20 0).bind fun q351 => match q351 with | .ret r => some r | .next () => some true))))))))))))))))))))))
end Go.Fp
