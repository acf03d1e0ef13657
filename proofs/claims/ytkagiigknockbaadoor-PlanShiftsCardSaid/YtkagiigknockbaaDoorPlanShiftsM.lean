/- The mirrors of the functions that PlanShifts reaches: plain Lean functions on data. No condition. -/
import Derived.Test.YtkagiigknockbaaDoorFpSb
import Derived.Test.YtkagiigknockbaaDoorFpWide
namespace Go.Fp
structure ApiStop where
  Station : Int
  Track : Int
  Arr : Int
  Dep : Int
  deriving DecidableEq, Inhabited
-- ApiStop is of one size
def ApiStop.cells (x : ApiStop) : List Go.Value := [.int .i64 x.Station, .int .i64 x.Track, .int .i64 x.Arr, .int .i64 x.Dep]
def RApiStop : Rd ApiStop := fun _ cs x => cs = x.cells
theorem RApiStop.mono : Rmono RApiStop := fun _ _ _ _ _ h => h
theorem RApiStop.one : Rone RApiStop := by intro s cs x h; subst h; rfl

structure ApiTrain where
  No : Int
  Stock : Int
  Stops : List ApiStop
  Legs : List (List Int)
  deriving DecidableEq, Inhabited
def szApiTrain (x : ApiTrain) : Nat := (szL sz1) x.Stops + (szL (szL sz1)) x.Legs + 1
def RApiTrain : Rd ApiTrain := fun s cs x => ∃ a0 c0 a1 c1, cs = [.int .i64 x.No, .int .i64 x.Stock, .slice a0 x.Stops.length c0, .slice a1 x.Legs.length c1] ∧ Sl 4 RApiStop s a0 c0 x.Stops ∧ Sl 1 (RL 1 (RI .i64)) s a1 c1 x.Legs
theorem RApiTrain.one : Rone RApiTrain := by rintro s cs x ⟨a0, c0, a1, c1, rfl, _⟩; rfl
theorem RApiTrain.mono : Rmono RApiTrain := fun _ _ h _ _ ⟨a0, c0, a1, c1, e, h0, h1⟩ => ⟨a0, c0, a1, c1, e, h0.mono RApiStop.mono h, h1.mono (RL.mono RI.mono) h⟩

structure ApiDay where
  Trains : List ApiTrain
  Turns : List (List Int)
  deriving DecidableEq, Inhabited
def szApiDay (x : ApiDay) : Nat := (szL szApiTrain) x.Trains + (szL (szL sz1)) x.Turns + 1
def RApiDay : Rd ApiDay := fun s cs x => ∃ a0 c0 a1 c1, cs = [.slice a0 x.Trains.length c0, .slice a1 x.Turns.length c1] ∧ Sl 4 RApiTrain s a0 c0 x.Trains ∧ Sl 1 (RL 1 (RI .i64)) s a1 c1 x.Turns
theorem RApiDay.one : Rone RApiDay := by rintro s cs x ⟨a0, c0, a1, c1, rfl, _⟩; rfl
theorem RApiDay.mono : Rmono RApiDay := fun _ _ h _ _ ⟨a0, c0, a1, c1, e, h0, h1⟩ => ⟨a0, c0, a1, c1, e, h0.mono RApiTrain.mono h, h1.mono (RL.mono RI.mono) h⟩
def Planwithin (x0 : Int) (x1 : Int) (x2 : Int) : Bool := (bnd ((if decide (x0 ≥ x1) then decide (x0 ≤ x2) else false) : Bool) fun q55 => q55)
def PlanhasStop (x0 : ApiDay) (x1 : Int) (x2 : Int) : Option Bool := (((if (Planwithin x1 0 (w64 (((x0.Trains).length : Int) - 1))) then ((gx x0.Trains x1).bind fun x59 => some (Planwithin x2 0 (w64 (((x59.Stops).length : Int) - 1)))) else some false) : Option Bool).bind fun q56 => some q56)
def SlicesCloneLapiTrain (x0 : List ApiTrain) : Option (List ApiTrain) := ((apw 64 [] x0).bind fun x56 => some x56)
def SlicesCloneLLint (x0 : List (List Int)) : Option (List (List Int)) := ((apw 24 [] x0).bind fun x56 => some x56)
def SlicesCloneLapiStop (x0 : List ApiStop) : Option (List ApiStop) := ((apw 32 [] x0).bind fun x56 => some x56)
def SlicesCloneLint (x0 : List Int) : Option (List Int) := ((apw 8 [] x0).bind fun x56 => some x56)
def Plancopied.loop1 : Nat → Nat → (List (List Int)) → Option (List (List Int))
  | 0, _, q82 => some q82
  | rest74 + 1, k72, q82 => ((gx q82 ((k72 : Nat) : Int)).bind fun x90 => ((SlicesCloneLint x90).bind fun q103 => ((ix q82 ((k72 : Nat) : Int)).bind fun _ => ((sx q82 ((k72 : Nat) : Int) q103).bind fun x119 => Plancopied.loop1 rest74 (k72 + 1) x119))))
def Plancopied (x0 : ApiTrain) : Option ApiTrain := ((SlicesCloneLapiStop x0.Stops).bind fun q54 => ((SlicesCloneLLint x0.Legs).bind fun q62 => ((Plancopied.loop1 q62.length 0 q62).bind fun q82 => some (ApiTrain.mk x0.No x0.Stock q54 q82))))
def Planown.loop1 : Nat → Nat → (List ApiTrain) → Option (List ApiTrain)
  | 0, _, q82 => some q82
  | rest74 + 1, k72, q82 => ((gx q82 ((k72 : Nat) : Int)).bind fun x90 => ((Plancopied x90).bind fun q106 => ((ix q82 ((k72 : Nat) : Int)).bind fun _ => ((sx q82 ((k72 : Nat) : Int) q106).bind fun x123 => Planown.loop1 rest74 (k72 + 1) x123))))
def Planown.loop2 : Nat → Nat → (List (List Int)) → Option (List (List Int))
  | 0, _, q140 => some q140
  | rest132 + 1, k130, q140 => ((gx q140 ((k130 : Nat) : Int)).bind fun x148 => ((SlicesCloneLint x148).bind fun q161 => ((ix q140 ((k130 : Nat) : Int)).bind fun _ => ((sx q140 ((k130 : Nat) : Int) q161).bind fun x177 => Planown.loop2 rest132 (k130 + 1) x177))))
def Planown (x0 : ApiDay) : Option ApiDay := ((SlicesCloneLapiTrain x0.Trains).bind fun q54 => ((SlicesCloneLLint x0.Turns).bind fun q62 => ((Planown.loop1 q54.length 0 q54).bind fun q82 => ((Planown.loop2 q62.length 0 q62).bind fun q140 => some (ApiDay.mk q82 q140)))))
def putStops (tr : List ApiTrain) (k : Nat) (u : List ApiStop) : List ApiTrain := match tr[k]? with
  | none => tr
  | some x => tr.set k { x with Stops := u }
def PlanShift_1_v1 (y0 : Int) (y1 : Int) : Bool × Int := (if !(Planwithin y0 (-3600) 32400) then (false, y0) else ((Planwithin (w64 (y0 + y1)) 0 28800), w64 (y0 + y1)))
def PlanShift.loop1 (x2 : Int) (x3 : Int) (x60 : ApiTrain) : Nat → Int → (List ApiStop) → (List ApiTrain) → (List (List Int)) → Option (Out (ApiDay × Int) (Int × (List ApiStop) × (List ApiTrain) × (List (List Int))))
  | 0, _, _, _, _ => none
  | n94 + 1, q98, q99, q105, q109 => (if decide (q98 < ((x60.Stops.length : Nat) : Int)) then (bnd ((if (q98 == 0) then true else (q98 == (w64 (((x60.Stops.length : Nat) : Int) - 1)))) : Bool) fun q119 => ((((gx q99 q98).bind fun x134 => (bnd (PlanShift_1_v1 x134.Dep x3) fun q147 => (bnd ((q99).set ((q98).toNat) (ApiStop.mk x134.Station x134.Track x134.Arr q147.2)) fun q149 => (if !q147.1 then some (true, q149) else (if decide (q98 > x2) then ((gx q149 q98).bind fun x156 => (bnd (PlanShift_1_v1 x156.Arr x3) fun q169 => (bnd ((q149).set ((q98).toNat) (ApiStop.mk x156.Station x156.Track q169.2 x156.Dep)) fun q171 => some (!q169.1, q171)))) else (if q119 then ((gx q149 q98).bind fun x177 => (bnd (PlanShift_1_v1 x177.Arr x3) fun q190 => (bnd ((q149).set ((q98).toNat) (ApiStop.mk x177.Station x177.Track q190.2 x177.Dep)) fun q192 => some (!q190.1, q192)))) else some (false, q149))))))) : Option (Bool × (List ApiStop))).bind fun q123 => match q123 with | (q126, q127) => (if q126 then some (.ret ((ApiDay.mk [] []), 13)) else PlanShift.loop1 x2 x3 x60 n94 (w64 (q98 + 1)) q127 q105 q109))) else some (.next (q98, q99, q105, q109)))
def PlanShift (fu : Nat) (x0 : ApiDay) (x1 : Int) (x2 : Int) (x3 : Int) : Option (ApiDay × Int) := ((PlanhasStop x0 x1 x2).bind fun q54 => (if !q54 then some ((ApiDay.mk [] []), 3) else (if !(Planwithin x3 (-3600) 3600) then some ((ApiDay.mk [] []), 2) else ((Planown x0).bind fun q58 => ((gx q58.Trains x1).bind fun x60 => ((PlanShift.loop1 x2 x3 x60 fu x2 x60.Stops [] []).bind fun q93 => match q93 with | .ret r => some r | .next (_, q99, _, _) => some ((ApiDay.mk (putStops q58.Trains (x1).toNat q99) q58.Turns), 0)))))))
def Fishref2within (x0 : Int) (x1 : Int) (x2 : Int) : Bool := (bnd ((if decide (x0 ≥ x1) then decide (x0 ≤ x2) else false) : Bool) fun q55 => q55)
def Fishref2ShiftOf_1_v1 (y0 : Int) (y1 : Bool) (y2 : Int) : Int × Bool := (bnd ((if y1 then (if decide (y0 ≥ (w64 (0 - y2))) then decide (y0 ≤ (w64 (28800 - y2))) else false) else false) : Bool) fun q57 => (bnd ((if q57 then w64 (y0 + y2) else y0) : Int) fun q66 => (q66, q57)))
def Fishref2ShiftOf.loop1 (x2 : Int) (x3 : Int) (q95 : (List ApiStop)) : Nat → Int → (List ApiStop) → Bool → Option (Int × (List ApiStop) × Bool)
  | 0, _, _, _ => none
  | n106 + 1, q110, q111, q117 => (if decide (q110 < ((q95.length : Nat) : Int)) then (bnd ((if decide (q110 > x2) then true else (if (q110 == 0) then true else (q110 == (w64 (((q95.length : Nat) : Int) - 1))))) : Bool) fun q124 => (if q124 then ((gx q111 q110).bind fun x129 => (bnd (Fishref2ShiftOf_1_v1 x129.Arr q117 x3) fun q142 => (bnd ((q111).set ((q110).toNat) (ApiStop.mk x129.Station x129.Track q142.1 x129.Dep)) fun q144 => ((gx q144 q110).bind fun x149 => (bnd (Fishref2ShiftOf_1_v1 x149.Dep q142.2 x3) fun q162 => (bnd ((q144).set ((q110).toNat) (ApiStop.mk x149.Station x149.Track x149.Arr q162.1)) fun q164 => Fishref2ShiftOf.loop1 x2 x3 q95 n106 (w64 (q110 + 1)) q164 q162.2)))))) else ((gx q111 q110).bind fun x169 => (bnd (Fishref2ShiftOf_1_v1 x169.Dep q117 x3) fun q182 => (bnd ((q111).set ((q110).toNat) (ApiStop.mk x169.Station x169.Track x169.Arr q182.1)) fun q184 => Fishref2ShiftOf.loop1 x2 x3 q95 n106 (w64 (q110 + 1)) q184 q182.2))))) else some (q110, q111, q117))
def Fishref2ShiftOf (fu : Nat) (x0 : ApiDay) (x1 : Int) (x2 : Int) (x3 : Int) : Option (ApiDay × Int) := (((if decide (x1 < 0) then some true else (if decide (x1 ≥ ((x0.Trains).length : Int)) then some true else (if decide (x2 < 0) then some true else ((gx x0.Trains x1).bind fun x63 => some (decide (x2 ≥ ((x63.Stops).length : Int))))))) : Option Bool).bind fun q58 => (if q58 then some ((ApiDay.mk [] []), 3) else (if !(Fishref2within x3 (-3600) 3600) then some ((ApiDay.mk [] []), 2) else ((gx x0.Trains x1).bind fun x80 => ((SlicesCloneLapiStop x80.Stops).bind fun q95 => ((Fishref2ShiftOf.loop1 x2 x3 q95 fu x2 q95 true).bind fun q105 => match q105 with | (_, q111, q117) => (if !q117 then some ((ApiDay.mk [] []), 13) else ((SlicesCloneLapiTrain x0.Trains).bind fun q191 => ((gx q191 x1).bind fun x201 => (bnd ((q191).set ((x1).toNat) (ApiTrain.mk x201.No x201.Stock q111 x201.Legs)) fun q223 => some ((ApiDay.mk q223 x0.Turns), 0)))))))))))
def Planform.loop2 : (List (List Int)) → Out Int Unit
  | [] => (.next ())
  | x94 :: rest95 => (if (((x94).length : Int) == 0) then (.ret 1) else Planform.loop2 rest95)
def Planform.loop3 : (List (List Int)) → Out Int Unit
  | [] => (.next ())
  | x115 :: rest116 => (if decide (((x115).length : Int) > 4) then (.ret 4) else Planform.loop3 rest116)
def Planform.loop1 : (List ApiTrain) → Out Int Unit
  | [] => (.next ())
  | x63 :: rest64 => (bnd ((if (((x63.Stops).length : Int) == 0) then true else (((x63.Legs).length : Int) != (w64 (((x63.Stops).length : Int) - 1)))) : Bool) fun q87 => (if q87 then (.ret 1) else (bnd (Planform.loop2 x63.Legs) fun q92 => match q92 with | .ret r => (.ret r) | .next () => (if decide (((x63.Stops).length : Int) > 8) then (.ret 4) else (bnd (Planform.loop3 x63.Legs) fun q113 => match q113 with | .ret r => (.ret r) | .next () => Planform.loop1 rest64)))))
def Planform.loop4 : (List (List Int)) → Out Int Unit
  | [] => (.next ())
  | x135 :: rest136 => (if (((x135).length : Int) == 0) then (.ret 1) else (if decide (((x135).length : Int) > 12) then (.ret 4) else Planform.loop4 rest136))
def Planform (x0 : ApiDay) : Int := (bnd ((if decide (((x0.Trains).length : Int) > 12) then true else decide (((x0.Turns).length : Int) > 8)) : Bool) fun q56 => (if q56 then 4 else (bnd (Planform.loop1 x0.Trains) fun q61 => match q61 with | .ret r => r | .next () => (bnd (Planform.loop4 x0.Turns) fun q133 => match q133 with | .ret r => r | .next () => 0))))
def InternalStrconvsmall (x0 : Int) : Option ByteArray := (if decide (x0 < 10) then ((scut (str [48, 49, 50, 51, 52, 53, 54, 55, 56, 57, 97, 98, 99, 100, 101, 102, 103, 104, 105, 106, 107, 108, 109, 110, 111, 112, 113, 114, 115, 116, 117, 118, 119, 120, 121, 122]) x0 (w64 (x0 + 1))).bind fun x52 => some x52) else ((scut (str [48, 48, 48, 49, 48, 50, 48, 51, 48, 52, 48, 53, 48, 54, 48, 55, 48, 56, 48, 57, 49, 48, 49, 49, 49, 50, 49, 51, 49, 52, 49, 53, 49, 54, 49, 55, 49, 56, 49, 57, 50, 48, 50, 49, 50, 50, 50, 51, 50, 52, 50, 53, 50, 54, 50, 55, 50, 56, 50, 57, 51, 48, 51, 49, 51, 50, 51, 51, 51, 52, 51, 53, 51, 54, 51, 55, 51, 56, 51, 57, 52, 48, 52, 49, 52, 50, 52, 51, 52, 52, 52, 53, 52, 54, 52, 55, 52, 56, 52, 57, 53, 48, 53, 49, 53, 50, 53, 51, 53, 52, 53, 53, 53, 54, 53, 55, 53, 56, 53, 57, 54, 48, 54, 49, 54, 50, 54, 51, 54, 52, 54, 53, 54, 54, 54, 55, 54, 56, 54, 57, 55, 48, 55, 49, 55, 50, 55, 51, 55, 52, 55, 53, 55, 54, 55, 55, 55, 56, 55, 57, 56, 48, 56, 49, 56, 50, 56, 51, 56, 52, 56, 53, 56, 54, 56, 55, 56, 56, 56, 57, 57, 48, 57, 49, 57, 50, 57, 51, 57, 52, 57, 53, 57, 54, 57, 55, 57, 56, 57, 57]) (w64 (x0 * 2)) (w64 ((w64 (x0 * 2)) + 2))).bind fun x54 => some x54))
def MathBitsLen64 (x0 : Int) : Option Int := (bnd ((if decide (x0 ≥ 4294967296) then (Int.fdiv x0 (2 ^ (min (Int.toNat 32) (IntKind.bits .u64))), 32) else (x0, 0)) : Int × Int) fun q52 => match q52 with | (q55, q56) => (bnd ((if decide (q55 ≥ 65536) then (Int.fdiv q55 (2 ^ (min (Int.toNat 16) (IntKind.bits .u64))), w64 (q56 + 16)) else (q55, q56)) : Int × Int) fun q60 => match q60 with | (q63, q64) => (bnd ((if decide (q63 ≥ 256) then (Int.fdiv q63 (2 ^ (min (Int.toNat 8) (IntKind.bits .u64))), w64 (q64 + 8)) else (q63, q64)) : Int × Int) fun q68 => match q68 with | (q71, q72) => ((sgx (str [0, 1, 2, 2, 3, 3, 3, 3, 4, 4, 4, 4, 4, 4, 4, 4, 5, 5, 5, 5, 5, 5, 5, 5, 5, 5, 5, 5, 5, 5, 5, 5, 6, 6, 6, 6, 6, 6, 6, 6, 6, 6, 6, 6, 6, 6, 6, 6, 6, 6, 6, 6, 6, 6, 6, 6, 6, 6, 6, 6, 6, 6, 6, 6, 7, 7, 7, 7, 7, 7, 7, 7, 7, 7, 7, 7, 7, 7, 7, 7, 7, 7, 7, 7, 7, 7, 7, 7, 7, 7, 7, 7, 7, 7, 7, 7, 7, 7, 7, 7, 7, 7, 7, 7, 7, 7, 7, 7, 7, 7, 7, 7, 7, 7, 7, 7, 7, 7, 7, 7, 7, 7, 7, 7, 7, 7, 7, 7, 8, 8, 8, 8, 8, 8, 8, 8, 8, 8, 8, 8, 8, 8, 8, 8, 8, 8, 8, 8, 8, 8, 8, 8, 8, 8, 8, 8, 8, 8, 8, 8, 8, 8, 8, 8, 8, 8, 8, 8, 8, 8, 8, 8, 8, 8, 8, 8, 8, 8, 8, 8, 8, 8, 8, 8, 8, 8, 8, 8, 8, 8, 8, 8, 8, 8, 8, 8, 8, 8, 8, 8, 8, 8, 8, 8, 8, 8, 8, 8, 8, 8, 8, 8, 8, 8, 8, 8, 8, 8, 8, 8, 8, 8, 8, 8, 8, 8, 8, 8, 8, 8, 8, 8, 8, 8, 8, 8, 8, 8, 8, 8, 8, 8, 8, 8, 8, 8, 8, 8, 8, 8, 8, 8, 8, 8, 8, 8]) (IntKind.wrap .u8 q71)).bind fun x75 => some (w64 (q72 + (w64 x75)))))))
def InternalStrconvlog10Pow2 (x0 : Int) : Int := Int.fdiv (w64 (x0 * 78913)) (2 ^ (min (Int.toNat 18) (IntKind.bits .i64)))
def InternalStrconvisPowerOfTwo (x0 : Int) : Bool := ((IntKind.wrap .i64 ((BitVec.ofInt (IntKind.bits .i64) x0 &&& BitVec.ofInt (IntKind.bits .i64) (w64 (x0 - 1))).toNat : Int)) == 0)
def MathBitsTrailingZeros (_x0 : Int) : Option Int := none
def InternalStrconvFormatInt (x0 : Int) (x1 : Int) : Option ByteArray := (if (x1 == 10) then (bnd ((if decide (0 ≤ x0) then decide (x0 < 100) else false) : Bool) fun q56 => (if q56 then ((InternalStrconvsmall x0).bind fun q60 => some q60) else (bnd ((if decide (x0 < 0) then IntKind.wrap .u64 (0 - (IntKind.wrap .u64 x0)) else IntKind.wrap .u64 x0) : Int) fun _ => none))) else none)
def InternalStrconvItoa (x0 : Int) : Option ByteArray := ((InternalStrconvFormatInt x0 10).bind fun q51 => some q51)
def StrconvItoa (x0 : Int) : Option ByteArray := ((InternalStrconvItoa x0).bind fun q51 => some q51)
def Plansentence.loop1 : (List Int) → ByteArray → Option ByteArray
  | [], q62 => some q62
  | x54 :: rest55, q62 => ((StrconvItoa x54).bind fun q68 => ((scat (str [32]) q68).bind fun x70 => ((scat q62 x70).bind fun x72 => Plansentence.loop1 rest55 x72)))
def Plansentence (x0 : ByteArray) (x1 : List Int) : Option ByteArray := ((Plansentence.loop1 x1 x0).bind fun q62 => ((scat q62 (str [10])).bind fun x74 => some x74))
def PlanText_1_v1.loop1 : (List Int) → Bool → Bool
  | [], q64 => q64
  | x56 :: rest57, q64 => (bnd ((if q64 then (Planwithin x56 0 999999) else false) : Bool) fun q74 => PlanText_1_v1.loop1 rest57 q74)
def PlanText_1_v1 (x0 : ByteArray) (x1 : List Int) (y0 : Bool) (y1_0 : ByteArray) : Option (Bool × ByteArray) := (bnd (PlanText_1_v1.loop1 x1 y0) fun q64 => ((Plansentence x0 x1).bind fun q77 => ((sbw y1_0 q77).bind fun q79 => some (q64, q79))))
def PlanText.loop2 : (List ApiStop) → ByteArray → Bool → Option (ByteArray × Bool)
  | [], q99, q100 => some (q99, q100)
  | x91 :: rest92, q99, q100 => ((PlanText_1_v1 (str [115, 116, 111, 112]) [x91.Station, x91.Track, x91.Arr, x91.Dep] q100 q99).bind fun q113 => PlanText.loop2 rest92 q113.2 q113.1)
def PlanText.loop3 : (List (List Int)) → ByteArray → Bool → Option (ByteArray × Bool)
  | [], q126, q127 => some (q126, q127)
  | x118 :: rest119, q126, q127 => ((PlanText_1_v1 (str [108, 101, 103]) x118 q127 q126).bind fun q136 => PlanText.loop3 rest119 q136.2 q136.1)
def PlanText.loop1 : (List ApiTrain) → ByteArray → Bool → Option (ByteArray × Bool)
  | [], q66, q67 => some (q66, q67)
  | x58 :: rest59, q66, q67 => ((PlanText_1_v1 (str [116, 114, 97, 105, 110]) [x58.No, x58.Stock] q67 q66).bind fun q86 => ((PlanText.loop2 x58.Stops q86.2 q86.1).bind fun q89 => match q89 with | (q99, q100) => ((PlanText.loop3 x58.Legs q99 q100).bind fun q116 => match q116 with | (q126, q127) => PlanText.loop1 rest59 q126 q127)))
def PlanText.loop4 : (List (List Int)) → ByteArray → Bool → Option (ByteArray × Bool)
  | [], q149, q150 => some (q149, q150)
  | x141 :: rest142, q149, q150 => ((PlanText_1_v1 (str [116, 117, 114, 110]) x141 q150 q149).bind fun q159 => PlanText.loop4 rest142 q159.2 q159.1)
def PlanText (x0 : ApiDay) : Option (ByteArray × Int) := (if ((Planform x0) != 0) then some ((str []), (Planform x0)) else ((PlanText.loop1 x0.Trains ByteArray.empty true).bind fun q56 => match q56 with | (q66, q67) => ((PlanText.loop4 x0.Turns q66 q67).bind fun q139 => match q139 with | (q149, q150) => (if !q150 then some ((str []), 2) else some (q149, 0)))))
def Fishlaw2plans : Option Bool := ((PlanText (ApiDay.mk [(ApiTrain.mk 7 0 [(ApiStop.mk 0 0 0 3), (ApiStop.mk 1 5 9 9)] [[0, 3]])] [[0]])).bind fun q87 => (bnd ((if (q87.2 == 0) then (seq q87.1 (str [116, 114, 97, 105, 110, 32, 55, 32, 48, 10, 115, 116, 111, 112, 32, 48, 32, 48, 32, 48, 32, 51, 10, 115, 116, 111, 112, 32, 49, 32, 53, 32, 57, 32, 57, 10, 108, 101, 103, 32, 48, 32, 51, 10, 116, 117, 114, 110, 32, 48, 10])) else false) : Bool) fun q93 => some q93))
def SlicesEqualLapiStop.loop1 (x1 : List ApiStop) : (List ApiStop) → Nat → Option (Out Bool Unit)
  | [], _ => some (.next ())
  | x55 :: rest56, k54 => ((gx x1 ((k54 : Nat) : Int)).bind fun x68 => (if !((x55.Station == x68.Station) && ((x55.Track == x68.Track) && ((x55.Arr == x68.Arr) && (x55.Dep == x68.Dep)))) then some (.ret false) else SlicesEqualLapiStop.loop1 x1 rest56 (k54 + 1)))
def SlicesEqualLapiStop (x0 : List ApiStop) (x1 : List ApiStop) : Option Bool := (if (((x0).length : Int) != ((x1).length : Int)) then some false else ((SlicesEqualLapiStop.loop1 x1 x0 0).bind fun q53 => match q53 with | .ret r => some r | .next () => some true))
def SlicesEqualLint.loop1 (x1 : List Int) : (List Int) → Nat → Option (Out Bool Unit)
  | [], _ => some (.next ())
  | x55 :: rest56, k54 => ((gx x1 ((k54 : Nat) : Int)).bind fun x68 => (if (x55 != x68) then some (.ret false) else SlicesEqualLint.loop1 x1 rest56 (k54 + 1)))
def SlicesEqualLint (x0 : List Int) (x1 : List Int) : Option Bool := (if (((x0).length : Int) != ((x1).length : Int)) then some false else ((SlicesEqualLint.loop1 x1 x0 0).bind fun q53 => match q53 with | .ret r => some r | .next () => some true))
def SlicesEqualFuncLLint_v1.loop1 (x1 : List (List Int)) : (List (List Int)) → Nat → Option (Out Bool Unit)
  | [], _ => some (.next ())
  | x55 :: rest56, k54 => ((gx x1 ((k54 : Nat) : Int)).bind fun x71 => ((SlicesEqualLint x55 x71).bind fun q83 => (if !q83 then some (.ret false) else SlicesEqualFuncLLint_v1.loop1 x1 rest56 (k54 + 1))))
def SlicesEqualFuncLLint_v1 (x0 : List (List Int)) (x1 : List (List Int)) : Option Bool := (if (((x0).length : Int) != ((x1).length : Int)) then some false else ((SlicesEqualFuncLLint_v1.loop1 x1 x0 0).bind fun q53 => match q53 with | .ret r => some r | .next () => some true))
def Fishref2SameTrain (x0 : ApiTrain) (x1 : ApiTrain) : Option Bool := (((if (x0.No == x1.No) then (if (x0.Stock == x1.Stock) then ((SlicesEqualLapiStop x0.Stops x1.Stops).bind fun q61 => (if q61 then ((SlicesEqualFuncLLint_v1 x0.Legs x1.Legs).bind fun q64 => some q64) else some false)) else some false) else some false) : Option Bool).bind fun q57 => some q57)
def SlicesEqualFuncLapiTrain_v1.loop1 (x1 : List ApiTrain) : (List ApiTrain) → Nat → Option (Out Bool Unit)
  | [], _ => some (.next ())
  | x55 :: rest56, k54 => ((gx x1 ((k54 : Nat) : Int)).bind fun x75 => ((Fishref2SameTrain x55 x75).bind fun q91 => (if !q91 then some (.ret false) else SlicesEqualFuncLapiTrain_v1.loop1 x1 rest56 (k54 + 1))))
def SlicesEqualFuncLapiTrain_v1 (x0 : List ApiTrain) (x1 : List ApiTrain) : Option Bool := (if (((x0).length : Int) != ((x1).length : Int)) then some false else ((SlicesEqualFuncLapiTrain_v1.loop1 x1 x0 0).bind fun q53 => match q53 with | .ret r => some r | .next () => some true))
def Fishref2SameDay (x0 : ApiDay) (x1 : ApiDay) : Option Bool := ((((SlicesEqualFuncLapiTrain_v1 x0.Trains x1.Trains).bind fun q59 => (if q59 then ((SlicesEqualFuncLLint_v1 x0.Turns x1.Turns).bind fun q62 => some q62) else some false)) : Option Bool).bind fun q57 => some q57)
def Fishlaw2PlanShifts (fu : Nat) (x0 : ApiDay) (x1 : Int) (x2 : Int) (x3 : Int) : Option Bool := ((PlanShift fu x0 x1 x2 x3).bind fun q52 => ((Fishref2ShiftOf fu x0 x1 x2 x3).bind fun q65 => ((((Fishlaw2plans).bind fun q84 => (if q84 then (if (q52.2 == q65.2) then ((Fishref2SameDay q52.1 q65.1).bind fun q88 => some q88) else some false) else some false)) : Option Bool).bind fun q82 => some q82)))
end Go.Fp
