/- The mirrors of the functions that PlanAssigns reaches: plain Lean functions on data. No condition. -/
import Derived.Test.YtpogcicepceljaaDoorFpAllS
namespace Go.Fp
structure ApiStop where
  Station : Int
  Track : Int
  Arr : Int
  Dep : Int
  deriving DecidableEq, Inhabited
-- ApiStop is of one size
def ApiStop.cells (x : ApiStop) : List Go.Value := [.int .i64 x.Station, .int .i64 x.Track, .int .i64 x.Arr, .int .i64 x.Dep]
def RApiStop : Rd ApiStop := fun _ cs x => cs = x.cells
theorem RApiStop.mono : Rmono RApiStop := fun _ _ _ _ _ h => h
theorem RApiStop.one : Rone RApiStop := by intro s cs x h; subst h; rfl

structure ApiTrain where
  No : Int
  Stock : Int
  Stops : List ApiStop
  Legs : List (List Int)
  deriving DecidableEq, Inhabited
def szApiTrain (x : ApiTrain) : Nat := (szL sz1) x.Stops + (szL (szL sz1)) x.Legs + 1
def RApiTrain : Rd ApiTrain := fun s cs x => ∃ a0 c0 a1 c1, cs = [.int .i64 x.No, .int .i64 x.Stock, .slice a0 x.Stops.length c0, .slice a1 x.Legs.length c1] ∧ Sl 4 RApiStop s a0 c0 x.Stops ∧ Sl 1 (RL 1 (RI .i64)) s a1 c1 x.Legs
theorem RApiTrain.one : Rone RApiTrain := by rintro s cs x ⟨a0, c0, a1, c1, rfl, _⟩; rfl
theorem RApiTrain.mono : Rmono RApiTrain := fun _ _ h _ _ ⟨a0, c0, a1, c1, e, h0, h1⟩ => ⟨a0, c0, a1, c1, e, h0.mono RApiStop.mono h, h1.mono (RL.mono RI.mono) h⟩

structure ApiDay where
  Trains : List ApiTrain
  Turns : List (List Int)
  deriving DecidableEq, Inhabited
def szApiDay (x : ApiDay) : Nat := (szL szApiTrain) x.Trains + (szL (szL sz1)) x.Turns + 1
def RApiDay : Rd ApiDay := fun s cs x => ∃ a0 c0 a1 c1, cs = [.slice a0 x.Trains.length c0, .slice a1 x.Turns.length c1] ∧ Sl 4 RApiTrain s a0 c0 x.Trains ∧ Sl 1 (RL 1 (RI .i64)) s a1 c1 x.Turns
theorem RApiDay.one : Rone RApiDay := by rintro s cs x ⟨a0, c0, a1, c1, rfl, _⟩; rfl
theorem RApiDay.mono : Rmono RApiDay := fun _ _ h _ _ ⟨a0, c0, a1, c1, e, h0, h1⟩ => ⟨a0, c0, a1, c1, e, h0.mono RApiTrain.mono h, h1.mono (RL.mono RI.mono) h⟩

structure PlanStay where
  From : Int
  To : Int
  May : List Int
  deriving DecidableEq, Inhabited
def szPlanStay (x : PlanStay) : Nat := (szL sz1) x.May + 1
def RPlanStay : Rd PlanStay := fun s cs x => ∃ a0 c0, cs = [.int .i64 x.From, .int .i64 x.To, .slice a0 x.May.length c0] ∧ Sl 1 (RI .i64) s a0 c0 x.May
theorem RPlanStay.one : Rone RPlanStay := by rintro s cs x ⟨a0, c0, rfl, _⟩; rfl
theorem RPlanStay.mono : Rmono RPlanStay := fun _ _ h _ _ ⟨a0, c0, e, h0⟩ => ⟨a0, c0, e, h0.mono RI.mono h⟩
def Planwithin (x0 : Int) (x1 : Int) (x2 : Int) : Bool := (bnd ((if decide (x0 ≥ x1) then decide (x0 ≤ x2) else false) : Bool) fun q55 => q55)
def SlicesCollectint_v1 (y0 : List Int) : Option (List Int) := ((apd [] y0).bind fun q51 => some q51)
def SlicesSortedint_v1 (y0 : List Int) : Option (List Int) := ((SlicesCollectint_v1 y0).bind fun q51 => ((srt q51).bind fun q62 => some q62))
def PlanAssign_1_v1.loop2 (x0 : Int) (y0 : List PlanStay) (x105 : Int) (x115 : List Int) : Nat → Nat → Option (Out Unit Unit)
  | 0, _ => some (.next ())
  | rest129 + 1, k127 => ((gx x115 ((k127 : Nat) : Int)).bind fun x137 => (((if (x105 == x137) then ((gx y0 ((k127 : Nat) : Int)).bind fun x155 => ((gx y0 x0).bind fun x167 => (if decide (x155.From < x167.To) then ((gx y0 x0).bind fun x180 => ((gx y0 ((k127 : Nat) : Int)).bind fun x192 => some (decide (x180.From < x192.To)))) else some false))) else some false) : Option Bool).bind fun q152 => (if q152 then some (.ret ()) else PlanAssign_1_v1.loop2 x0 y0 x105 x115 rest129 (k127 + 1))))
def PlanAssign_1_v1.loop1 (x0 : Int) (y0 : List PlanStay) (self_PlanAssign_1_v1 : Int → (List PlanStay) → (List Int) → Option (Bool × (List Int))) (q82 : List Int) : Nat → Nat → (List Int) → Option (Out (Bool × (List Int)) (List Int))
  | 0, _, q98 => some (.next q98)
  | rest90 + 1, k88, q98 => ((gx q82 ((k88 : Nat) : Int)).bind fun x105 => ((cutl q98 0 x0).bind fun x115 => ((PlanAssign_1_v1.loop2 x0 y0 x105 x115 ((x0).toNat) 0).bind fun q126 => match q126 with | .ret () => PlanAssign_1_v1.loop1 x0 y0 self_PlanAssign_1_v1 q82 rest90 (k88 + 1) q98 | .next () => ((ix q98 x0).bind fun _ => ((sx q98 x0 x105).bind fun x210 => ((self_PlanAssign_1_v1 (w64 (x0 + 1)) y0 x210).bind fun q215 => (if q215.1 then some (.ret (true, q215.2)) else PlanAssign_1_v1.loop1 x0 y0 self_PlanAssign_1_v1 q82 rest90 (k88 + 1) q215.2)))))))
def PlanAssign_1_v1 : Nat → Int → (List PlanStay) → (List Int) → Option (Bool × (List Int))
  | 0, _, _, _ => none
  | fu + 1, x0, y0, y1 => (if (x0 == ((y0).length : Int)) then some (true, y1) else ((gx y0 x0).bind fun x58 => ((SlicesSortedint_v1 x58.May).bind fun q71 => (bnd (Lib.compact q71) fun q82 => ((PlanAssign_1_v1.loop1 x0 y0 (PlanAssign_1_v1 fu) q82 q82.length 0 y1).bind fun q87 => match q87 with | .ret r => some r | .next q98 => some (false, q98))))))
def PlanAssign.loop1 : (List PlanStay) → Out ((List Int) × Int) Unit
  | [] => (.next ())
  | x57 :: rest58 => (bnd ((if !(Planwithin x57.From 0 28800) then true else !(Planwithin x57.To 0 28800)) : Bool) fun q78 => (if q78 then (.ret ([], 2)) else (if decide (x57.To ≤ x57.From) then (.ret ([], 5)) else (if decide (((x57.May).length : Int) > 10) then (.ret ([], 4)) else PlanAssign.loop1 rest58))))
def PlanAssign (fu : Nat) (x0 : List PlanStay) : Option ((List Int) × Int) := (if decide (((x0).length : Int) > 10) then some ([], 4) else (bnd (PlanAssign.loop1 x0) fun q55 => match q55 with | .ret r => some r | .next () => ((mks ((x0).length : Int) (0 : Int)).bind fun x87 => ((PlanAssign_1_v1 fu 0 x0 x87).bind fun q95 => (if !q95.1 then some ([], 9) else some (q95.2, 0))))))
def Fishref2within (x0 : Int) (x1 : Int) (x2 : Int) : Bool := (bnd ((if decide (x0 ≥ x1) then decide (x0 ≤ x2) else false) : Bool) fun q55 => q55)
def Fishref2AssignStays_1_v1.loop2 (y0 : List Int) (y1 : List PlanStay) (q92 : List Int) (x100 : Int) : Nat → Nat → Bool → Option Bool
  | 0, _, q122 => some q122
  | rest114 + 1, k112, q122 => ((gx q92 ((k112 : Nat) : Int)).bind fun x124 => (((if q122 then (if (x124 != x100) then some true else ((gx y1 ((k112 : Nat) : Int)).bind fun x142 => ((gx y1 ((y0.length : Nat) : Int)).bind fun x154 => (if decide (x142.From ≥ x154.To) then some true else ((gx y1 ((y0.length : Nat) : Int)).bind fun x167 => ((gx y1 ((k112 : Nat) : Int)).bind fun x179 => some (decide (x167.From ≥ x179.To)))))))) else some false) : Option Bool).bind fun q138 => Fishref2AssignStays_1_v1.loop2 y0 y1 q92 x100 rest114 (k112 + 1) q138))
def Fishref2AssignStays_1_v1.loop1 (y0 : List Int) (y1 : List PlanStay) (self_Fishref2AssignStays_1_v1 : (List Int) → (List PlanStay) → Option (Bool × (List Int))) (q72 : (List Int)) : Nat → Nat → (List Int) → Option (Out (Bool × (List Int)) (List Int))
  | 0, _, q92 => some (.next q92)
  | rest84 + 1, k82, q92 => ((gx q72 ((k82 : Nat) : Int)).bind fun x100 => ((Fishref2AssignStays_1_v1.loop2 y0 y1 q92 x100 q92.length 0 true).bind fun q122 => (((if q122 then ((apd q92 [x100]).bind fun x205 => ((self_Fishref2AssignStays_1_v1 x205 y1).bind fun q211 => (if q211.1 then some (.ret (true, q211.2)) else ((cutl q211.2 0 ((y0.length : Nat) : Int)).bind fun x219 => some (.next x219))))) else some (.next q92)) : Option (Out (Bool × (List Int)) (List Int))).bind fun q192 => match q192 with | .ret r => some (.ret r) | .next q195 => Fishref2AssignStays_1_v1.loop1 y0 y1 self_Fishref2AssignStays_1_v1 q72 rest84 (k82 + 1) q195)))
def Fishref2AssignStays_1_v1 : Nat → (List Int) → (List PlanStay) → Option (Bool × (List Int))
  | 0, _, _ => none
  | fu + 1, y0, y1 => (if (((y0.length : Nat) : Int) == ((y1).length : Int)) then some (true, y0) else ((gx y1 ((y0.length : Nat) : Int)).bind fun x59 => ((SlicesSortedint_v1 x59.May).bind fun q72 => ((Fishref2AssignStays_1_v1.loop1 y0 y1 (Fishref2AssignStays_1_v1 fu) q72 q72.length 0 y0).bind fun q81 => match q81 with | .ret r => some r | .next q92 => some (false, q92)))))
def Fishref2AssignStays.loop1 : (List PlanStay) → Out ((List Int) × Int) Unit
  | [] => (.next ())
  | x57 :: rest58 => (bnd ((if !(Fishref2within x57.From 0 28800) then true else !(Fishref2within x57.To 0 28800)) : Bool) fun q78 => (if q78 then (.ret ([], 2)) else (if decide (x57.To ≤ x57.From) then (.ret ([], 5)) else (if decide (((x57.May).length : Int) > 10) then (.ret ([], 4)) else Fishref2AssignStays.loop1 rest58))))
def Fishref2AssignStays (fu : Nat) (x0 : List PlanStay) : Option ((List Int) × Int) := (if decide (((x0).length : Int) > 10) then some ([], 4) else (bnd (Fishref2AssignStays.loop1 x0) fun q55 => match q55 with | .ret r => some r | .next () => ((Fishref2AssignStays_1_v1 fu [] x0).bind fun q90 => (if !q90.1 then some ([], 9) else some (q90.2, 0)))))
def Planform.loop2 : (List (List Int)) → Out Int Unit
  | [] => (.next ())
  | x94 :: rest95 => (if (((x94).length : Int) == 0) then (.ret 1) else Planform.loop2 rest95)
def Planform.loop3 : (List (List Int)) → Out Int Unit
  | [] => (.next ())
  | x115 :: rest116 => (if decide (((x115).length : Int) > 4) then (.ret 4) else Planform.loop3 rest116)
def Planform.loop1 : (List ApiTrain) → Out Int Unit
  | [] => (.next ())
  | x63 :: rest64 => (bnd ((if (((x63.Stops).length : Int) == 0) then true else (((x63.Legs).length : Int) != (w64 (((x63.Stops).length : Int) - 1)))) : Bool) fun q87 => (if q87 then (.ret 1) else (bnd (Planform.loop2 x63.Legs) fun q92 => match q92 with | .ret r => (.ret r) | .next () => (if decide (((x63.Stops).length : Int) > 8) then (.ret 4) else (bnd (Planform.loop3 x63.Legs) fun q113 => match q113 with | .ret r => (.ret r) | .next () => Planform.loop1 rest64)))))
def Planform.loop4 : (List (List Int)) → Out Int Unit
  | [] => (.next ())
  | x135 :: rest136 => (if (((x135).length : Int) == 0) then (.ret 1) else (if decide (((x135).length : Int) > 12) then (.ret 4) else Planform.loop4 rest136))
def Planform (x0 : ApiDay) : Int := (bnd ((if decide (((x0.Trains).length : Int) > 12) then true else decide (((x0.Turns).length : Int) > 8)) : Bool) fun q56 => (if q56 then 4 else (bnd (Planform.loop1 x0.Trains) fun q61 => match q61 with | .ret r => r | .next () => (bnd (Planform.loop4 x0.Turns) fun q133 => match q133 with | .ret r => r | .next () => 0))))
def InternalStrconvsmall (x0 : Int) : Option ByteArray := (if decide (x0 < 10) then ((scut (str [48, 49, 50, 51, 52, 53, 54, 55, 56, 57, 97, 98, 99, 100, 101, 102, 103, 104, 105, 106, 107, 108, 109, 110, 111, 112, 113, 114, 115, 116, 117, 118, 119, 120, 121, 122]) x0 (w64 (x0 + 1))).bind fun x52 => some x52) else ((scut (str [48, 48, 48, 49, 48, 50, 48, 51, 48, 52, 48, 53, 48, 54, 48, 55, 48, 56, 48, 57, 49, 48, 49, 49, 49, 50, 49, 51, 49, 52, 49, 53, 49, 54, 49, 55, 49, 56, 49, 57, 50, 48, 50, 49, 50, 50, 50, 51, 50, 52, 50, 53, 50, 54, 50, 55, 50, 56, 50, 57, 51, 48, 51, 49, 51, 50, 51, 51, 51, 52, 51, 53, 51, 54, 51, 55, 51, 56, 51, 57, 52, 48, 52, 49, 52, 50, 52, 51, 52, 52, 52, 53, 52, 54, 52, 55, 52, 56, 52, 57, 53, 48, 53, 49, 53, 50, 53, 51, 53, 52, 53, 53, 53, 54, 53, 55, 53, 56, 53, 57, 54, 48, 54, 49, 54, 50, 54, 51, 54, 52, 54, 53, 54, 54, 54, 55, 54, 56, 54, 57, 55, 48, 55, 49, 55, 50, 55, 51, 55, 52, 55, 53, 55, 54, 55, 55, 55, 56, 55, 57, 56, 48, 56, 49, 56, 50, 56, 51, 56, 52, 56, 53, 56, 54, 56, 55, 56, 56, 56, 57, 57, 48, 57, 49, 57, 50, 57, 51, 57, 52, 57, 53, 57, 54, 57, 55, 57, 56, 57, 57]) (w64 (x0 * 2)) (w64 ((w64 (x0 * 2)) + 2))).bind fun x54 => some x54))
def MathBitsLen64 (x0 : Int) : Option Int := (bnd ((if decide (x0 ≥ 4294967296) then (Int.fdiv x0 (2 ^ (min (Int.toNat 32) (IntKind.bits .u64))), 32) else (x0, 0)) : Int × Int) fun q52 => match q52 with | (q55, q56) => (bnd ((if decide (q55 ≥ 65536) then (Int.fdiv q55 (2 ^ (min (Int.toNat 16) (IntKind.bits .u64))), w64 (q56 + 16)) else (q55, q56)) : Int × Int) fun q60 => match q60 with | (q63, q64) => (bnd ((if decide (q63 ≥ 256) then (Int.fdiv q63 (2 ^ (min (Int.toNat 8) (IntKind.bits .u64))), w64 (q64 + 8)) else (q63, q64)) : Int × Int) fun q68 => match q68 with | (q71, q72) => ((sgx (str [0, 1, 2, 2, 3, 3, 3, 3, 4, 4, 4, 4, 4, 4, 4, 4, 5, 5, 5, 5, 5, 5, 5, 5, 5, 5, 5, 5, 5, 5, 5, 5, 6, 6, 6, 6, 6, 6, 6, 6, 6, 6, 6, 6, 6, 6, 6, 6, 6, 6, 6, 6, 6, 6, 6, 6, 6, 6, 6, 6, 6, 6, 6, 6, 7, 7, 7, 7, 7, 7, 7, 7, 7, 7, 7, 7, 7, 7, 7, 7, 7, 7, 7, 7, 7, 7, 7, 7, 7, 7, 7, 7, 7, 7, 7, 7, 7, 7, 7, 7, 7, 7, 7, 7, 7, 7, 7, 7, 7, 7, 7, 7, 7, 7, 7, 7, 7, 7, 7, 7, 7, 7, 7, 7, 7, 7, 7, 7, 8, 8, 8, 8, 8, 8, 8, 8, 8, 8, 8, 8, 8, 8, 8, 8, 8, 8, 8, 8, 8, 8, 8, 8, 8, 8, 8, 8, 8, 8, 8, 8, 8, 8, 8, 8, 8, 8, 8, 8, 8, 8, 8, 8, 8, 8, 8, 8, 8, 8, 8, 8, 8, 8, 8, 8, 8, 8, 8, 8, 8, 8, 8, 8, 8, 8, 8, 8, 8, 8, 8, 8, 8, 8, 8, 8, 8, 8, 8, 8, 8, 8, 8, 8, 8, 8, 8, 8, 8, 8, 8, 8, 8, 8, 8, 8, 8, 8, 8, 8, 8, 8, 8, 8, 8, 8, 8, 8, 8, 8, 8, 8, 8, 8, 8, 8, 8, 8, 8, 8, 8, 8, 8, 8, 8, 8, 8, 8]) (IntKind.wrap .u8 q71)).bind fun x75 => some (w64 (q72 + (w64 x75)))))))
def InternalStrconvlog10Pow2 (x0 : Int) : Int := Int.fdiv (w64 (x0 * 78913)) (2 ^ (min (Int.toNat 18) (IntKind.bits .i64)))
def InternalStrconvisPowerOfTwo (x0 : Int) : Bool := ((IntKind.wrap .i64 ((BitVec.ofInt (IntKind.bits .i64) x0 &&& BitVec.ofInt (IntKind.bits .i64) (w64 (x0 - 1))).toNat : Int)) == 0)
def MathBitsTrailingZeros (_x0 : Int) : Option Int := none
def InternalStrconvFormatInt (x0 : Int) (x1 : Int) : Option ByteArray := (if (x1 == 10) then (bnd ((if decide (0 ≤ x0) then decide (x0 < 100) else false) : Bool) fun q56 => (if q56 then ((InternalStrconvsmall x0).bind fun q60 => some q60) else (bnd ((if decide (x0 < 0) then IntKind.wrap .u64 (0 - (IntKind.wrap .u64 x0)) else IntKind.wrap .u64 x0) : Int) fun _ => none))) else none)
def InternalStrconvItoa (x0 : Int) : Option ByteArray := ((InternalStrconvFormatInt x0 10).bind fun q51 => some q51)
def StrconvItoa (x0 : Int) : Option ByteArray := ((InternalStrconvItoa x0).bind fun q51 => some q51)
def Plansentence.loop1 : (List Int) → ByteArray → Option ByteArray
  | [], q62 => some q62
  | x54 :: rest55, q62 => ((StrconvItoa x54).bind fun q68 => ((scat (str [32]) q68).bind fun x70 => ((scat q62 x70).bind fun x72 => Plansentence.loop1 rest55 x72)))
def Plansentence (x0 : ByteArray) (x1 : List Int) : Option ByteArray := ((Plansentence.loop1 x1 x0).bind fun q62 => ((scat q62 (str [10])).bind fun x74 => some x74))
def PlanText_1_v1.loop1 : (List Int) → Bool → Bool
  | [], q64 => q64
  | x56 :: rest57, q64 => (bnd ((if q64 then (Planwithin x56 0 999999) else false) : Bool) fun q74 => PlanText_1_v1.loop1 rest57 q74)
def PlanText_1_v1 (x0 : ByteArray) (x1 : List Int) (y0 : Bool) (y1_0 : ByteArray) : Option (Bool × ByteArray) := (bnd (PlanText_1_v1.loop1 x1 y0) fun q64 => ((Plansentence x0 x1).bind fun q77 => ((sbw y1_0 q77).bind fun q79 => some (q64, q79))))
def PlanText.loop2 : (List ApiStop) → ByteArray → Bool → Option (ByteArray × Bool)
  | [], q99, q100 => some (q99, q100)
  | x91 :: rest92, q99, q100 => ((PlanText_1_v1 (str [115, 116, 111, 112]) [x91.Station, x91.Track, x91.Arr, x91.Dep] q100 q99).bind fun q113 => PlanText.loop2 rest92 q113.2 q113.1)
def PlanText.loop3 : (List (List Int)) → ByteArray → Bool → Option (ByteArray × Bool)
  | [], q126, q127 => some (q126, q127)
  | x118 :: rest119, q126, q127 => ((PlanText_1_v1 (str [108, 101, 103]) x118 q127 q126).bind fun q136 => PlanText.loop3 rest119 q136.2 q136.1)
def PlanText.loop1 : (List ApiTrain) → ByteArray → Bool → Option (ByteArray × Bool)
  | [], q66, q67 => some (q66, q67)
  | x58 :: rest59, q66, q67 => ((PlanText_1_v1 (str [116, 114, 97, 105, 110]) [x58.No, x58.Stock] q67 q66).bind fun q86 => ((PlanText.loop2 x58.Stops q86.2 q86.1).bind fun q89 => match q89 with | (q99, q100) => ((PlanText.loop3 x58.Legs q99 q100).bind fun q116 => match q116 with | (q126, q127) => PlanText.loop1 rest59 q126 q127)))
def PlanText.loop4 : (List (List Int)) → ByteArray → Bool → Option (ByteArray × Bool)
  | [], q149, q150 => some (q149, q150)
  | x141 :: rest142, q149, q150 => ((PlanText_1_v1 (str [116, 117, 114, 110]) x141 q150 q149).bind fun q159 => PlanText.loop4 rest142 q159.2 q159.1)
def PlanText (x0 : ApiDay) : Option (ByteArray × Int) := (if ((Planform x0) != 0) then some ((str []), (Planform x0)) else ((PlanText.loop1 x0.Trains ByteArray.empty true).bind fun q56 => match q56 with | (q66, q67) => ((PlanText.loop4 x0.Turns q66 q67).bind fun q139 => match q139 with | (q149, q150) => (if !q150 then some ((str []), 2) else some (q149, 0)))))
def Fishlaw2plans : Option Bool := ((PlanText (ApiDay.mk [(ApiTrain.mk 7 0 [(ApiStop.mk 0 0 0 3), (ApiStop.mk 1 5 9 9)] [[0, 3]])] [[0]])).bind fun q87 => (bnd ((if (q87.2 == 0) then (seq q87.1 (str [116, 114, 97, 105, 110, 32, 55, 32, 48, 10, 115, 116, 111, 112, 32, 48, 32, 48, 32, 48, 32, 51, 10, 115, 116, 111, 112, 32, 49, 32, 53, 32, 57, 32, 57, 10, 108, 101, 103, 32, 48, 32, 51, 10, 116, 117, 114, 110, 32, 48, 10])) else false) : Bool) fun q93 => some q93))
def SlicesEqualLint.loop1 (x1 : List Int) : (List Int) → Nat → Option (Out Bool Unit)
  | [], _ => some (.next ())
  | x55 :: rest56, k54 => ((gx x1 ((k54 : Nat) : Int)).bind fun x68 => (if (x55 != x68) then some (.ret false) else SlicesEqualLint.loop1 x1 rest56 (k54 + 1)))
def SlicesEqualLint (x0 : List Int) (x1 : List Int) : Option Bool := (if (((x0).length : Int) != ((x1).length : Int)) then some false else ((SlicesEqualLint.loop1 x1 x0 0).bind fun q53 => match q53 with | .ret r => some r | .next () => some true))
def Fishlaw2PlanAssigns (fu : Nat) (x0 : List PlanStay) : Option Bool := ((PlanAssign fu x0).bind fun q51 => ((Fishref2AssignStays fu x0).bind fun q59 => ((((Fishlaw2plans).bind fun q73 => (if q73 then (if (q51.2 == q59.2) then ((SlicesEqualLint q51.1 q59.1).bind fun q77 => some q77) else some false) else some false)) : Option Bool).bind fun q71 => some q71)))
end Go.Fp
