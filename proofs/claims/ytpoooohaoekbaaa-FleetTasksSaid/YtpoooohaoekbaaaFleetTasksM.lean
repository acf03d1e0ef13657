/- The mirrors of the functions that FleetTasks reaches: plain Lean functions on data. No condition. -/
import Derived.Test.YtpoooohaoekbaaaFpMap
namespace Go.Fp
structure FleetLimits where
  Change : Int
  Long : Int
  Work : Int
  After : Int
  Break : Int
  Rest : Int
  Row : Int
  deriving DecidableEq, Inhabited
def FleetLimits.cells (x : FleetLimits) : List Value := [.int .i64 x.Change, .int .i64 x.Long, .int .i64 x.Work, .int .i64 x.After, .int .i64 x.Break, .int .i64 x.Rest, .int .i64 x.Row]
def RFleetLimits : Rd FleetLimits := fun _ cs x => cs = x.cells
theorem RFleetLimits.mono : Rmono RFleetLimits := fun _ _ _ _ _ h => h
theorem RFleetLimits.one : Rone RFleetLimits := by intro s cs x h; subst h; rfl

structure FleetTask where
  From : Int
  To : Int
  Dep : Int
  Arr : Int
  Km : Int
  Units : Int
  deriving DecidableEq, Inhabited
def FleetTask.cells (x : FleetTask) : List Value := [.int .i64 x.From, .int .i64 x.To, .int .i64 x.Dep, .int .i64 x.Arr, .int .i64 x.Km, .int .i64 x.Units]
def RFleetTask : Rd FleetTask := fun _ cs x => cs = x.cells
theorem RFleetTask.mono : Rmono RFleetTask := fun _ _ _ _ _ h => h
theorem RFleetTask.one : Rone RFleetTask := by intro s cs x h; subst h; rfl
def Fleetwithin (x0 : Int) (x1 : Int) (x2 : Int) : Bool := (bnd ((if decide (x0 ≥ x1) then decide (x0 ≤ x2) else false) : Bool) fun q55 => q55)
def FleetCheckTasks.loop1 : (List FleetTask) → Out Int Unit
  | [] => (.next ())
  | x55 :: rest56 => (bnd ((if !(Fleetwithin x55.From 0 11) then true else (if !(Fleetwithin x55.To 0 11) then true else (if !(Fleetwithin x55.Dep 0 28800) then true else !(Fleetwithin x55.Arr 0 28800)))) : Bool) fun q73 => (if q73 then (.ret 2) else (if decide (x55.Arr ≤ x55.Dep) then (.ret 13) else (bnd ((if !(Fleetwithin x55.Km 0 10000) then true else !(Fleetwithin x55.Units 1 4)) : Bool) fun q84 => (if q84 then (.ret 2) else FleetCheckTasks.loop1 rest56)))))
def FleetCheckTasks (x0 : List FleetTask) : Int := (if decide (((x0).length : Int) > 40) then 4 else (bnd (FleetCheckTasks.loop1 x0) fun q53 => match q53 with | .ret r => r | .next () => 0))
def FleetcheckTurn (x0 : List FleetTask) (x1 : Int) : Int := (if ((FleetCheckTasks x0) != 0) then (FleetCheckTasks x0) else (if !(Fleetwithin x1 0 28800) then 2 else 0))
def CmpisNaNint (x0 : Int) : Bool := (x0 != x0)
def CmpCompareint (x0 : Int) (x1 : Int) : Int := (if (CmpisNaNint x0) then (if (CmpisNaNint x1) then 0 else (-1)) else (if (CmpisNaNint x1) then 1 else (if decide (x0 < x1) then (-1) else (if decide (x0 > x1) then 1 else 0))))
def Fleetorder_1_v1 (x0 : Int) (x1 : Int) (y0 : List FleetTask) : Option Int := ((gx y0 x0).bind fun x51 => ((gx y0 x1).bind fun x60 => some (CmpCompareint x51.Dep x60.Dep)))
def SlicesinsertionSortCmpFuncint_v1.loop2 (x1 : Int) (y0 : List FleetTask) : Nat → Int → (List Int) → Option (Int × (List Int))
  | 0, _, _ => none
  | n74 + 1, q78, q79 => (((if decide (q78 > x1) then ((gx q79 q78).bind fun x93 => ((gx q79 (w64 (q78 - 1))).bind fun x103 => ((Fleetorder_1_v1 x93 x103 y0).bind fun q113 => some (decide (q113 < 0))))) else some false) : Option Bool).bind fun q90 => (if q90 then ((gx q79 (w64 (q78 - 1))).bind fun x117 => ((gx q79 q78).bind fun x127 => ((ix q79 q78).bind fun _ => ((sx q79 q78 x117).bind fun x142 => ((ix x142 (w64 (q78 - 1))).bind fun _ => ((sx x142 (w64 (q78 - 1)) x127).bind fun x152 => SlicesinsertionSortCmpFuncint_v1.loop2 x1 y0 n74 (w64 (q78 - 1)) x152)))))) else some (q78, q79)))
def SlicesinsertionSortCmpFuncint_v1.loop1 (x1 : Int) (x2 : Int) (y0 : List FleetTask) (fu : Nat) : Nat → Int → (List Int) → Option (Int × (List Int))
  | 0, _, _ => none
  | n59 + 1, q63, q64 => (if decide (q63 < x2) then ((SlicesinsertionSortCmpFuncint_v1.loop2 x1 y0 fu q63 q64).bind fun q73 => match q73 with | (_, q79) => SlicesinsertionSortCmpFuncint_v1.loop1 x1 x2 y0 fu n59 (w64 (q63 + 1)) q79) else some (q63, q64))
def SlicesinsertionSortCmpFuncint_v1 (fu : Nat) (x0 : List Int) (x1 : Int) (x2 : Int) (y0 : List FleetTask) : Option (List Int) := ((SlicesinsertionSortCmpFuncint_v1.loop1 x1 x2 y0 fu fu (w64 (x1 + 1)) x0).bind fun q58 => match q58 with | (_, q64) => some q64)
def SlicesswapRangeCmpFuncint_v1.loop1 (x1 : Int) (x2 : Int) (x3 : Int) : Nat → Int → (List Int) → Option (Int × (List Int))
  | 0, _, _ => none
  | n59 + 1, q63, q64 => (if decide (q63 < x3) then ((gx q64 (w64 (x2 + q63))).bind fun x73 => ((gx q64 (w64 (x1 + q63))).bind fun x83 => ((ix q64 (w64 (x1 + q63))).bind fun _ => ((sx q64 (w64 (x1 + q63)) x73).bind fun x98 => ((ix x98 (w64 (x2 + q63))).bind fun _ => ((sx x98 (w64 (x2 + q63)) x83).bind fun x108 => SlicesswapRangeCmpFuncint_v1.loop1 x1 x2 x3 n59 (w64 (q63 + 1)) x108)))))) else some (q63, q64))
def SlicesswapRangeCmpFuncint_v1 (fu : Nat) (x0 : List Int) (x1 : Int) (x2 : Int) (x3 : Int) (y0 : List FleetTask) : Option (List Int) := ((SlicesswapRangeCmpFuncint_v1.loop1 x1 x2 x3 fu 0 x0).bind fun q58 => match q58 with | (_, q64) => some q64)
def SlicesrotateCmpFuncint_v1.loop1 (x2 : Int) (y0 : List FleetTask) (fu : Nat) : Nat → Int → Int → (List Int) → Option (Int × Int × (List Int))
  | 0, _, _, _ => none
  | n59 + 1, q63, q64, q65 => (if (q63 != q64) then (((if decide (q63 > q64) then ((SlicesswapRangeCmpFuncint_v1 fu q65 (w64 (x2 - q63)) x2 q64 y0).bind fun q87 => some (w64 (q63 - q64), q64, q87)) else ((SlicesswapRangeCmpFuncint_v1 fu q65 (w64 (x2 - q63)) (w64 ((w64 (x2 + q64)) - q63)) q63 y0).bind fun q92 => some (q63, w64 (q64 - q63), q92))) : Option (Int × Int × (List Int))).bind fun q74 => match q74 with | (q77, q78, q79) => SlicesrotateCmpFuncint_v1.loop1 x2 y0 fu n59 q77 q78 q79) else some (q63, q64, q65))
def SlicesrotateCmpFuncint_v1 (fu : Nat) (x0 : List Int) (x1 : Int) (x2 : Int) (x3 : Int) (y0 : List FleetTask) : Option (List Int) := ((SlicesrotateCmpFuncint_v1.loop1 x2 y0 fu fu (w64 (x2 - x1)) (w64 (x3 - x2)) x0).bind fun q58 => match q58 with | (q63, _, q65) => ((SlicesswapRangeCmpFuncint_v1 fu q65 (w64 (x2 - q63)) x2 q63 y0).bind fun q97 => some q97))
def SlicessymMergeCmpFuncint_v1.loop1 (x0 : List Int) (x1 : Int) (y0 : List FleetTask) : Nat → Int → Int → Option (Int × Int)
  | 0, _, _ => none
  | n66 + 1, q70, q71 => (if decide (q70 < q71) then ((gx x0 (w64 (Int.fdiv (IntKind.wrap .u64 (w64 (q70 + q71))) (2 ^ (min (Int.toNat 1) (IntKind.bits .u64)))))).bind fun x74 => ((gx x0 x1).bind fun x84 => ((Fleetorder_1_v1 x74 x84 y0).bind fun q94 => (bnd ((if decide (q94 < 0) then (w64 ((w64 (Int.fdiv (IntKind.wrap .u64 (w64 (q70 + q71))) (2 ^ (min (Int.toNat 1) (IntKind.bits .u64))))) + 1), q71) else (q70, w64 (Int.fdiv (IntKind.wrap .u64 (w64 (q70 + q71))) (2 ^ (min (Int.toNat 1) (IntKind.bits .u64)))))) : Int × Int) fun q97 => match q97 with | (q100, q101) => SlicessymMergeCmpFuncint_v1.loop1 x0 x1 y0 n66 q100 q101)))) else some (q70, q71))
def SlicessymMergeCmpFuncint_v1.loop2 (q70 : Int) : Nat → Int → (List Int) → Option (Int × (List Int))
  | 0, _, _ => none
  | n106 + 1, q110, q111 => (if decide (q110 < (w64 (q70 - 1))) then ((gx q111 (w64 (q110 + 1))).bind fun x120 => ((gx q111 q110).bind fun x130 => ((ix q111 q110).bind fun _ => ((sx q111 q110 x120).bind fun x145 => ((ix x145 (w64 (q110 + 1))).bind fun _ => ((sx x145 (w64 (q110 + 1)) x130).bind fun x155 => SlicessymMergeCmpFuncint_v1.loop2 q70 n106 (w64 (q110 + 1)) x155)))))) else some (q110, q111))
def SlicessymMergeCmpFuncint_v1.loop3 (x0 : List Int) (x2 : Int) (y0 : List FleetTask) : Nat → Int → Int → Option (Int × Int)
  | 0, _, _ => none
  | n163 + 1, q167, q168 => (if decide (q167 < q168) then ((gx x0 x2).bind fun x171 => ((gx x0 (w64 (Int.fdiv (IntKind.wrap .u64 (w64 (q167 + q168))) (2 ^ (min (Int.toNat 1) (IntKind.bits .u64)))))).bind fun x181 => ((Fleetorder_1_v1 x171 x181 y0).bind fun q191 => (bnd ((if !(decide (q191 < 0)) then (w64 ((w64 (Int.fdiv (IntKind.wrap .u64 (w64 (q167 + q168))) (2 ^ (min (Int.toNat 1) (IntKind.bits .u64))))) + 1), q168) else (q167, w64 (Int.fdiv (IntKind.wrap .u64 (w64 (q167 + q168))) (2 ^ (min (Int.toNat 1) (IntKind.bits .u64)))))) : Int × Int) fun q194 => match q194 with | (q197, q198) => SlicessymMergeCmpFuncint_v1.loop3 x0 x2 y0 n163 q197 q198)))) else some (q167, q168))
def SlicessymMergeCmpFuncint_v1.loop4 (q167 : Int) : Nat → Int → (List Int) → Option (Int × (List Int))
  | 0, _, _ => none
  | n203 + 1, q207, q208 => (if decide (q207 > q167) then ((gx q208 (w64 (q207 - 1))).bind fun x217 => ((gx q208 q207).bind fun x227 => ((ix q208 q207).bind fun _ => ((sx q208 q207 x217).bind fun x242 => ((ix x242 (w64 (q207 - 1))).bind fun _ => ((sx x242 (w64 (q207 - 1)) x227).bind fun x252 => SlicessymMergeCmpFuncint_v1.loop4 q167 n203 (w64 (q207 - 1)) x252)))))) else some (q207, q208))
def SlicessymMergeCmpFuncint_v1.loop5 (x0 : List Int) (x1 : Int) (x2 : Int) (x3 : Int) (y0 : List FleetTask) : Nat → Int → Int → Option (Int × Int)
  | 0, _, _ => none
  | n267 + 1, q271, q272 => (if decide (q271 < q272) then ((gx x0 (w64 ((w64 ((w64 ((w64 (Int.fdiv (IntKind.wrap .u64 (w64 (x1 + x3))) (2 ^ (min (Int.toNat 1) (IntKind.bits .u64))))) + x2)) - 1)) - (w64 (Int.fdiv (IntKind.wrap .u64 (w64 (q271 + q272))) (2 ^ (min (Int.toNat 1) (IntKind.bits .u64)))))))).bind fun x275 => ((gx x0 (w64 (Int.fdiv (IntKind.wrap .u64 (w64 (q271 + q272))) (2 ^ (min (Int.toNat 1) (IntKind.bits .u64)))))).bind fun x285 => ((Fleetorder_1_v1 x275 x285 y0).bind fun q295 => (bnd ((if !(decide (q295 < 0)) then (w64 ((w64 (Int.fdiv (IntKind.wrap .u64 (w64 (q271 + q272))) (2 ^ (min (Int.toNat 1) (IntKind.bits .u64))))) + 1), q272) else (q271, w64 (Int.fdiv (IntKind.wrap .u64 (w64 (q271 + q272))) (2 ^ (min (Int.toNat 1) (IntKind.bits .u64)))))) : Int × Int) fun q298 => match q298 with | (q301, q302) => SlicessymMergeCmpFuncint_v1.loop5 x0 x1 x2 x3 y0 n267 q301 q302)))) else some (q271, q272))
def SlicessymMergeCmpFuncint_v1 : Nat → (List Int) → Int → Int → Int → (List FleetTask) → Option (List Int)
  | 0, _, _, _, _, _ => none
  | fu + 1, x0, x1, x2, x3, y0 => (if ((w64 (x2 - x1)) == 1) then ((SlicessymMergeCmpFuncint_v1.loop1 x0 x1 y0 fu x2 x3).bind fun q65 => match q65 with | (q70, _) => ((SlicessymMergeCmpFuncint_v1.loop2 q70 fu x1 x0).bind fun q105 => match q105 with | (_, q111) => some q111)) else (if ((w64 (x3 - x2)) == 1) then ((SlicessymMergeCmpFuncint_v1.loop3 x0 x2 y0 fu x1 x2).bind fun q162 => match q162 with | (q167, _) => ((SlicessymMergeCmpFuncint_v1.loop4 q167 fu x2 x0).bind fun q202 => match q202 with | (_, q208) => some q208)) else (bnd ((if decide (x2 > (w64 (Int.fdiv (IntKind.wrap .u64 (w64 (x1 + x3))) (2 ^ (min (Int.toNat 1) (IntKind.bits .u64)))))) then (w64 ((w64 ((w64 (Int.fdiv (IntKind.wrap .u64 (w64 (x1 + x3))) (2 ^ (min (Int.toNat 1) (IntKind.bits .u64))))) + x2)) - x3), w64 (Int.fdiv (IntKind.wrap .u64 (w64 (x1 + x3))) (2 ^ (min (Int.toNat 1) (IntKind.bits .u64))))) else (x1, x2)) : Int × Int) fun q258 => match q258 with | (q261, q262) => ((SlicessymMergeCmpFuncint_v1.loop5 x0 x1 x2 x3 y0 fu q261 q262).bind fun q266 => match q266 with | (q271, _) => (bnd ((if decide (q271 < x2) then decide (x2 < (w64 ((w64 ((w64 (Int.fdiv (IntKind.wrap .u64 (w64 (x1 + x3))) (2 ^ (min (Int.toNat 1) (IntKind.bits .u64))))) + x2)) - q271))) else false) : Bool) fun q309 => (if q309 then ((SlicesrotateCmpFuncint_v1 fu x0 q271 x2 (w64 ((w64 ((w64 (Int.fdiv (IntKind.wrap .u64 (w64 (x1 + x3))) (2 ^ (min (Int.toNat 1) (IntKind.bits .u64))))) + x2)) - q271)) y0).bind fun q313 => (bnd ((if decide (x1 < q271) then decide (q271 < (w64 (Int.fdiv (IntKind.wrap .u64 (w64 (x1 + x3))) (2 ^ (min (Int.toNat 1) (IntKind.bits .u64)))))) else false) : Bool) fun q322 => (if q322 then (((SlicessymMergeCmpFuncint_v1 fu) q313 x1 q271 (w64 (Int.fdiv (IntKind.wrap .u64 (w64 (x1 + x3))) (2 ^ (min (Int.toNat 1) (IntKind.bits .u64))))) y0).bind fun q326 => (bnd ((if decide ((w64 (Int.fdiv (IntKind.wrap .u64 (w64 (x1 + x3))) (2 ^ (min (Int.toNat 1) (IntKind.bits .u64))))) < (w64 ((w64 ((w64 (Int.fdiv (IntKind.wrap .u64 (w64 (x1 + x3))) (2 ^ (min (Int.toNat 1) (IntKind.bits .u64))))) + x2)) - q271))) then decide ((w64 ((w64 ((w64 (Int.fdiv (IntKind.wrap .u64 (w64 (x1 + x3))) (2 ^ (min (Int.toNat 1) (IntKind.bits .u64))))) + x2)) - q271)) < x3) else false) : Bool) fun q337 => (if q337 then (((SlicessymMergeCmpFuncint_v1 fu) q326 (w64 (Int.fdiv (IntKind.wrap .u64 (w64 (x1 + x3))) (2 ^ (min (Int.toNat 1) (IntKind.bits .u64))))) (w64 ((w64 ((w64 (Int.fdiv (IntKind.wrap .u64 (w64 (x1 + x3))) (2 ^ (min (Int.toNat 1) (IntKind.bits .u64))))) + x2)) - q271)) x3 y0).bind fun q341 => some q341) else some q326))) else (bnd ((if decide ((w64 (Int.fdiv (IntKind.wrap .u64 (w64 (x1 + x3))) (2 ^ (min (Int.toNat 1) (IntKind.bits .u64))))) < (w64 ((w64 ((w64 (Int.fdiv (IntKind.wrap .u64 (w64 (x1 + x3))) (2 ^ (min (Int.toNat 1) (IntKind.bits .u64))))) + x2)) - q271))) then decide ((w64 ((w64 ((w64 (Int.fdiv (IntKind.wrap .u64 (w64 (x1 + x3))) (2 ^ (min (Int.toNat 1) (IntKind.bits .u64))))) + x2)) - q271)) < x3) else false) : Bool) fun q352 => (if q352 then (((SlicessymMergeCmpFuncint_v1 fu) q313 (w64 (Int.fdiv (IntKind.wrap .u64 (w64 (x1 + x3))) (2 ^ (min (Int.toNat 1) (IntKind.bits .u64))))) (w64 ((w64 ((w64 (Int.fdiv (IntKind.wrap .u64 (w64 (x1 + x3))) (2 ^ (min (Int.toNat 1) (IntKind.bits .u64))))) + x2)) - q271)) x3 y0).bind fun q356 => some q356) else some q313))))) else (bnd ((if decide (x1 < q271) then decide (q271 < (w64 (Int.fdiv (IntKind.wrap .u64 (w64 (x1 + x3))) (2 ^ (min (Int.toNat 1) (IntKind.bits .u64)))))) else false) : Bool) fun q367 => (if q367 then (((SlicessymMergeCmpFuncint_v1 fu) x0 x1 q271 (w64 (Int.fdiv (IntKind.wrap .u64 (w64 (x1 + x3))) (2 ^ (min (Int.toNat 1) (IntKind.bits .u64))))) y0).bind fun q371 => (bnd ((if decide ((w64 (Int.fdiv (IntKind.wrap .u64 (w64 (x1 + x3))) (2 ^ (min (Int.toNat 1) (IntKind.bits .u64))))) < (w64 ((w64 ((w64 (Int.fdiv (IntKind.wrap .u64 (w64 (x1 + x3))) (2 ^ (min (Int.toNat 1) (IntKind.bits .u64))))) + x2)) - q271))) then decide ((w64 ((w64 ((w64 (Int.fdiv (IntKind.wrap .u64 (w64 (x1 + x3))) (2 ^ (min (Int.toNat 1) (IntKind.bits .u64))))) + x2)) - q271)) < x3) else false) : Bool) fun q382 => (if q382 then (((SlicessymMergeCmpFuncint_v1 fu) q371 (w64 (Int.fdiv (IntKind.wrap .u64 (w64 (x1 + x3))) (2 ^ (min (Int.toNat 1) (IntKind.bits .u64))))) (w64 ((w64 ((w64 (Int.fdiv (IntKind.wrap .u64 (w64 (x1 + x3))) (2 ^ (min (Int.toNat 1) (IntKind.bits .u64))))) + x2)) - q271)) x3 y0).bind fun q386 => some q386) else some q371))) else (bnd ((if decide ((w64 (Int.fdiv (IntKind.wrap .u64 (w64 (x1 + x3))) (2 ^ (min (Int.toNat 1) (IntKind.bits .u64))))) < (w64 ((w64 ((w64 (Int.fdiv (IntKind.wrap .u64 (w64 (x1 + x3))) (2 ^ (min (Int.toNat 1) (IntKind.bits .u64))))) + x2)) - q271))) then decide ((w64 ((w64 ((w64 (Int.fdiv (IntKind.wrap .u64 (w64 (x1 + x3))) (2 ^ (min (Int.toNat 1) (IntKind.bits .u64))))) + x2)) - q271)) < x3) else false) : Bool) fun q397 => (if q397 then (((SlicessymMergeCmpFuncint_v1 fu) x0 (w64 (Int.fdiv (IntKind.wrap .u64 (w64 (x1 + x3))) (2 ^ (min (Int.toNat 1) (IntKind.bits .u64))))) (w64 ((w64 ((w64 (Int.fdiv (IntKind.wrap .u64 (w64 (x1 + x3))) (2 ^ (min (Int.toNat 1) (IntKind.bits .u64))))) + x2)) - q271)) x3 y0).bind fun q401 => some q401) else some x0))))))))))
def SlicesstableCmpFuncint_v1.loop1 (x1 : Int) (y0 : List FleetTask) (fu : Nat) : Nat → Int → Int → (List Int) → Option (Int × Int × (List Int))
  | 0, _, _, _ => none
  | n65 + 1, q69, q70, q71 => (if decide (q70 ≤ x1) then ((SlicesinsertionSortCmpFuncint_v1 fu q71 q69 q70 y0).bind fun q79 => SlicesstableCmpFuncint_v1.loop1 x1 y0 fu n65 q70 (w64 (q70 + 20)) q79) else some (q69, q70, q71))
def SlicesstableCmpFuncint_v1.loop3 (x1 : Int) (y0 : List FleetTask) (fu : Nat) (q95 : Int) : Nat → Int → Int → (List Int) → Option (Int × Int × (List Int))
  | 0, _, _, _ => none
  | n106 + 1, q110, q111, q112 => (if decide (q111 ≤ x1) then ((SlicessymMergeCmpFuncint_v1 fu q112 q110 (w64 (q110 + q95)) q111 y0).bind fun q120 => SlicesstableCmpFuncint_v1.loop3 x1 y0 fu q95 n106 q111 (w64 (q111 + (w64 (2 * q95)))) q120) else some (q110, q111, q112))
def SlicesstableCmpFuncint_v1.loop2 (x1 : Int) (y0 : List FleetTask) (fu : Nat) : Nat → Int → (List Int) → Option (Int × (List Int))
  | 0, _, _ => none
  | n91 + 1, q95, q96 => (if decide (q95 < x1) then ((SlicesstableCmpFuncint_v1.loop3 x1 y0 fu q95 fu 0 (w64 (2 * q95)) q96).bind fun q105 => match q105 with | (q110, _, q112) => (if decide ((w64 (q110 + q95)) < x1) then ((SlicessymMergeCmpFuncint_v1 fu q112 q110 (w64 (q110 + q95)) x1 y0).bind fun q128 => SlicesstableCmpFuncint_v1.loop2 x1 y0 fu n91 (w64 (q95 * 2)) q128) else SlicesstableCmpFuncint_v1.loop2 x1 y0 fu n91 (w64 (q95 * 2)) q112)) else some (q95, q96))
def SlicesstableCmpFuncint_v1 (fu : Nat) (x0 : List Int) (x1 : Int) (y0 : List FleetTask) : Option (List Int) := ((SlicesstableCmpFuncint_v1.loop1 x1 y0 fu fu 0 20 x0).bind fun q64 => match q64 with | (q69, _, q71) => ((SlicesinsertionSortCmpFuncint_v1 fu q71 q69 x1 y0).bind fun q84 => ((SlicesstableCmpFuncint_v1.loop2 x1 y0 fu fu 20 q84).bind fun q90 => match q90 with | (_, q96) => some q96)))
def SlicesSortStableFuncLint_v1 (fu : Nat) (x0 : List Int) (y0 : List FleetTask) : Option (List Int) := ((SlicesstableCmpFuncint_v1 fu x0 ((x0.length : Nat) : Int) y0).bind fun q63 => some q63)
def Fleetorder.loop1 : Nat → Nat → (List Int) → Option (List Int)
  | 0, _, q70 => some q70
  | rest62 + 1, k60, q70 => ((ix q70 ((k60 : Nat) : Int)).bind fun _ => ((sx q70 ((k60 : Nat) : Int) ((k60 : Nat) : Int)).bind fun x82 => Fleetorder.loop1 rest62 (k60 + 1) x82))
def Fleetorder (fu : Nat) (x0 : List FleetTask) : Option (List Int) := ((mks ((x0).length : Int) (0 : Int)).bind fun x52 => ((Fleetorder.loop1 x52.length 0 x52).bind fun q70 => ((SlicesSortStableFuncLint_v1 fu q70 x0).bind fun q87 => some q87)))
def Fleetfollows (x0 : FleetTask) (x1 : FleetTask) (x2 : Int) : Bool := (bnd ((if (x1.From == x0.To) then decide (x1.Dep ≥ (w64 (x0.Arr + x2))) else false) : Bool) fun q57 => q57)
def FleetTurns.loop4 (x0 : List FleetTask) (x1 : Int) (x83 : Int) (q119 : List (List Int)) : Nat → Nat → Int → Option Int
  | 0, _, q141 => some q141
  | rest133 + 1, k131, q141 => ((gx q119 ((k131 : Nat) : Int)).bind fun x143 => ((gx x143 (w64 (((x143).length : Int) - 1))).bind fun x153 => (((if (x153 != x83) then ((gx x0 x153).bind fun x170 => ((gx x0 x83).bind fun x179 => (if (Fleetfollows x170 x179 x1) then (if decide (q141 < 0) then some true else ((gx x0 x153).bind fun x190 => ((gx q119 q141).bind fun x199 => ((gx q119 q141).bind fun x209 => ((gx x199 (w64 (((x209).length : Int) - 1))).bind fun x219 => ((gx x0 x219).bind fun x229 => some (decide (x190.Arr < x229.Arr)))))))) else some false))) else some false) : Option Bool).bind fun q167 => (bnd ((if q167 then ((k131 : Nat) : Int) else q141) : Int) fun q242 => FleetTurns.loop4 x0 x1 x83 q119 rest133 (k131 + 1) q242))))
def FleetTurns.loop3 (x0 : List FleetTask) (x1 : Int) (x83 : Int) (x93 : FleetTask) : Nat → (List (List Int)) → Int → Option ((List (List Int)) × Int)
  | 0, _, _ => none
  | n115 + 1, q119, q126 => (if decide (q126 < x93.Units) then ((FleetTurns.loop4 x0 x1 x83 q119 q119.length 0 (-1)).bind fun q141 => (((if decide (q141 < 0) then ((apd q119 [[]]).bind fun x261 => some (x261, w64 (((x261.length : Nat) : Int) - 1))) else some (q119, q141)) : Option ((List (List Int)) × Int)).bind fun q246 => match q246 with | (q249, q256) => ((gx q249 q256).bind fun x267 => ((apd x267 [x83]).bind fun x279 => ((ix q249 q256).bind fun _ => ((sx q249 q256 x279).bind fun x288 => FleetTurns.loop3 x0 x1 x83 x93 n115 x288 (w64 (q126 + 1)))))))) else some (q119, q126))
def FleetTurns.loop1 (x0 : List FleetTask) (x1 : Int) (fu : Nat) (q53 : (List Int)) : Nat → Nat → (List (List Int)) → Option (List (List Int))
  | 0, _, q75 => some q75
  | rest67 + 1, k65, q75 => ((gx q53 ((k65 : Nat) : Int)).bind fun x83 => ((gx x0 x83).bind fun x93 => ((FleetTurns.loop3 x0 x1 x83 x93 fu q75 0).bind fun q114 => match q114 with | (q119, _) => FleetTurns.loop1 x0 x1 fu q53 rest67 (k65 + 1) q119)))
def FleetTurns (fu : Nat) (x0 : List FleetTask) (x1 : Int) : Option ((List (List Int)) × Int) := (if ((FleetcheckTurn x0 x1) != 0) then some ([], (FleetcheckTurn x0 x1)) else ((Fleetorder fu x0).bind fun q53 => ((FleetTurns.loop1 x0 x1 fu q53 q53.length 0 []).bind fun q75 => some (q75, 0))))
def SlicesEqualLint.loop1 (x1 : List Int) : (List Int) → Nat → Option (Out Bool Unit)
  | [], _ => some (.next ())
  | x55 :: rest56, k54 => ((gx x1 ((k54 : Nat) : Int)).bind fun x68 => (if (x55 != x68) then some (.ret false) else SlicesEqualLint.loop1 x1 rest56 (k54 + 1)))
def SlicesEqualLint (x0 : List Int) (x1 : List Int) : Option Bool := (if (((x0).length : Int) != ((x1).length : Int)) then some false else ((SlicesEqualLint.loop1 x1 x0 0).bind fun q53 => match q53 with | .ret r => some r | .next () => some true))
def SlicesEqualFuncLLint_v1.loop1 (x1 : List (List Int)) : (List (List Int)) → Nat → Option (Out Bool Unit)
  | [], _ => some (.next ())
  | x55 :: rest56, k54 => ((gx x1 ((k54 : Nat) : Int)).bind fun x71 => ((SlicesEqualLint x55 x71).bind fun q83 => (if !q83 then some (.ret false) else SlicesEqualFuncLLint_v1.loop1 x1 rest56 (k54 + 1))))
def SlicesEqualFuncLLint_v1 (x0 : List (List Int)) (x1 : List (List Int)) : Option Bool := (if (((x0).length : Int) != ((x1).length : Int)) then some false else ((SlicesEqualFuncLLint_v1.loop1 x1 x0 0).bind fun q53 => match q53 with | .ret r => some r | .next () => some true))
def Fishlaw2lists (x0 : List (List Int)) (x1 : List (List Int)) : Option Bool := ((SlicesEqualFuncLLint_v1 x0 x1).bind fun q51 => some q51)
def Fishlaw2sets (fu : Nat) : Option Bool := ((FleetTurns fu [(FleetTask.mk 0 1 10 20 0 1), (FleetTask.mk 0 1 30 40 0 1), (FleetTask.mk 1 0 25 29 0 1)] 0).bind fun q57 => (((if (q57.2 == 0) then ((Fishlaw2lists q57.1 [[0, 2, 1]]).bind fun q83 => some q83) else some false) : Option Bool).bind fun q68 => some q68))
def Fishref2within (x0 : Int) (x1 : Int) (x2 : Int) : Bool := (bnd ((if decide (x0 ≥ x1) then decide (x0 ≤ x2) else false) : Bool) fun q55 => q55)
def Fishref2TasksFault.loop1 : (List FleetTask) → Out Int Unit
  | [] => (.next ())
  | x55 :: rest56 => (bnd ((if !(Fishref2within x55.From 0 11) then true else (if !(Fishref2within x55.To 0 11) then true else (if !(Fishref2within x55.Dep 0 28800) then true else !(Fishref2within x55.Arr 0 28800)))) : Bool) fun q73 => (if q73 then (.ret 2) else (if decide (x55.Arr ≤ x55.Dep) then (.ret 13) else (bnd ((if !(Fishref2within x55.Km 0 10000) then true else !(Fishref2within x55.Units 1 4)) : Bool) fun q84 => (if q84 then (.ret 2) else Fishref2TasksFault.loop1 rest56)))))
def Fishref2TasksFault (x0 : List FleetTask) : Int := (if decide (((x0).length : Int) > 40) then 4 else (bnd (Fishref2TasksFault.loop1 x0) fun q53 => match q53 with | .ret r => r | .next () => 0))
def FleetCheckLimits.loop1 : (List Int) → Out Int Unit
  | [] => (.next ())
  | x55 :: rest56 => (if !(Fleetwithin x55 0 86400) then (.ret 2) else FleetCheckLimits.loop1 rest56)
def FleetCheckLimits (x0 : FleetLimits) : Int := (bnd (FleetCheckLimits.loop1 [x0.Change, x0.Long, x0.Work, x0.After, x0.Break, x0.Rest]) fun q53 => match q53 with | .ret r => r | .next () => (if !(Fleetwithin x0.Row 1 7) then 2 else 0))
def Fishref2LimitsFault.loop1 : (List Int) → Out Int Unit
  | [] => (.next ())
  | x61 :: rest62 => (if !(Fishref2within x61 0 86400) then (.ret 2) else Fishref2LimitsFault.loop1 rest62)
def Fishref2LimitsFault (x0 : FleetLimits) : Int := (bnd (Fishref2LimitsFault.loop1 [x0.Change, x0.Long, x0.Work, x0.After, x0.Break, x0.Rest]) fun q59 => match q59 with | .ret r => r | .next () => (if !(Fishref2within x0.Row 1 7) then 2 else 0))
def Fishlaw2FleetTasks (fu : Nat) (x0 : List FleetTask) (x1 : FleetLimits) : Option Bool := ((((Fishlaw2sets fu).bind fun q58 => (if q58 then (if ((FleetCheckTasks x0) == (Fishref2TasksFault x0)) then some ((FleetCheckLimits x1) == (Fishref2LimitsFault x1)) else some false) else some false)) : Option Bool).bind fun q56 => some q56)
end Go.Fp
