/- The mirrors of the functions that FleetJudges reaches: plain Lean functions on data. No condition. -/
import Derived.Test.YtpoooohaoekbaaaFpVec
namespace Go.Fp
structure FleetLimits where
  Change : Int
  Long : Int
  Work : Int
  After : Int
  Break : Int
  Rest : Int
  Row : Int
  deriving DecidableEq, Inhabited
def FleetLimits.cells (x : FleetLimits) : List Value := [.int .i64 x.Change, .int .i64 x.Long, .int .i64 x.Work, .int .i64 x.After, .int .i64 x.Break, .int .i64 x.Rest, .int .i64 x.Row]
def RFleetLimits : Rd FleetLimits := fun _ cs x => cs = x.cells
theorem RFleetLimits.mono : Rmono RFleetLimits := fun _ _ _ _ _ h => h
theorem RFleetLimits.one : Rone RFleetLimits := by intro s cs x h; subst h; rfl

structure FleetTask where
  From : Int
  To : Int
  Dep : Int
  Arr : Int
  Km : Int
  Units : Int
  deriving DecidableEq, Inhabited
def FleetTask.cells (x : FleetTask) : List Value := [.int .i64 x.From, .int .i64 x.To, .int .i64 x.Dep, .int .i64 x.Arr, .int .i64 x.Km, .int .i64 x.Units]
def RFleetTask : Rd FleetTask := fun _ cs x => cs = x.cells
theorem RFleetTask.mono : Rmono RFleetTask := fun _ _ _ _ _ h => h
theorem RFleetTask.one : Rone RFleetTask := by intro s cs x h; subst h; rfl
def Fleetwithin (x0 : Int) (x1 : Int) (x2 : Int) : Bool := (bnd ((if decide (x0 ≥ x1) then decide (x0 ≤ x2) else false) : Bool) fun q55 => q55)
def FleetCheckTasks.loop1 : (List FleetTask) → Out Int Unit
  | [] => (.next ())
  | x55 :: rest56 => (bnd ((if !(Fleetwithin x55.From 0 11) then true else (if !(Fleetwithin x55.To 0 11) then true else (if !(Fleetwithin x55.Dep 0 28800) then true else !(Fleetwithin x55.Arr 0 28800)))) : Bool) fun q73 => (if q73 then (.ret 2) else (if decide (x55.Arr ≤ x55.Dep) then (.ret 13) else (bnd ((if !(Fleetwithin x55.Km 0 10000) then true else !(Fleetwithin x55.Units 1 4)) : Bool) fun q84 => (if q84 then (.ret 2) else FleetCheckTasks.loop1 rest56)))))
def FleetCheckTasks (x0 : List FleetTask) : Int := (if decide (((x0).length : Int) > 40) then 4 else (bnd (FleetCheckTasks.loop1 x0) fun q53 => match q53 with | .ret r => r | .next () => 0))
def FleetCheckLimits.loop1 : (List Int) → Out Int Unit
  | [] => (.next ())
  | x55 :: rest56 => (if !(Fleetwithin x55 0 86400) then (.ret 2) else FleetCheckLimits.loop1 rest56)
def FleetCheckLimits (x0 : FleetLimits) : Int := (bnd (FleetCheckLimits.loop1 [x0.Change, x0.Long, x0.Work, x0.After, x0.Break, x0.Rest]) fun q53 => match q53 with | .ret r => r | .next () => (if !(Fleetwithin x0.Row 1 7) then 2 else 0))
def FleetcheckTasks (x0 : List FleetTask) (x1 : FleetLimits) : Int := (if ((FleetCheckTasks x0) != 0) then (FleetCheckTasks x0) else (FleetCheckLimits x1))
def SlicesIndexLint.loop1 (x1 : Int) : (List Int) → Nat → Out Int Unit
  | [], _ => (.next ())
  | x54 :: rest55, k53 => (if (x1 == x54) then (.ret ((k53 : Nat) : Int)) else SlicesIndexLint.loop1 x1 rest55 (k53 + 1))
def SlicesIndexLint (x0 : List Int) (x1 : Int) : Int := (bnd (SlicesIndexLint.loop1 x1 x0 0) fun q52 => match q52 with | .ret r => r | .next () => (-1))
def SlicesContainsLint (x0 : List Int) (x1 : Int) : Bool := decide ((SlicesIndexLint x0 x1) ≥ 0)
def Fleetjudge_1_v1 (x0 : Int) (y0 : Int) (y1 : FleetLimits) (y2 : Int) : Int := (bnd ((if decide ((w64 (x0 - y0)) > y1.After) then 4 else y2) : Int) fun q56 => q56)
def Fleetjudge.loop1 (x0 : List FleetTask) (x1 : List Int) (x2 : FleetLimits) : (List Int) → Nat → Int → Int → Int → Option (Out Int (Int × Int × Int))
  | [], _, q106, q107, q108 => some (.next (q106, q107, q108))
  | x98 :: rest99, k97, q106, q107, q108 => ((gx x0 x98).bind fun x114 => (if (((k97 : Nat) : Int) == 0) then Fleetjudge.loop1 x0 x1 x2 rest99 (k97 + 1) (w64 (q106 + (w64 (x114.Arr - x114.Dep)))) q107 q108 else ((gx x1 (w64 (((k97 : Nat) : Int) - 1))).bind fun x125 => ((gx x0 x125).bind fun x134 => (bnd ((if (x114.From != x134.To) then true else decide (x114.Dep < (w64 (x134.Arr + x2.Change)))) : Bool) fun q148 => (if q148 then some (.ret 1) else (bnd ((if decide ((w64 (x114.Dep - x134.Arr)) ≥ x2.Break) then (bnd (Fleetjudge_1_v1 x134.Arr q108 x2 q107) fun q160 => (q160, x114.Dep)) else (q107, q108)) : Int × Int) fun q153 => match q153 with | (q156, q157) => Fleetjudge.loop1 x0 x1 x2 rest99 (k97 + 1) (w64 (q106 + (w64 (x114.Arr - x114.Dep)))) q156 q157)))))))
def Fleetjudge (x0 : List FleetTask) (x1 : List Int) (x2 : FleetLimits) : Option Int := ((gx x1 0).bind fun x53 => ((gx x0 x53).bind fun x62 => ((gx x1 (w64 (((x1).length : Int) - 1))).bind fun x71 => ((gx x0 x71).bind fun x80 => ((Fleetjudge.loop1 x0 x1 x2 x1 0 0 0 x62.Dep).bind fun q96 => match q96 with | .ret r => some r | .next (q106, q107, q108) => (bnd (Fleetjudge_1_v1 x80.Arr q108 x2 q107) fun q162 => (if decide ((w64 (x80.Arr - x62.Dep)) > x2.Long) then some 2 else (if decide (q106 > x2.Work) then some 3 else (if decide (q162 > 0) then some q162 else (if (x80.To != x62.From) then some 5 else some 0))))))))))
def FleetJudge.loop1 (x0 : List FleetTask) (x1 : List Int) : (List Int) → Nat → Option (Out (Int × Int) Unit)
  | [], _ => some (.next ())
  | x57 :: rest58, k56 => (if !(Fleetwithin x57 0 (w64 (((x0).length : Int) - 1))) then some (.ret (0, 2)) else ((cutl x1 0 ((k56 : Nat) : Int)).bind fun x71 => (if (SlicesContainsLint x71 x57) then some (.ret (0, 6)) else FleetJudge.loop1 x0 x1 rest58 (k56 + 1))))
def FleetJudge (x0 : List FleetTask) (x1 : List Int) (x2 : FleetLimits) : Option (Int × Int) := (if ((FleetcheckTasks x0 x2) != 0) then some (0, (FleetcheckTasks x0 x2)) else (if (((x1).length : Int) == 0) then some (0, 1) else ((FleetJudge.loop1 x0 x1 x1 0).bind fun q55 => match q55 with | .ret r => some r | .next () => ((Fleetjudge x0 x1 x2).bind fun q81 => some (q81, 0)))))
def Fishref2within (x0 : Int) (x1 : Int) (x2 : Int) : Bool := (bnd ((if decide (x0 ≥ x1) then decide (x0 ≤ x2) else false) : Bool) fun q55 => q55)
def Fishref2TasksFault.loop1 : (List FleetTask) → Out Int Unit
  | [] => (.next ())
  | x55 :: rest56 => (bnd ((if !(Fishref2within x55.From 0 11) then true else (if !(Fishref2within x55.To 0 11) then true else (if !(Fishref2within x55.Dep 0 28800) then true else !(Fishref2within x55.Arr 0 28800)))) : Bool) fun q73 => (if q73 then (.ret 2) else (if decide (x55.Arr ≤ x55.Dep) then (.ret 13) else (bnd ((if !(Fishref2within x55.Km 0 10000) then true else !(Fishref2within x55.Units 1 4)) : Bool) fun q84 => (if q84 then (.ret 2) else Fishref2TasksFault.loop1 rest56)))))
def Fishref2TasksFault (x0 : List FleetTask) : Int := (if decide (((x0).length : Int) > 40) then 4 else (bnd (Fishref2TasksFault.loop1 x0) fun q53 => match q53 with | .ret r => r | .next () => 0))
def Fishref2LimitsFault.loop1 : (List Int) → Out Int Unit
  | [] => (.next ())
  | x61 :: rest62 => (if !(Fishref2within x61 0 86400) then (.ret 2) else Fishref2LimitsFault.loop1 rest62)
def Fishref2LimitsFault (x0 : FleetLimits) : Int := (bnd (Fishref2LimitsFault.loop1 [x0.Change, x0.Long, x0.Work, x0.After, x0.Break, x0.Rest]) fun q59 => match q59 with | .ret r => r | .next () => (if !(Fishref2within x0.Row 1 7) then 2 else 0))
def Fishref2Code.loop1 (x0 : List FleetTask) (x1 : List Int) (x2 : FleetLimits) : (List Int) → Nat → Int → Option (Out Int Int)
  | [], _, q104 => some (.next q104)
  | x96 :: rest97, k95, q104 => ((gx x0 x96).bind fun x110 => ((gx x0 x96).bind fun x119 => (((if decide (((k95 : Nat) : Int) > 0) then ((gx x1 (w64 (((k95 : Nat) : Int) - 1))).bind fun x134 => ((gx x0 x134).bind fun x143 => ((((gx x0 x96).bind fun x159 => (if (x143.To != x159.From) then some true else ((gx x0 x96).bind fun x169 => some (decide (x169.Dep < (w64 (x143.Arr + x2.Change))))))) : Option Bool).bind fun q157 => (if q157 then some (.ret 1) else some (.next ()))))) else some (.next ())) : Option (Out Int Unit)).bind fun q129 => match q129 with | .ret r => some (.ret r) | .next () => Fishref2Code.loop1 x0 x1 x2 rest97 (k95 + 1) (w64 (q104 + (w64 (x110.Arr - x119.Dep)))))))
def Fishref2Code.loop2 (x0 : List FleetTask) (x1 : List Int) (x2 : FleetLimits) : (List Int) → Nat → Int → Option (Out Int Int)
  | [], _, q192 => some (.next q192)
  | x184 :: rest185, k183, q192 => (((if decide (((k183 + 1 : Nat) : Int) < ((x1).length : Int)) then ((gx x1 ((k183 + 1 : Nat) : Int)).bind fun x205 => ((gx x0 x205).bind fun x214 => ((gx x0 x184).bind fun x223 => some (decide ((w64 (x214.Dep - x223.Arr)) ≥ x2.Break))))) else some false) : Option Bool).bind fun q202 => (((if q202 then ((gx x0 x184).bind fun x239 => some (decide ((w64 (x239.Arr - q192)) > x2.After))) else (if (((k183 + 1 : Nat) : Int) == ((x1).length : Int)) then ((gx x0 x184).bind fun x249 => some (decide ((w64 (x249.Arr - q192)) > x2.After))) else some false)) : Option Bool).bind fun q236 => (if q236 then some (.ret 4) else (((if q202 then ((gx x1 ((k183 + 1 : Nat) : Int)).bind fun x266 => ((gx x0 x266).bind fun x275 => some x275.Dep)) else some q192) : Option Int).bind fun q263 => Fishref2Code.loop2 x0 x1 x2 rest185 (k183 + 1) q263))))
def Fishref2Code (x0 : List FleetTask) (x1 : List Int) (x2 : FleetLimits) : Option Int := ((gx x1 0).bind fun x53 => ((gx x0 x53).bind fun x62 => ((gx x1 (w64 (((x1).length : Int) - 1))).bind fun x71 => ((gx x0 x71).bind fun x80 => ((Fishref2Code.loop1 x0 x1 x2 x1 0 0).bind fun q94 => match q94 with | .ret r => some r | .next q104 => (if decide ((w64 (x80.Arr - x62.Dep)) > x2.Long) then some 2 else (if decide (q104 > x2.Work) then some 3 else ((Fishref2Code.loop2 x0 x1 x2 x1 0 x62.Dep).bind fun q182 => match q182 with | .ret r => some r | .next _ => (if (x80.To != x62.From) then some 5 else some 0)))))))))
def Fishref2JudgeOf.loop1 (x0 : List FleetTask) (x1 : List Int) : (List Int) → Nat → Option (Out (Int × Int) Unit)
  | [], _ => some (.next ())
  | x58 :: rest59, k57 => (bnd ((if decide (x58 < 0) then true else decide (x58 ≥ ((x0).length : Int))) : Bool) fun q75 => (if q75 then some (.ret (0, 2)) else ((cutl x1 0 ((k57 : Nat) : Int)).bind fun x79 => (if (SlicesContainsLint x79 x58) then some (.ret (0, 6)) else Fishref2JudgeOf.loop1 x0 x1 rest59 (k57 + 1)))))
def Fishref2JudgeOf (x0 : List FleetTask) (x1 : List Int) (x2 : FleetLimits) : Option (Int × Int) := (if ((Fishref2TasksFault x0) != 0) then some (0, (Fishref2TasksFault x0)) else (if ((Fishref2LimitsFault x2) != 0) then some (0, (Fishref2LimitsFault x2)) else (if (((x1).length : Int) == 0) then some (0, 1) else ((Fishref2JudgeOf.loop1 x0 x1 x1 0).bind fun q56 => match q56 with | .ret r => some r | .next () => ((Fishref2Code x0 x1 x2).bind fun q89 => some (q89, 0))))))
def Fishlaw2crews : Option Bool := ((FleetJudge [(FleetTask.mk 0 1 0 100 0 1)] [0] (FleetLimits.mk 0 100 100 100 0 0 1)).bind fun q63 => (bnd ((if (q63.2 == 0) then (q63.1 == 5) else false) : Bool) fun q69 => some q69))
def Fishlaw2FleetJudges (x0 : List FleetTask) (x1 : List Int) (x2 : FleetLimits) : Option Bool := ((FleetJudge x0 x1 x2).bind fun q52 => ((Fishref2JudgeOf x0 x1 x2).bind fun q54 => ((((Fishlaw2crews).bind fun q62 => (if q62 then (if (q52.1 == q54.1) then some (q52.2 == q54.2) else some false) else some false)) : Option Bool).bind fun q60 => some q60)))
end Go.Fp
