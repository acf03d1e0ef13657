/- The mirrors of the functions that FleetShifts reaches: plain Lean functions on data. No condition. -/
import Derived.Test.YtpoooohaoekbaaaFpMap
namespace Go.Fp
structure FleetLimits where
  Change : Int
  Long : Int
  Work : Int
  After : Int
  Break : Int
  Rest : Int
  Row : Int
  deriving DecidableEq, Inhabited
def FleetLimits.cells (x : FleetLimits) : List Value := [.int .i64 x.Change, .int .i64 x.Long, .int .i64 x.Work, .int .i64 x.After, .int .i64 x.Break, .int .i64 x.Rest, .int .i64 x.Row]
def RFleetLimits : Rd FleetLimits := fun _ cs x => cs = x.cells
theorem RFleetLimits.mono : Rmono RFleetLimits := fun _ _ _ _ _ h => h
theorem RFleetLimits.one : Rone RFleetLimits := by intro s cs x h; subst h; rfl

structure FleetShift where
  Day : Int
  Start : Int
  End : Int
  deriving DecidableEq, Inhabited
def FleetShift.cells (x : FleetShift) : List Value := [.int .i64 x.Day, .int .i64 x.Start, .int .i64 x.End]
def RFleetShift : Rd FleetShift := fun _ cs x => cs = x.cells
theorem RFleetShift.mono : Rmono RFleetShift := fun _ _ _ _ _ h => h
theorem RFleetShift.one : Rone RFleetShift := by intro s cs x h; subst h; rfl

structure FleetTask where
  From : Int
  To : Int
  Dep : Int
  Arr : Int
  Km : Int
  Units : Int
  deriving DecidableEq, Inhabited
def FleetTask.cells (x : FleetTask) : List Value := [.int .i64 x.From, .int .i64 x.To, .int .i64 x.Dep, .int .i64 x.Arr, .int .i64 x.Km, .int .i64 x.Units]
def RFleetTask : Rd FleetTask := fun _ cs x => cs = x.cells
theorem RFleetTask.mono : Rmono RFleetTask := fun _ _ _ _ _ h => h
theorem RFleetTask.one : Rone RFleetTask := by intro s cs x h; subst h; rfl
def Fleetwithin (x0 : Int) (x1 : Int) (x2 : Int) : Bool := (bnd ((if decide (x0 ≥ x1) then decide (x0 ≤ x2) else false) : Bool) fun q55 => q55)
def FleetCheckShifts.loop1 : (List FleetShift) → Out Int Unit
  | [] => (.next ())
  | x55 :: rest56 => (bnd ((if !(Fleetwithin x55.Day 0 6) then true else (if !(Fleetwithin x55.Start 0 28800) then true else !(Fleetwithin x55.End 0 28800))) : Bool) fun q73 => (if q73 then (.ret 2) else (if decide (x55.End ≤ x55.Start) then (.ret 13) else FleetCheckShifts.loop1 rest56)))
def FleetCheckShifts (x0 : List FleetShift) : Int := (if decide (((x0).length : Int) > 8) then 4 else (bnd (FleetCheckShifts.loop1 x0) fun q53 => match q53 with | .ret r => r | .next () => 0))
def FleetCheckLimits.loop1 : (List Int) → Out Int Unit
  | [] => (.next ())
  | x55 :: rest56 => (if !(Fleetwithin x55 0 86400) then (.ret 2) else FleetCheckLimits.loop1 rest56)
def FleetCheckLimits (x0 : FleetLimits) : Int := (bnd (FleetCheckLimits.loop1 [x0.Change, x0.Long, x0.Work, x0.After, x0.Break, x0.Rest]) fun q53 => match q53 with | .ret r => r | .next () => (if !(Fleetwithin x0.Row 1 7) then 2 else 0))
def FleetcheckRoster.loop2 (x0 : List FleetShift) : (List Int) → Out Int Unit
  | [] => (.next ())
  | x74 :: rest75 => (if !(Fleetwithin x74 0 (w64 (((x0).length : Int) - 1))) then (.ret 2) else FleetcheckRoster.loop2 x0 rest75)
def FleetcheckRoster.loop1 (x0 : List FleetShift) : (List (List Int)) → Out Int Unit
  | [] => (.next ())
  | x55 :: rest56 => (bnd (FleetcheckRoster.loop2 x0 x55) fun q72 => match q72 with | .ret r => (.ret r) | .next () => FleetcheckRoster.loop1 x0 rest56)
def FleetcheckRoster (x0 : List FleetShift) (x1 : List (List Int)) : Int := (if decide (((x1).length : Int) > 4) then 4 else (bnd (FleetcheckRoster.loop1 x0 x1) fun q53 => match q53 with | .ret r => r | .next () => 0))
def FleetdriverBreaks.loop2 (x0 : List FleetShift) (x2 : FleetLimits) (x60 : Int) : (List Int) → Bool → Option Bool
  | [], q129 => some q129
  | x121 :: rest122, q129 => ((gx x0 x60).bind fun x136 => ((gx x0 x121).bind fun x145 => (bnd ((if decide (x136.Day > x145.Day) then (x145.Day, x145.Start, x145.End, x136.Day, x136.Start, x136.End) else (x136.Day, x136.Start, x136.End, x145.Day, x145.Start, x145.End)) : Int × Int × Int × Int × Int × Int) fun q159 => match q159 with | (q162, _, q164, q165, q166, _) => (bnd ((if q129 then true else (if (q162 != q165) then decide ((w64 ((w64 ((w64 ((w64 (q165 * 86400)) + q166)) - (w64 (q162 * 86400)))) - q164)) < x2.Rest) else false)) : Bool) fun q174 => FleetdriverBreaks.loop2 x0 x2 x60 rest122 q174))))
def FleetdriverBreaks.loop1 (x0 : List FleetShift) (x1 : List Int) (x2 : FleetLimits) : (List Int) → Nat → Bool → (List Int) → Option (Bool × (List Int))
  | [], _, q68, q69 => some (q68, q69)
  | x60 :: rest61, k59, q68, q69 => ((gx x0 x60).bind fun x80 => ((gx q69 x80.Day).bind fun x89 => ((ix q69 x80.Day).bind fun _ => ((sx q69 x80.Day (w64 (x89 + 1))).bind fun x104 => ((cutl x1 0 ((k59 : Nat) : Int)).bind fun x109 => ((FleetdriverBreaks.loop2 x0 x2 x60 x109 q68).bind fun q129 => FleetdriverBreaks.loop1 x0 x1 x2 rest61 (k59 + 1) q129 x104))))))
def FleetdriverBreaks.loop3 (x2 : FleetLimits) : (List Int) → Bool → Bool → Int → Bool × Bool × Int
  | [], q189, q190, q191 => (q189, q190, q191)
  | x181 :: rest182, q189, q190, q191 => (bnd ((if q189 then true else decide (x181 > 1)) : Bool) fun q197 => (if (x181 == 0) then FleetdriverBreaks.loop3 x2 rest182 q197 q190 0 else (bnd ((if q190 then true else decide ((w64 (q191 + 1)) > x2.Row)) : Bool) fun q205 => FleetdriverBreaks.loop3 x2 rest182 q197 q205 (w64 (q191 + 1)))))
def FleetdriverBreaks (x0 : List FleetShift) (x1 : List Int) (x2 : FleetLimits) : Option (Bool × Bool × Bool) := ((FleetdriverBreaks.loop1 x0 x1 x2 x1 0 false [0, 0, 0, 0, 0, 0, 0]).bind fun q58 => match q58 with | (q68, q69) => (bnd (FleetdriverBreaks.loop3 x2 q69 false false 0) fun q179 => match q179 with | (q189, q190, _) => some (q189, q68, q190)))
def FleetjudgeRoster_1 (x0 : Int) : Bool := (x0 != 1)
def SlicesIndexFuncLint_v1.loop1 : (List Int) → Nat → Out Int Unit
  | [], _ => (.next ())
  | x54 :: rest55, k53 => (if (FleetjudgeRoster_1 x54) then (.ret ((k53 : Nat) : Int)) else SlicesIndexFuncLint_v1.loop1 rest55 (k53 + 1))
def SlicesIndexFuncLint_v1 (x0 : List Int) : Int := (bnd (SlicesIndexFuncLint_v1.loop1 x0 0) fun q52 => match q52 with | .ret r => r | .next () => (-1))
def SlicesContainsFuncLint_v1 (x0 : List Int) : Bool := decide ((SlicesIndexFuncLint_v1 x0) ≥ 0)
def FleetjudgeRoster.loop2 : (List Int) → (List Int) → Option (List Int)
  | [], q97 => some q97
  | x89 :: rest90, q97 => ((gx q97 x89).bind fun x108 => ((ix q97 x89).bind fun _ => ((sx q97 x89 (w64 (x108 + 1))).bind fun x123 => FleetjudgeRoster.loop2 rest90 x123)))
def FleetjudgeRoster.loop1 (x0 : List FleetShift) (x2 : FleetLimits) : (List (List Int)) → Bool → Bool → Bool → (List Int) → Option (Bool × Bool × Bool × (List Int))
  | [], q69, q70, q71, q72 => some (q69, q70, q71, q72)
  | x61 :: rest62, q69, q70, q71, q72 => ((FleetjudgeRoster.loop2 x61 q72).bind fun q97 => ((FleetdriverBreaks x0 x61 x2).bind fun q128 => (bnd ((if q69 then (if q70 then (if q71 then (true, true, true) else (true, true, q128.2.2)) else (if q71 then (true, q128.2.1, true) else (true, q128.2.1, q128.2.2))) else (if q70 then (if q71 then (q128.1, true, true) else (q128.1, true, q128.2.2)) else (if q71 then (q128.1, q128.2.1, true) else (q128.1, q128.2.1, q128.2.2)))) : Bool × Bool × Bool) fun q131 => match q131 with | (q134, q135, q136) => FleetjudgeRoster.loop1 x0 x2 rest62 q134 q135 q136 q97)))
def FleetjudgeRoster (x0 : List FleetShift) (x1 : List (List Int)) (x2 : FleetLimits) : Option Int := ((mks ((x0).length : Int) (0 : Int)).bind fun x52 => ((FleetjudgeRoster.loop1 x0 x2 x1 false false false x52).bind fun q59 => match q59 with | (q69, q70, q71, q72) => (if (SlicesContainsFuncLint_v1 q72) then some 1 else (if q69 then some 2 else (if q70 then some 3 else (if q71 then some 4 else some 0))))))
def FleetJudgeRoster (x0 : List FleetShift) (x1 : List (List Int)) (x2 : FleetLimits) : Option (Int × Int) := (if ((FleetCheckShifts x0) != 0) then some (0, (FleetCheckShifts x0)) else (if ((FleetCheckLimits x2) != 0) then some (0, (FleetCheckLimits x2)) else (if ((FleetcheckRoster x0 x1) != 0) then some (0, (FleetcheckRoster x0 x1)) else ((FleetjudgeRoster x0 x1 x2).bind fun q55 => some (q55, 0)))))
def Fishref2within (x0 : Int) (x1 : Int) (x2 : Int) : Bool := (bnd ((if decide (x0 ≥ x1) then decide (x0 ≤ x2) else false) : Bool) fun q55 => q55)
def Fishref2ShiftsFault.loop1 : (List FleetShift) → Out Int Unit
  | [] => (.next ())
  | x55 :: rest56 => (bnd ((if !(Fishref2within x55.Day 0 6) then true else (if !(Fishref2within x55.Start 0 28800) then true else !(Fishref2within x55.End 0 28800))) : Bool) fun q73 => (if q73 then (.ret 2) else (if decide (x55.End ≤ x55.Start) then (.ret 13) else Fishref2ShiftsFault.loop1 rest56)))
def Fishref2ShiftsFault (x0 : List FleetShift) : Int := (if decide (((x0).length : Int) > 8) then 4 else (bnd (Fishref2ShiftsFault.loop1 x0) fun q53 => match q53 with | .ret r => r | .next () => 0))
def Fishref2LimitsFault.loop1 : (List Int) → Out Int Unit
  | [] => (.next ())
  | x61 :: rest62 => (if !(Fishref2within x61 0 86400) then (.ret 2) else Fishref2LimitsFault.loop1 rest62)
def Fishref2LimitsFault (x0 : FleetLimits) : Int := (bnd (Fishref2LimitsFault.loop1 [x0.Change, x0.Long, x0.Work, x0.After, x0.Break, x0.Rest]) fun q59 => match q59 with | .ret r => r | .next () => (if !(Fishref2within x0.Row 1 7) then 2 else 0))
def Fishref2RosterFault.loop2 (x0 : List FleetShift) : (List Int) → Out Int Unit
  | [] => (.next ())
  | x74 :: rest75 => (bnd ((if decide (x74 < 0) then true else decide (x74 ≥ ((x0).length : Int))) : Bool) fun q91 => (if q91 then (.ret 2) else Fishref2RosterFault.loop2 x0 rest75))
def Fishref2RosterFault.loop1 (x0 : List FleetShift) : (List (List Int)) → Out Int Unit
  | [] => (.next ())
  | x55 :: rest56 => (bnd (Fishref2RosterFault.loop2 x0 x55) fun q72 => match q72 with | .ret r => (.ret r) | .next () => Fishref2RosterFault.loop1 x0 rest56)
def Fishref2RosterFault (x0 : List FleetShift) (x1 : List (List Int)) : Int := (if decide (((x1).length : Int) > 4) then 4 else (bnd (Fishref2RosterFault.loop1 x0 x1) fun q53 => match q53 with | .ret r => r | .next () => 0))
def Fishref2later_1_v1 (x0 : Int) (y0 : Int) : Int := (bnd ((if (y0 == 0) then true else decide (x0 < y0)) : Bool) fun q56 => (bnd ((if q56 then x0 else y0) : Int) fun q63 => q63))
def Fishref2begins (x0 : FleetShift) : Int := w64 ((w64 (x0.Day * 86400)) + x0.Start)
def Fishref2ends (x0 : FleetShift) : Int := w64 ((w64 (x0.Day * 86400)) + x0.End)
def Fishref2later.loop3 (x0 : List FleetShift) (x2 : FleetLimits) (x82 : Int) : (List Int) → Int → Option Int
  | [], q141 => some q141
  | x133 :: rest134, q141 => ((gx x0 x82).bind fun x147 => ((gx x0 x133).bind fun x156 => (if (x147.Day == x156.Day) then (bnd (Fishref2later_1_v1 2 q141) fun q166 => ((gx x0 x133).bind fun x168 => ((gx x0 x82).bind fun x177 => ((gx x0 x82).bind fun x186 => ((gx x0 x133).bind fun x195 => (if decide ((mx (w64 ((Fishref2begins x168) - (Fishref2ends x177))) (w64 ((Fishref2begins x186) - (Fishref2ends x195)))) < x2.Rest) then (bnd (Fishref2later_1_v1 3 q166) fun q205 => Fishref2later.loop3 x0 x2 x82 rest134 q205) else Fishref2later.loop3 x0 x2 x82 rest134 q166)))))) else ((gx x0 x133).bind fun x207 => ((gx x0 x82).bind fun x216 => ((gx x0 x82).bind fun x225 => ((gx x0 x133).bind fun x234 => (if decide ((mx (w64 ((Fishref2begins x207) - (Fishref2ends x216))) (w64 ((Fishref2begins x225) - (Fishref2ends x234)))) < x2.Rest) then (bnd (Fishref2later_1_v1 3 q141) fun q244 => Fishref2later.loop3 x0 x2 x82 rest134 q244) else Fishref2later.loop3 x0 x2 x82 rest134 q141))))))))
def Fishref2later.loop2 (x0 : List FleetShift) (x2 : FleetLimits) (x56 : List Int) : (List Int) → Nat → (List Bool) → Int → Option ((List Bool) × Int)
  | [], _, q90, q96 => some (q90, q96)
  | x82 :: rest83, k81, q90, q96 => ((gx x0 x82).bind fun x102 => ((ix q90 x102.Day).bind fun _ => ((sx q90 x102.Day true).bind fun x116 => ((cutl x56 ((k81 + 1 : Nat) : Int) ((x56).length : Int)).bind fun x121 => ((Fishref2later.loop3 x0 x2 x82 x121 q96).bind fun q141 => Fishref2later.loop2 x0 x2 x56 rest83 (k81 + 1) x116 q141)))))
def Fishref2later.loop4 (x2 : FleetLimits) (q90 : List Bool) : Nat → Nat → Int → Int → Option (Int × Int)
  | 0, _, q258, q259 => some (q258, q259)
  | rest250 + 1, k248, q258, q259 => ((gx q90 ((k248 : Nat) : Int)).bind fun x261 => (bnd ((if !x261 then 0 else w64 (q258 + 1)) : Int) fun q275 => (if decide (q275 > x2.Row) then (bnd (Fishref2later_1_v1 4 q259) fun q279 => Fishref2later.loop4 x2 q90 rest250 (k248 + 1) q275 q279) else Fishref2later.loop4 x2 q90 rest250 (k248 + 1) q275 q259)))
def Fishref2later.loop1 (x0 : List FleetShift) (x2 : FleetLimits) : (List (List Int)) → Int → Option Int
  | [], q64 => some q64
  | x56 :: rest57, q64 => ((mks 8 (false : Bool)).bind fun x73 => ((Fishref2later.loop2 x0 x2 x56 x56 0 x73 q64).bind fun q80 => match q80 with | (q90, q96) => ((Fishref2later.loop4 x2 q90 x73.length 0 0 q96).bind fun q247 => match q247 with | (_, q259) => Fishref2later.loop1 x0 x2 rest57 q259)))
def Fishref2later (x0 : List FleetShift) (x1 : List (List Int)) (x2 : FleetLimits) : Option Int := ((Fishref2later.loop1 x0 x2 x1 0).bind fun q64 => some q64)
def Fishref2RosterCode.loop2 : (List Int) → (List Int) → Option (List Int)
  | [], q94 => some q94
  | x86 :: rest87, q94 => ((gx q94 x86).bind fun x105 => ((ix q94 x86).bind fun _ => ((sx q94 x86 (w64 (x105 + 1))).bind fun x120 => Fishref2RosterCode.loop2 rest87 x120)))
def Fishref2RosterCode.loop1 : (List (List Int)) → (List Int) → Option (List Int)
  | [], q69 => some q69
  | x61 :: rest62, q69 => ((Fishref2RosterCode.loop2 x61 q69).bind fun q94 => Fishref2RosterCode.loop1 rest62 q94)
def Fishref2RosterCode.loop3 (q69 : List Int) : Nat → Nat → Option (Out Int Unit)
  | 0, _ => some (.next ())
  | rest129 + 1, k127 => ((gx q69 ((k127 : Nat) : Int)).bind fun x138 => (if (x138 != 1) then some (.ret 1) else Fishref2RosterCode.loop3 q69 rest129 (k127 + 1)))
def Fishref2RosterCode (x0 : List FleetShift) (x1 : List (List Int)) (x2 : FleetLimits) : Option Int := ((mks ((x0).length : Int) (0 : Int)).bind fun x52 => ((Fishref2RosterCode.loop1 x1 x52).bind fun q69 => ((Fishref2RosterCode.loop3 q69 x52.length 0).bind fun q126 => match q126 with | .ret r => some r | .next () => ((Fishref2later x0 x1 x2).bind fun q149 => some q149))))
def Fishref2JudgeRosterOf (x0 : List FleetShift) (x1 : List (List Int)) (x2 : FleetLimits) : Option (Int × Int) := (if ((Fishref2ShiftsFault x0) != 0) then some (0, (Fishref2ShiftsFault x0)) else (if ((Fishref2LimitsFault x2) != 0) then some (0, (Fishref2LimitsFault x2)) else (if ((Fishref2RosterFault x0 x1) != 0) then some (0, (Fishref2RosterFault x0 x1)) else ((Fishref2RosterCode x0 x1 x2).bind fun q55 => some (q55, 0)))))
def Fleetload.loop1 (x0 : List FleetShift) : (List Int) → Int → Option Int
  | [], q62 => some q62
  | x54 :: rest55, q62 => ((gx x0 x54).bind fun x68 => ((gx x0 x54).bind fun x77 => Fleetload.loop1 x0 rest55 (w64 (q62 + (w64 (x68.End - x77.Start))))))
def Fleetload (x0 : List FleetShift) (x1 : List Int) : Option Int := ((Fleetload.loop1 x0 x1 0).bind fun q62 => some q62)
def FleetLoads.loop1 (x0 : List FleetShift) : (List (List Int)) → (List Int) → Option (List Int)
  | [], q67 => some q67
  | x59 :: rest60, q67 => ((Fleetload x0 x59).bind fun q82 => ((apd q67 [q82]).bind fun x85 => FleetLoads.loop1 x0 rest60 x85))
def FleetLoads (x0 : List FleetShift) (x1 : List (List Int)) : Option ((List Int) × Int) := (if ((FleetCheckShifts x0) != 0) then some ([], (FleetCheckShifts x0)) else (if ((FleetcheckRoster x0 x1) != 0) then some ([], (FleetcheckRoster x0 x1)) else ((FleetLoads.loop1 x0 x1 []).bind fun q67 => some (q67, 0))))
def FleetCheckTasks.loop1 : (List FleetTask) → Out Int Unit
  | [] => (.next ())
  | x55 :: rest56 => (bnd ((if !(Fleetwithin x55.From 0 11) then true else (if !(Fleetwithin x55.To 0 11) then true else (if !(Fleetwithin x55.Dep 0 28800) then true else !(Fleetwithin x55.Arr 0 28800)))) : Bool) fun q73 => (if q73 then (.ret 2) else (if decide (x55.Arr ≤ x55.Dep) then (.ret 13) else (bnd ((if !(Fleetwithin x55.Km 0 10000) then true else !(Fleetwithin x55.Units 1 4)) : Bool) fun q84 => (if q84 then (.ret 2) else FleetCheckTasks.loop1 rest56)))))
def FleetCheckTasks (x0 : List FleetTask) : Int := (if decide (((x0).length : Int) > 40) then 4 else (bnd (FleetCheckTasks.loop1 x0) fun q53 => match q53 with | .ret r => r | .next () => 0))
def FleetcheckTasks (x0 : List FleetTask) (x1 : FleetLimits) : Int := (if ((FleetCheckTasks x0) != 0) then (FleetCheckTasks x0) else (FleetCheckLimits x1))
def SlicesIndexLint.loop1 (x1 : Int) : (List Int) → Nat → Out Int Unit
  | [], _ => (.next ())
  | x54 :: rest55, k53 => (if (x1 == x54) then (.ret ((k53 : Nat) : Int)) else SlicesIndexLint.loop1 x1 rest55 (k53 + 1))
def SlicesIndexLint (x0 : List Int) (x1 : Int) : Int := (bnd (SlicesIndexLint.loop1 x1 x0 0) fun q52 => match q52 with | .ret r => r | .next () => (-1))
def SlicesContainsLint (x0 : List Int) (x1 : Int) : Bool := decide ((SlicesIndexLint x0 x1) ≥ 0)
def Fleetjudge_1_v1 (x0 : Int) (y0 : Int) (y1 : FleetLimits) (y2 : Int) : Int := (bnd ((if decide ((w64 (x0 - y0)) > y1.After) then 4 else y2) : Int) fun q56 => q56)
def Fleetjudge.loop1 (x0 : List FleetTask) (x1 : List Int) (x2 : FleetLimits) : (List Int) → Nat → Int → Int → Int → Option (Out Int (Int × Int × Int))
  | [], _, q106, q107, q108 => some (.next (q106, q107, q108))
  | x98 :: rest99, k97, q106, q107, q108 => ((gx x0 x98).bind fun x114 => (if (((k97 : Nat) : Int) == 0) then Fleetjudge.loop1 x0 x1 x2 rest99 (k97 + 1) (w64 (q106 + (w64 (x114.Arr - x114.Dep)))) q107 q108 else ((gx x1 (w64 (((k97 : Nat) : Int) - 1))).bind fun x125 => ((gx x0 x125).bind fun x134 => (bnd ((if (x114.From != x134.To) then true else decide (x114.Dep < (w64 (x134.Arr + x2.Change)))) : Bool) fun q148 => (if q148 then some (.ret 1) else (bnd ((if decide ((w64 (x114.Dep - x134.Arr)) ≥ x2.Break) then (bnd (Fleetjudge_1_v1 x134.Arr q108 x2 q107) fun q160 => (q160, x114.Dep)) else (q107, q108)) : Int × Int) fun q153 => match q153 with | (q156, q157) => Fleetjudge.loop1 x0 x1 x2 rest99 (k97 + 1) (w64 (q106 + (w64 (x114.Arr - x114.Dep)))) q156 q157)))))))
def Fleetjudge (x0 : List FleetTask) (x1 : List Int) (x2 : FleetLimits) : Option Int := ((gx x1 0).bind fun x53 => ((gx x0 x53).bind fun x62 => ((gx x1 (w64 (((x1).length : Int) - 1))).bind fun x71 => ((gx x0 x71).bind fun x80 => ((Fleetjudge.loop1 x0 x1 x2 x1 0 0 0 x62.Dep).bind fun q96 => match q96 with | .ret r => some r | .next (q106, q107, q108) => (bnd (Fleetjudge_1_v1 x80.Arr q108 x2 q107) fun q162 => (if decide ((w64 (x80.Arr - x62.Dep)) > x2.Long) then some 2 else (if decide (q106 > x2.Work) then some 3 else (if decide (q162 > 0) then some q162 else (if (x80.To != x62.From) then some 5 else some 0))))))))))
def FleetJudge.loop1 (x0 : List FleetTask) (x1 : List Int) : (List Int) → Nat → Option (Out (Int × Int) Unit)
  | [], _ => some (.next ())
  | x57 :: rest58, k56 => (if !(Fleetwithin x57 0 (w64 (((x0).length : Int) - 1))) then some (.ret (0, 2)) else ((cutl x1 0 ((k56 : Nat) : Int)).bind fun x71 => (if (SlicesContainsLint x71 x57) then some (.ret (0, 6)) else FleetJudge.loop1 x0 x1 rest58 (k56 + 1))))
def FleetJudge (x0 : List FleetTask) (x1 : List Int) (x2 : FleetLimits) : Option (Int × Int) := (if ((FleetcheckTasks x0 x2) != 0) then some (0, (FleetcheckTasks x0 x2)) else (if (((x1).length : Int) == 0) then some (0, 1) else ((FleetJudge.loop1 x0 x1 x1 0).bind fun q55 => match q55 with | .ret r => some r | .next () => ((Fleetjudge x0 x1 x2).bind fun q81 => some (q81, 0)))))
def Fishlaw2crews : Option Bool := ((FleetJudge [(FleetTask.mk 0 1 0 100 0 1)] [0] (FleetLimits.mk 0 100 100 100 0 0 1)).bind fun q63 => (bnd ((if (q63.2 == 0) then (q63.1 == 5) else false) : Bool) fun q69 => some q69))
def Fishref2LoadsOf.loop2 (x0 : List FleetShift) : (List Int) → Int → Option Int
  | [], q89 => some q89
  | x81 :: rest82, q89 => ((gx x0 x81).bind fun x95 => ((gx x0 x81).bind fun x104 => Fishref2LoadsOf.loop2 x0 rest82 (w64 (q89 + (w64 (x95.End - x104.Start))))))
def Fishref2LoadsOf.loop1 (x0 : List FleetShift) : (List (List Int)) → (List Int) → Option (List Int)
  | [], q63 => some q63
  | x55 :: rest56, q63 => ((Fishref2LoadsOf.loop2 x0 x55 0).bind fun q89 => ((apd q63 [q89]).bind fun x114 => Fishref2LoadsOf.loop1 x0 rest56 x114))
def Fishref2LoadsOf (x0 : List FleetShift) (x1 : List (List Int)) : Option (List Int) := ((Fishref2LoadsOf.loop1 x0 x1 []).bind fun q63 => some q63)
def SlicesEqualLint.loop1 (x1 : List Int) : (List Int) → Nat → Option (Out Bool Unit)
  | [], _ => some (.next ())
  | x55 :: rest56, k54 => ((gx x1 ((k54 : Nat) : Int)).bind fun x68 => (if (x55 != x68) then some (.ret false) else SlicesEqualLint.loop1 x1 rest56 (k54 + 1)))
def SlicesEqualLint (x0 : List Int) (x1 : List Int) : Option Bool := (if (((x0).length : Int) != ((x1).length : Int)) then some false else ((SlicesEqualLint.loop1 x1 x0 0).bind fun q53 => match q53 with | .ret r => some r | .next () => some true))
def Fishlaw2FleetShifts (x0 : List FleetShift) (x1 : List (List Int)) (x2 : FleetLimits) : Option Bool := ((FleetJudgeRoster x0 x1 x2).bind fun q52 => ((Fishref2JudgeRosterOf x0 x1 x2).bind fun q54 => ((FleetLoads x0 x1).bind fun q56 => ((((Fishlaw2crews).bind fun q70 => (if !q70 then some true else (if ((FleetCheckShifts x0) != (Fishref2ShiftsFault x0)) then some true else (if (q52.1 != q54.1) then some true else some (q52.2 != q54.2))))) : Option Bool).bind fun q68 => (if q68 then some false else (bnd ((if ((Fishref2ShiftsFault x0) == 0) then (Fishref2RosterFault x0 x1) else (Fishref2ShiftsFault x0)) : Int) fun q80 => (if (q80 != 0) then (bnd ((if (q56.2 == q80) then (((q56.1.length : Nat) : Int) == 0) else false) : Bool) fun q88 => some q88) else (((if (q56.2 == 0) then ((Fishref2LoadsOf x0 x1).bind fun q98 => ((SlicesEqualLint q56.1 q98).bind fun q106 => some q106)) else some false) : Option Bool).bind fun q95 => some q95))))))))
end Go.Fp
