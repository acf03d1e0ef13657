/- The mirrors of the functions that FleetStands reaches: plain Lean functions on data. No condition. -/
import Derived.Test.YtfhkpdnohcidgaaFpSort
import Derived.Test.YtfhkpdnohcidgaaFpRow
namespace Go.Fp
structure FleetAbsence where
  Driver : Int
  Day : Int
  deriving DecidableEq, Inhabited
-- FleetAbsence is of one size
def FleetAbsence.cells (x : FleetAbsence) : List Go.Value := [.int .i64 x.Driver, .int .i64 x.Day]
def RFleetAbsence : Rd FleetAbsence := fun _ cs x => cs = x.cells
theorem RFleetAbsence.mono : Rmono RFleetAbsence := fun _ _ _ _ _ h => h
theorem RFleetAbsence.one : Rone RFleetAbsence := by intro s cs x h; subst h; rfl

structure FleetLimits where
  Change : Int
  Long : Int
  Work : Int
  After : Int
  Break : Int
  Rest : Int
  Row : Int
  deriving DecidableEq, Inhabited
-- FleetLimits is of one size
def FleetLimits.cells (x : FleetLimits) : List Go.Value := [.int .i64 x.Change, .int .i64 x.Long, .int .i64 x.Work, .int .i64 x.After, .int .i64 x.Break, .int .i64 x.Rest, .int .i64 x.Row]
def RFleetLimits : Rd FleetLimits := fun _ cs x => cs = x.cells
theorem RFleetLimits.mono : Rmono RFleetLimits := fun _ _ _ _ _ h => h
theorem RFleetLimits.one : Rone RFleetLimits := by intro s cs x h; subst h; rfl

structure FleetShift where
  Day : Int
  Start : Int
  End : Int
  deriving DecidableEq, Inhabited
-- FleetShift is of one size
def FleetShift.cells (x : FleetShift) : List Go.Value := [.int .i64 x.Day, .int .i64 x.Start, .int .i64 x.End]
def RFleetShift : Rd FleetShift := fun _ cs x => cs = x.cells
theorem RFleetShift.mono : Rmono RFleetShift := fun _ _ _ _ _ h => h
theorem RFleetShift.one : Rone RFleetShift := by intro s cs x h; subst h; rfl

structure FleetTask where
  From : Int
  To : Int
  Dep : Int
  Arr : Int
  Km : Int
  Units : Int
  deriving DecidableEq, Inhabited
-- FleetTask is of one size
def FleetTask.cells (x : FleetTask) : List Go.Value := [.int .i64 x.From, .int .i64 x.To, .int .i64 x.Dep, .int .i64 x.Arr, .int .i64 x.Km, .int .i64 x.Units]
def RFleetTask : Rd FleetTask := fun _ cs x => cs = x.cells
theorem RFleetTask.mono : Rmono RFleetTask := fun _ _ _ _ _ h => h
theorem RFleetTask.one : Rone RFleetTask := by intro s cs x h; subst h; rfl
def Fleetwithin (x0 : Int) (x1 : Int) (x2 : Int) : Bool := (bnd ((if decide (x0 ≥ x1) then decide (x0 ≤ x2) else false) : Bool) fun q55 => q55)
def FleetCheckShifts.loop1 : (List FleetShift) → Out Int Unit
  | [] => (.next ())
  | x55 :: rest56 => (bnd ((if !(Fleetwithin x55.Day 0 6) then true else (if !(Fleetwithin x55.Start 0 28800) then true else !(Fleetwithin x55.End 0 28800))) : Bool) fun q73 => (if q73 then (.ret 2) else (if decide (x55.End ≤ x55.Start) then (.ret 13) else FleetCheckShifts.loop1 rest56)))
def FleetCheckShifts (x0 : List FleetShift) : Int := (if decide (((x0).length : Int) > 8) then 4 else (bnd (FleetCheckShifts.loop1 x0) fun q53 => match q53 with | .ret r => r | .next () => 0))
def FleetCheckLimits.loop1 : (List Int) → Out Int Unit
  | [] => (.next ())
  | x55 :: rest56 => (if !(Fleetwithin x55 0 86400) then (.ret 2) else FleetCheckLimits.loop1 rest56)
def FleetCheckLimits (x0 : FleetLimits) : Int := (bnd (FleetCheckLimits.loop1 [x0.Change, x0.Long, x0.Work, x0.After, x0.Break, x0.Rest]) fun q53 => match q53 with | .ret r => r | .next () => (if !(Fleetwithin x0.Row 1 7) then 2 else 0))
def FleetcheckRoster.loop2 (x0 : List FleetShift) : (List Int) → Out Int Unit
  | [] => (.next ())
  | x74 :: rest75 => (if !(Fleetwithin x74 0 (w64 (((x0).length : Int) - 1))) then (.ret 2) else FleetcheckRoster.loop2 x0 rest75)
def FleetcheckRoster.loop1 (x0 : List FleetShift) : (List (List Int)) → Out Int Unit
  | [] => (.next ())
  | x55 :: rest56 => (bnd (FleetcheckRoster.loop2 x0 x55) fun q72 => match q72 with | .ret r => (.ret r) | .next () => FleetcheckRoster.loop1 x0 rest56)
def FleetcheckRoster (x0 : List FleetShift) (x1 : List (List Int)) : Int := (if decide (((x1).length : Int) > 4) then 4 else (bnd (FleetcheckRoster.loop1 x0 x1) fun q53 => match q53 with | .ret r => r | .next () => 0))
def FleetdriverBreaks.loop2 (x0 : List FleetShift) (x2 : FleetLimits) (x60 : Int) : (List Int) → Bool → Option Bool
  | [], q129 => some q129
  | x121 :: rest122, q129 => ((gx x0 x60).bind fun x136 => ((gx x0 x121).bind fun x145 => (bnd ((if decide (x136.Day > x145.Day) then (x145.Day, x145.Start, x145.End, x136.Day, x136.Start, x136.End) else (x136.Day, x136.Start, x136.End, x145.Day, x145.Start, x145.End)) : Int × Int × Int × Int × Int × Int) fun q158 => match q158 with | (q161, _, q163, q164, q165, _) => (bnd ((if q129 then true else (if (q161 != q164) then decide ((w64 ((w64 ((w64 ((w64 (q164 * 86400)) + q165)) - (w64 (q161 * 86400)))) - q163)) < x2.Rest) else false)) : Bool) fun q173 => FleetdriverBreaks.loop2 x0 x2 x60 rest122 q173))))
def FleetdriverBreaks.loop1 (x0 : List FleetShift) (x1 : List Int) (x2 : FleetLimits) : (List Int) → Nat → Bool → (List Int) → Option (Bool × (List Int))
  | [], _, q68, q69 => some (q68, q69)
  | x60 :: rest61, k59, q68, q69 => ((gx x0 x60).bind fun x80 => ((gx q69 x80.Day).bind fun x89 => ((ix q69 x80.Day).bind fun _ => ((sx q69 x80.Day (w64 (x89 + 1))).bind fun x104 => ((cutl x1 0 ((k59 : Nat) : Int)).bind fun x109 => ((FleetdriverBreaks.loop2 x0 x2 x60 x109 q68).bind fun q129 => FleetdriverBreaks.loop1 x0 x1 x2 rest61 (k59 + 1) q129 x104))))))
def FleetdriverBreaks.loop3 (x2 : FleetLimits) : (List Int) → Bool → Bool → Int → Bool × Bool × Int
  | [], q188, q189, q190 => (q188, q189, q190)
  | x180 :: rest181, q188, q189, q190 => (bnd ((if q188 then true else decide (x180 > 1)) : Bool) fun q196 => (if (x180 == 0) then FleetdriverBreaks.loop3 x2 rest181 q196 q189 0 else (bnd ((if q189 then true else decide ((w64 (q190 + 1)) > x2.Row)) : Bool) fun q204 => FleetdriverBreaks.loop3 x2 rest181 q196 q204 (w64 (q190 + 1)))))
def FleetdriverBreaks (x0 : List FleetShift) (x1 : List Int) (x2 : FleetLimits) : Option (Bool × Bool × Bool) := ((FleetdriverBreaks.loop1 x0 x1 x2 x1 0 false [0, 0, 0, 0, 0, 0, 0]).bind fun q58 => match q58 with | (q68, q69) => (bnd (FleetdriverBreaks.loop3 x2 q69 false false 0) fun q178 => match q178 with | (q188, q189, _) => some (q188, q68, q189)))
def FleetjudgeRoster_1 (x0 : Int) : Bool := (x0 != 1)
def SlicesIndexFuncLint_v1.loop1 : (List Int) → Nat → Out Int Unit
  | [], _ => (.next ())
  | x54 :: rest55, k53 => (if (FleetjudgeRoster_1 x54) then (.ret ((k53 : Nat) : Int)) else SlicesIndexFuncLint_v1.loop1 rest55 (k53 + 1))
def SlicesIndexFuncLint_v1 (x0 : List Int) : Int := (bnd (SlicesIndexFuncLint_v1.loop1 x0 0) fun q52 => match q52 with | .ret r => r | .next () => (-1))
def SlicesContainsFuncLint_v1 (x0 : List Int) : Bool := decide ((SlicesIndexFuncLint_v1 x0) ≥ 0)
def FleetjudgeRoster.loop2 : (List Int) → (List Int) → Option (List Int)
  | [], q97 => some q97
  | x89 :: rest90, q97 => ((gx q97 x89).bind fun x108 => ((ix q97 x89).bind fun _ => ((sx q97 x89 (w64 (x108 + 1))).bind fun x123 => FleetjudgeRoster.loop2 rest90 x123)))
def FleetjudgeRoster.loop1 (x0 : List FleetShift) (x2 : FleetLimits) : (List (List Int)) → Bool → Bool → Bool → (List Int) → Option (Bool × Bool × Bool × (List Int))
  | [], q69, q70, q71, q72 => some (q69, q70, q71, q72)
  | x61 :: rest62, q69, q70, q71, q72 => ((FleetjudgeRoster.loop2 x61 q72).bind fun q97 => ((FleetdriverBreaks x0 x61 x2).bind fun q128 => (bnd ((if q69 then (if q70 then (if q71 then (true, true, true) else (true, true, q128.2.2)) else (if q71 then (true, q128.2.1, true) else (true, q128.2.1, q128.2.2))) else (if q70 then (if q71 then (q128.1, true, true) else (q128.1, true, q128.2.2)) else (if q71 then (q128.1, q128.2.1, true) else (q128.1, q128.2.1, q128.2.2)))) : Bool × Bool × Bool) fun q131 => match q131 with | (q134, q135, q136) => FleetjudgeRoster.loop1 x0 x2 rest62 q134 q135 q136 q97)))
def FleetjudgeRoster (x0 : List FleetShift) (x1 : List (List Int)) (x2 : FleetLimits) : Option Int := ((mks ((x0).length : Int) (0 : Int)).bind fun x52 => ((FleetjudgeRoster.loop1 x0 x2 x1 false false false x52).bind fun q59 => match q59 with | (q69, q70, q71, q72) => (if (SlicesContainsFuncLint_v1 q72) then some 1 else (if q69 then some 2 else (if q70 then some 3 else (if q71 then some 4 else some 0))))))
def FleetJudgeRoster (x0 : List FleetShift) (x1 : List (List Int)) (x2 : FleetLimits) : Option (Int × Int) := (if ((FleetCheckShifts x0) != 0) then some (0, (FleetCheckShifts x0)) else (if ((FleetCheckLimits x2) != 0) then some (0, (FleetCheckLimits x2)) else (if ((FleetcheckRoster x0 x1) != 0) then some (0, (FleetcheckRoster x0 x1)) else ((FleetjudgeRoster x0 x1 x2).bind fun q55 => some (q55, 0)))))
def SlicesCloneLLint_v1 (x0 : List (List Int)) : Option (List (List Int)) := ((apd [] x0).bind fun x56 => some x56)
def SlicesCloneLint (x0 : List Int) : Option (List Int) := ((apd [] x0).bind fun x56 => some x56)
def Fleetfits (x0 : List FleetShift) (x1 : List Int) (x2 : FleetLimits) : Option Bool := ((FleetdriverBreaks x0 x1 x2).bind fun q52 => (bnd ((if !q52.1 then (if !q52.2.1 then !q52.2.2 else false) else false) : Bool) fun q58 => some q58))
def FleetStandIns_1_v1.loop1 (x0 : Int) (y3 : List Int) (y5_0 : List (Int × Int)) (y6_0 : List (FleetAbsence × Bool)) (y7 : List FleetShift) (y8 : FleetLimits) (self_FleetStandIns_1_v1 : Int → (List (List Int)) → (List Int) → (List Int) → (List Int) → (List (List Int)) → (List (Int × Int)) → (List (FleetAbsence × Bool)) → (List FleetShift) → FleetLimits → Option ((List (List Int)) × (List (List Int)) × (List Int) × (List Int))) (x132 : Int) : Nat → Nat → (List (List Int)) → (List (List Int)) → (List Int) → (List Int) → Option ((List (List Int)) × (List (List Int)) × (List Int) × (List Int))
  | 0, _, q154, q160, q165, q172 => some (q154, q160, q165, q172)
  | rest146 + 1, k144, q154, q160, q165, q172 => ((gx q154 ((k144 : Nat) : Int)).bind fun x177 => (((if (((k144 : Nat) : Int) == ((mget y5_0 x132).getD 0)) then some true else ((gx y7 x132).bind fun x197 => some ((mget y6_0 (FleetAbsence.mk ((k144 : Nat) : Int) x197.Day)).getD false))) : Option Bool).bind fun q194 => (if q194 then FleetStandIns_1_v1.loop1 x0 y3 y5_0 y6_0 y7 y8 self_FleetStandIns_1_v1 x132 rest146 (k144 + 1) q154 q160 q165 q172 else ((SlicesCloneLint x177).bind fun q208 => ((apd q208 [x132]).bind fun x217 => ((ix q154 ((k144 : Nat) : Int)).bind fun _ => ((sx q154 ((k144 : Nat) : Int) x217).bind fun x231 => ((gx x231 ((k144 : Nat) : Int)).bind fun x237 => ((Fleetfits y7 x237 y8).bind fun q250 => (if q250 then ((self_FleetStandIns_1_v1 (w64 (x0 + 1)) q160 q165 q172 y3 x231 y5_0 y6_0 y7 y8).bind fun q253 => ((ix q253.1 ((k144 : Nat) : Int)).bind fun _ => ((sx q253.1 ((k144 : Nat) : Int) x177).bind fun x277 => FleetStandIns_1_v1.loop1 x0 y3 y5_0 y6_0 y7 y8 self_FleetStandIns_1_v1 x132 rest146 (k144 + 1) x277 q253.2.1 q253.2.2.1 q253.2.2.2))) else ((ix x231 ((k144 : Nat) : Int)).bind fun _ => ((sx x231 ((k144 : Nat) : Int) x177).bind fun x287 => FleetStandIns_1_v1.loop1 x0 y3 y5_0 y6_0 y7 y8 self_FleetStandIns_1_v1 x132 rest146 (k144 + 1) x287 q160 q165 q172))))))))))))
def FleetStandIns_1_v1 : Nat → Int → (List (List Int)) → (List Int) → (List Int) → (List Int) → (List (List Int)) → (List (Int × Int)) → (List (FleetAbsence × Bool)) → (List FleetShift) → FleetLimits → Option ((List (List Int)) × (List (List Int)) × (List Int) × (List Int))
  | 0, _, _, _, _, _, _, _, _, _, _ => none
  | fu + 1, x0, y0, y1, y2, y3, y4, y5_0, y6_0, y7, y8 => (bnd ((if !y0.isEmpty then decide (((y1.length : Nat) : Int) ≥ ((y2).length : Int)) else false) : Bool) fun q99 => (if q99 then some (y4, y0, y1, y2) else (if (x0 == ((y3.length : Nat) : Int)) then ((SlicesCloneLLint_v1 y4).bind fun q105 => ((SlicesCloneLint y1).bind fun q113 => ((nz q105).bind fun _ => some (y4, q105, y1, q113)))) else ((gx y3 x0).bind fun x132 => ((FleetStandIns_1_v1.loop1 x0 y3 y5_0 y6_0 y7 y8 (FleetStandIns_1_v1 fu) x132 y4.length 0 y4 y0 y1 y2).bind fun q143 => match q143 with | (q154, q160, q165, q172) => ((apd q165 [x132]).bind fun x293 => (((FleetStandIns_1_v1 fu) (w64 (x0 + 1)) q160 x293 q172 y3 q154 y5_0 y6_0 y7 y8).bind fun q299 => ((cutl q299.2.2.1 0 (w64 (((q299.2.2.1.length : Nat) : Int) - 1))).bind fun x318 => some (q299.1, q299.2.1, x318, q299.2.2.2)))))))))
def FleetStandIns_1_c (x0 : Int) (y0 : List (List Int)) (y1 : List Int) (y2 : List Int) (y3 : List Int) (y4 : List (List Int)) : Option ((List (List Int)) × (List (List Int)) × (List Int) × (List Int)) := (bnd ((if !y0.isEmpty then decide (((y1.length : Nat) : Int) ≥ ((y2).length : Int)) else false) : Bool) fun q99 => (if q99 then some (y4, y0, y1, y2) else (if (x0 == ((y3.length : Nat) : Int)) then ((SlicesCloneLLint_v1 y4).bind fun q105 => ((SlicesCloneLint y1).bind fun q113 => some (y4, q105, y1, q113))) else none)))
def FleetStandIns_1_z (fu : Nat) (x0 : Int) (y0 : List (List Int)) (y1 : List Int) (y2 : List Int) (y3 : List Int) (y4 : List (List Int)) (y5_0 : List (Int × Int)) (y6_0 : List (FleetAbsence × Bool)) (y7 : List FleetShift) (y8 : FleetLimits) : Option ((List (List Int)) × (List (List Int)) × (List Int) × (List Int)) := if y3.length = 0 then FleetStandIns_1_c x0 y0 y1 y2 y3 y4 else FleetStandIns_1_v1 fu x0 y0 y1 y2 y3 y4 y5_0 y6_0 y7 y8
def FleetStandIns.loop1 (x1 : List (List Int)) : (List FleetAbsence) → (List (FleetAbsence × Bool)) → Out ((List (List Int)) × (List Int) × Int) (List (FleetAbsence × Bool))
  | [], q70 => (.next q70)
  | x62 :: rest63, q70 => (bnd ((if !(Fleetwithin x62.Driver 0 (w64 (((x1).length : Int) - 1))) then true else !(Fleetwithin x62.Day 0 6)) : Bool) fun q81 => (if q81 then (.ret ([], [], 2)) else FleetStandIns.loop1 x1 rest63 (mput q70 x62 true)))
def FleetStandIns.loop3 (x0 : List FleetShift) (q70 : List (FleetAbsence × Bool)) (k98 : Nat) : (List Int) → (List (List Int)) → (List Int) → (List (Int × Int)) → Option ((List (List Int)) × (List Int) × (List (Int × Int)))
  | [], q141, q148, q155 => some (q141, q148, q155)
  | x133 :: rest134, q141, q148, q155 => ((gx x0 x133).bind fun x161 => (((if ((mget q70 (FleetAbsence.mk ((k98 : Nat) : Int) x161.Day)).getD false) then ((apd q148 [x133]).bind fun x192 => some (q141, x192, (mput q155 x133 ((k98 : Nat) : Int)))) else ((gx q141 ((k98 : Nat) : Int)).bind fun x199 => ((apd x199 [x133]).bind fun x211 => ((ix q141 ((k98 : Nat) : Int)).bind fun _ => ((sx q141 ((k98 : Nat) : Int) x211).bind fun x220 => some (x220, q148, q155)))))) : Option ((List (List Int)) × (List Int) × (List (Int × Int)))).bind fun q171 => match q171 with | (q174, q181, q188) => FleetStandIns.loop3 x0 q70 k98 rest134 q174 q181 q188))
def FleetStandIns.loop2 (x0 : List FleetShift) (q70 : List (FleetAbsence × Bool)) : (List (List Int)) → Nat → (List (List Int)) → (List Int) → (List (Int × Int)) → Option ((List (List Int)) × (List Int) × (List (Int × Int)))
  | [], _, q107, q114, q121 => some (q107, q114, q121)
  | x99 :: rest100, k98, q107, q114, q121 => ((FleetStandIns.loop3 x0 q70 k98 x99 q107 q114 q121).bind fun q131 => match q131 with | (q141, q148, q155) => FleetStandIns.loop2 x0 q70 rest100 (k98 + 1) q141 q148 q155)
def FleetStandIns (fu : Nat) (x0 : List FleetShift) (x1 : List (List Int)) (x2 : FleetLimits) (x3 : List FleetAbsence) : Option ((List (List Int)) × (List Int) × Int) := ((FleetJudgeRoster x0 x1 x2).bind fun q53 => (if (q53.2 != 0) then some ([], [], q53.2) else (if (q53.1 != 0) then some ([], [], 1) else (bnd (FleetStandIns.loop1 x1 x3 []) fun q60 => match q60 with | .ret r => some r | .next q70 => ((mks ((x1).length : Int) ([] : List Int)).bind fun x85 => ((FleetStandIns.loop2 x0 q70 x1 0 x85 [] []).bind fun q97 => match q97 with | (q107, q114, q121) => ((srt q114).bind fun q228 => ((FleetStandIns_1_z fu 0 [] [] [] q228 q107 q121 q70 x0 x2).bind fun q240 => ((srtRows q240.2.1 q240.2.2.2).bind fun q259 => some (q259, q240.2.2.2, 0))))))))))
def Fishref2within (x0 : Int) (x1 : Int) (x2 : Int) : Bool := (bnd ((if decide (x0 ≥ x1) then decide (x0 ≤ x2) else false) : Bool) fun q55 => q55)
def Fishref2ShiftsFault.loop1 : (List FleetShift) → Out Int Unit
  | [] => (.next ())
  | x55 :: rest56 => (bnd ((if !(Fishref2within x55.Day 0 6) then true else (if !(Fishref2within x55.Start 0 28800) then true else !(Fishref2within x55.End 0 28800))) : Bool) fun q73 => (if q73 then (.ret 2) else (if decide (x55.End ≤ x55.Start) then (.ret 13) else Fishref2ShiftsFault.loop1 rest56)))
def Fishref2ShiftsFault (x0 : List FleetShift) : Int := (if decide (((x0).length : Int) > 8) then 4 else (bnd (Fishref2ShiftsFault.loop1 x0) fun q53 => match q53 with | .ret r => r | .next () => 0))
def Fishref2LimitsFault.loop1 : (List Int) → Out Int Unit
  | [] => (.next ())
  | x61 :: rest62 => (if !(Fishref2within x61 0 86400) then (.ret 2) else Fishref2LimitsFault.loop1 rest62)
def Fishref2LimitsFault (x0 : FleetLimits) : Int := (bnd (Fishref2LimitsFault.loop1 [x0.Change, x0.Long, x0.Work, x0.After, x0.Break, x0.Rest]) fun q59 => match q59 with | .ret r => r | .next () => (if !(Fishref2within x0.Row 1 7) then 2 else 0))
def Fishref2RosterFault.loop2 (x0 : List FleetShift) : (List Int) → Out Int Unit
  | [] => (.next ())
  | x74 :: rest75 => (bnd ((if decide (x74 < 0) then true else decide (x74 ≥ ((x0).length : Int))) : Bool) fun q91 => (if q91 then (.ret 2) else Fishref2RosterFault.loop2 x0 rest75))
def Fishref2RosterFault.loop1 (x0 : List FleetShift) : (List (List Int)) → Out Int Unit
  | [] => (.next ())
  | x55 :: rest56 => (bnd (Fishref2RosterFault.loop2 x0 x55) fun q72 => match q72 with | .ret r => (.ret r) | .next () => Fishref2RosterFault.loop1 x0 rest56)
def Fishref2RosterFault (x0 : List FleetShift) (x1 : List (List Int)) : Int := (if decide (((x1).length : Int) > 4) then 4 else (bnd (Fishref2RosterFault.loop1 x0 x1) fun q53 => match q53 with | .ret r => r | .next () => 0))
def Fishref2later_1_v1 (x0 : Int) (y0 : Int) : Int := (bnd ((if (y0 == 0) then true else decide (x0 < y0)) : Bool) fun q56 => (bnd ((if q56 then x0 else y0) : Int) fun q63 => q63))
def Fishref2begins (x0 : FleetShift) : Int := w64 ((w64 (x0.Day * 86400)) + x0.Start)
def Fishref2ends (x0 : FleetShift) : Int := w64 ((w64 (x0.Day * 86400)) + x0.End)
def Fishref2later.loop3 (x0 : List FleetShift) (x2 : FleetLimits) (x82 : Int) : (List Int) → Int → Option Int
  | [], q141 => some q141
  | x133 :: rest134, q141 => ((gx x0 x82).bind fun x147 => ((gx x0 x133).bind fun x156 => (if (x147.Day == x156.Day) then (bnd (Fishref2later_1_v1 2 q141) fun q166 => ((gx x0 x133).bind fun x168 => ((gx x0 x82).bind fun x177 => ((gx x0 x82).bind fun x186 => ((gx x0 x133).bind fun x195 => (if decide ((mx (w64 ((Fishref2begins x168) - (Fishref2ends x177))) (w64 ((Fishref2begins x186) - (Fishref2ends x195)))) < x2.Rest) then (bnd (Fishref2later_1_v1 3 q166) fun q205 => Fishref2later.loop3 x0 x2 x82 rest134 q205) else Fishref2later.loop3 x0 x2 x82 rest134 q166)))))) else ((gx x0 x133).bind fun x207 => ((gx x0 x82).bind fun x216 => ((gx x0 x82).bind fun x225 => ((gx x0 x133).bind fun x234 => (if decide ((mx (w64 ((Fishref2begins x207) - (Fishref2ends x216))) (w64 ((Fishref2begins x225) - (Fishref2ends x234)))) < x2.Rest) then (bnd (Fishref2later_1_v1 3 q141) fun q244 => Fishref2later.loop3 x0 x2 x82 rest134 q244) else Fishref2later.loop3 x0 x2 x82 rest134 q141))))))))
def Fishref2later.loop2 (x0 : List FleetShift) (x2 : FleetLimits) (x56 : List Int) : (List Int) → Nat → (List Bool) → Int → Option ((List Bool) × Int)
  | [], _, q90, q96 => some (q90, q96)
  | x82 :: rest83, k81, q90, q96 => ((gx x0 x82).bind fun x102 => ((ix q90 x102.Day).bind fun _ => ((sx q90 x102.Day true).bind fun x116 => ((cutl x56 ((k81 + 1 : Nat) : Int) ((x56).length : Int)).bind fun x121 => ((Fishref2later.loop3 x0 x2 x82 x121 q96).bind fun q141 => Fishref2later.loop2 x0 x2 x56 rest83 (k81 + 1) x116 q141)))))
def Fishref2later.loop4 (x2 : FleetLimits) (q90 : List Bool) : Nat → Nat → Int → Int → Option (Int × Int)
  | 0, _, q258, q259 => some (q258, q259)
  | rest250 + 1, k248, q258, q259 => ((gx q90 ((k248 : Nat) : Int)).bind fun x261 => (bnd ((if !x261 then 0 else w64 (q258 + 1)) : Int) fun q275 => (if decide (q275 > x2.Row) then (bnd (Fishref2later_1_v1 4 q259) fun q279 => Fishref2later.loop4 x2 q90 rest250 (k248 + 1) q275 q279) else Fishref2later.loop4 x2 q90 rest250 (k248 + 1) q275 q259)))
def Fishref2later.loop1 (x0 : List FleetShift) (x2 : FleetLimits) : (List (List Int)) → Int → Option Int
  | [], q64 => some q64
  | x56 :: rest57, q64 => ((mks 8 (false : Bool)).bind fun x73 => ((Fishref2later.loop2 x0 x2 x56 x56 0 x73 q64).bind fun q80 => match q80 with | (q90, q96) => ((Fishref2later.loop4 x2 q90 x73.length 0 0 q96).bind fun q247 => match q247 with | (_, q259) => Fishref2later.loop1 x0 x2 rest57 q259)))
def Fishref2later (x0 : List FleetShift) (x1 : List (List Int)) (x2 : FleetLimits) : Option Int := ((Fishref2later.loop1 x0 x2 x1 0).bind fun q64 => some q64)
def Fishref2RosterCode.loop2 : (List Int) → (List Int) → Option (List Int)
  | [], q94 => some q94
  | x86 :: rest87, q94 => ((gx q94 x86).bind fun x105 => ((ix q94 x86).bind fun _ => ((sx q94 x86 (w64 (x105 + 1))).bind fun x120 => Fishref2RosterCode.loop2 rest87 x120)))
def Fishref2RosterCode.loop1 : (List (List Int)) → (List Int) → Option (List Int)
  | [], q69 => some q69
  | x61 :: rest62, q69 => ((Fishref2RosterCode.loop2 x61 q69).bind fun q94 => Fishref2RosterCode.loop1 rest62 q94)
def Fishref2RosterCode.loop3 (q69 : List Int) : Nat → Nat → Option (Out Int Unit)
  | 0, _ => some (.next ())
  | rest129 + 1, k127 => ((gx q69 ((k127 : Nat) : Int)).bind fun x138 => (if (x138 != 1) then some (.ret 1) else Fishref2RosterCode.loop3 q69 rest129 (k127 + 1)))
def Fishref2RosterCode (x0 : List FleetShift) (x1 : List (List Int)) (x2 : FleetLimits) : Option Int := ((mks ((x0).length : Int) (0 : Int)).bind fun x52 => ((Fishref2RosterCode.loop1 x1 x52).bind fun q69 => ((Fishref2RosterCode.loop3 q69 x52.length 0).bind fun q126 => match q126 with | .ret r => some r | .next () => ((Fishref2later x0 x1 x2).bind fun q149 => some q149))))
def Fishref2JudgeRosterOf (x0 : List FleetShift) (x1 : List (List Int)) (x2 : FleetLimits) : Option (Int × Int) := (if ((Fishref2ShiftsFault x0) != 0) then some (0, (Fishref2ShiftsFault x0)) else (if ((Fishref2LimitsFault x2) != 0) then some (0, (Fishref2LimitsFault x2)) else (if ((Fishref2RosterFault x0 x1) != 0) then some (0, (Fishref2RosterFault x0 x1)) else ((Fishref2RosterCode x0 x1 x2).bind fun q55 => some (q55, 0)))))
def Fishref2StandInsFault.loop1 (x1 : List (List Int)) : (List FleetAbsence) → Out Int Unit
  | [] => (.next ())
  | x59 :: rest60 => (bnd ((if decide (x59.Driver < 0) then true else (if decide (x59.Driver ≥ ((x1).length : Int)) then true else !(Fishref2within x59.Day 0 6))) : Bool) fun q77 => (if q77 then (.ret 2) else Fishref2StandInsFault.loop1 x1 rest60))
def Fishref2StandInsFault (x0 : List FleetShift) (x1 : List (List Int)) (x2 : FleetLimits) (x3 : List FleetAbsence) : Option Int := ((Fishref2JudgeRosterOf x0 x1 x2).bind fun q52 => (if (q52.2 != 0) then some q52.2 else (if (q52.1 != 0) then some 1 else (bnd (Fishref2StandInsFault.loop1 x1 x3) fun q57 => match q57 with | .ret r => some r | .next () => some 0))))
def SlicesIndexLfleetAbsence.loop1 (x1 : FleetAbsence) : (List FleetAbsence) → Nat → Out Int Unit
  | [], _ => (.next ())
  | x55 :: rest56, k54 => (if ((x1.Driver == x55.Driver) && (x1.Day == x55.Day)) then (.ret ((k54 : Nat) : Int)) else SlicesIndexLfleetAbsence.loop1 x1 rest56 (k54 + 1))
def SlicesIndexLfleetAbsence (x0 : List FleetAbsence) (x1 : FleetAbsence) : Int := (bnd (SlicesIndexLfleetAbsence.loop1 x1 x0 0) fun q53 => match q53 with | .ret r => r | .next () => (-1))
def SlicesContainsLfleetAbsence (x0 : List FleetAbsence) (x1 : FleetAbsence) : Bool := decide ((SlicesIndexLfleetAbsence x0 x1) ≥ 0)
def Fishref2StandInsOf_1_v1 (x0 : Int) (x1 : Int) (y0 : List FleetAbsence) : Bool := (SlicesContainsLfleetAbsence y0 (FleetAbsence.mk x0 x1))
def Fishref2given.loop1 (x0 : Int) : (List Int) → Nat → (List (List Int)) → Option (List (List Int))
  | [], _, q68 => some q68
  | x60 :: rest61, k59, q68 => (((if decide (x60 < x0) then ((gx q68 x60).bind fun x93 => ((apd x93 [((k59 : Nat) : Int)]).bind fun x105 => ((ix q68 x60).bind fun _ => ((sx q68 x60 x105).bind fun x114 => some x114)))) else some q68) : Option (List (List Int))).bind fun q84 => Fishref2given.loop1 x0 rest61 (k59 + 1) q84)
def Fishref2given (x0 : Int) (x1 : List Int) : Option (List (List Int)) := ((mks x0 ([] : List Int)).bind fun x51 => ((Fishref2given.loop1 x0 x1 0 x51).bind fun q68 => some q68))
def Fishref2given_v1.loop1 (x0 : Int) (x1 : List Int) : Nat → Nat → (List (List Int)) → Option (List (List Int))
  | 0, _, q69 => some q69
  | rest61 + 1, k59, q69 => ((gx x1 ((k59 : Nat) : Int)).bind fun x77 => (((if decide (x77 < x0) then ((gx q69 x77).bind fun x100 => ((apd x100 [((k59 : Nat) : Int)]).bind fun x112 => ((ix q69 x77).bind fun _ => ((sx q69 x77 x112).bind fun x121 => some x121)))) else some q69) : Option (List (List Int))).bind fun q91 => Fishref2given_v1.loop1 x0 x1 rest61 (k59 + 1) q91))
def Fishref2given_v1 (x0 : Int) (x1 : List Int) : Option (List (List Int)) := ((mks x0 ([] : List Int)).bind fun x51 => ((Fishref2given_v1.loop1 x0 x1 x1.length 0 x51).bind fun q69 => some q69))
def Fishref2StandInsOf_2_v1.loop1 (x0 : List Int) (y1 : List Int) (y2 : Int) (y4 : List FleetShift) (y6 : Int) (y7 : List Int) (y8 : List FleetAbsence) : Nat → Nat → Int → (List Int) → Option (Out (Bool × Int × (List Int)) (Int × (List Int)))
  | 0, _, q85, q86 => some (.next (q85, q86))
  | rest77 + 1, k75, q85, q86 => ((gx y1 ((k75 : Nat) : Int)).bind fun x93 => ((gx x0 ((k75 : Nat) : Int)).bind fun x103 => ((ix q86 x93).bind fun _ => ((sx q86 x93 x103).bind fun x117 => (((if (x103 == y2) then some (.next (w64 (q85 + 1))) else ((gx y4 x93).bind fun x129 => (if (Fishref2StandInsOf_1_v1 x103 x129.Day y8) then some (.ret (false, y6, y7)) else some (.next q85)))) : Option (Out (Bool × Int × (List Int)) Int)).bind fun q123 => match q123 with | .ret r => some (.ret r) | .next q126 => Fishref2StandInsOf_2_v1.loop1 x0 y1 y2 y4 y6 y7 y8 rest77 (k75 + 1) q126 x117)))))
def Fishref2StandInsOf_2_v1 (x0 : List Int) (y0 : List Int) (y1 : List Int) (y2 : Int) (y4 : List FleetShift) (y5 : FleetLimits) (y6 : Int) (y7 : List Int) (y8 : List FleetAbsence) : Option (Bool × Int × (List Int)) := ((SlicesCloneLint y0).bind fun q61 => ((Fishref2StandInsOf_2_v1.loop1 x0 y1 y2 y4 y6 y7 y8 y1.length 0 0 q61).bind fun q74 => match q74 with | .ret r => some r | .next (q85, q86) => ((Fishref2given_v1 y2 q86).bind fun q140 => ((Fishref2later y4 q140 y5).bind fun q147 => (if (q147 != 0) then some (false, y6, y7) else (bnd ((if decide (y6 < 0) then true else decide (q85 < y6)) : Bool) fun q154 => (bnd ((if q154 then (q85, q86) else (y6, y7)) : Int × (List Int)) fun q158 => match q158 with | (q161, q162) => some (false, q161, q162))))))))
def Fishref2StandInsOf_2_v2.loop1 (x0 : List Int) (y1 : List Int) (y2 : Int) (y4 : List FleetShift) (y6 : Int) (y7 : List Int) (y8 : List FleetAbsence) : Nat → Nat → Int → (List Int) → Option (Out (Bool × Int × (List Int)) (Int × (List Int)))
  | 0, _, q85, q86 => some (.next (q85, q86))
  | rest77 + 1, k75, q85, q86 => ((gx y1 ((k75 : Nat) : Int)).bind fun x93 => ((gx x0 ((k75 : Nat) : Int)).bind fun x103 => ((ix q86 x93).bind fun _ => ((sx q86 x93 x103).bind fun x118 => (((if (x103 == y2) then some (.next (w64 (q85 + 1))) else ((gx y4 x93).bind fun x130 => (if (Fishref2StandInsOf_1_v1 x103 x130.Day y8) then some (.ret (false, y6, y7)) else some (.next q85)))) : Option (Out (Bool × Int × (List Int)) Int)).bind fun q124 => match q124 with | .ret r => some (.ret r) | .next q127 => Fishref2StandInsOf_2_v2.loop1 x0 y1 y2 y4 y6 y7 y8 rest77 (k75 + 1) q127 x118)))))
def Fishref2StandInsOf_2_v2 (x0 : List Int) (y0 : List Int) (y1 : List Int) (y2 : Int) (y4 : List FleetShift) (y5 : FleetLimits) (y6 : Int) (y7 : List Int) (y8 : List FleetAbsence) : Option (Bool × Int × (List Int)) := ((SlicesCloneLint y0).bind fun q61 => ((Fishref2StandInsOf_2_v2.loop1 x0 y1 y2 y4 y6 y7 y8 y1.length 0 0 q61).bind fun q74 => match q74 with | .ret r => some r | .next (q85, q86) => ((Fishref2given_v1 y2 q86).bind fun q141 => ((Fishref2later y4 q141 y5).bind fun q148 => (if (q148 != 0) then some (false, y6, y7) else (bnd ((if decide (y6 < 0) then true else decide (q85 < y6)) : Bool) fun q155 => (bnd ((if q155 then (q85, q86) else (y6, y7)) : Int × (List Int)) fun q159 => match q159 with | (q162, q163) => some (false, q162, q163))))))))
def Fishref2counts_v1.loop2 (x1 : Int) : Nat → Int → (List Int) → Option (Int × (List Int))
  | 0, _, _ => none
  | n95 + 1, q99, q100 => (((if decide (q99 ≥ 0) then ((gx q100 q99).bind fun x114 => some (x114 == (w64 (x1 - 1)))) else some false) : Option Bool).bind fun q111 => (if q111 then ((ix q100 q99).bind fun _ => ((sx q100 q99 0).bind fun x130 => Fishref2counts_v1.loop2 x1 n95 (w64 (q99 - 1)) x130)) else some (q99, q100)))
def Fishref2counts_v1.loop1 (x0 : Int) (x1 : Int) (y0 : List Int) (y1 : List Int) (y2 : Int) (y4 : List FleetShift) (y5 : FleetLimits) (y8 : List FleetAbsence) (fu : Nat) : Nat → (List Int) → Int → (List Int) → Option (Out (Bool × Int × (List Int)) ((List Int) × Int × (List Int)))
  | 0, _, _, _ => none
  | n69 + 1, q73, q79, q80 => ((Fishref2StandInsOf_2_v2 q73 y0 y1 y2 y4 y5 q79 q80 y8).bind fun q85 => (if q85.1 then some (.ret (true, q85.2.1, q85.2.2)) else ((Fishref2counts_v1.loop2 x1 fu (w64 (x0 - 1)) q73).bind fun q94 => match q94 with | (q99, q100) => (if decide (q99 < 0) then some (.ret (false, q85.2.1, q85.2.2)) else ((gx q100 q99).bind fun x136 => ((ix q100 q99).bind fun _ => ((sx q100 q99 (w64 (x136 + 1))).bind fun x151 => Fishref2counts_v1.loop1 x0 x1 y0 y1 y2 y4 y5 y8 fu n69 x151 q85.2.1 q85.2.2)))))))
def Fishref2counts_v1 (fu : Nat) (x0 : Int) (x1 : Int) (y0 : List Int) (y1 : List Int) (y2 : Int) (y4 : List FleetShift) (y5 : FleetLimits) (y6 : Int) (y7 : List Int) (y8 : List FleetAbsence) : Option (Bool × Int × (List Int)) := ((mks x0 (0 : Int)).bind fun x61 => ((Fishref2counts_v1.loop1 x0 x1 y0 y1 y2 y4 y5 y8 fu fu x61 y6 y7).bind fun q68 => match q68 with | .ret r => some r | .next _ => none))
def Fishref2StandInsOf.loop2 (k69 : Nat) : (List Int) → (List Int) → Option (List Int)
  | [], q103 => some q103
  | x95 :: rest96, q103 => ((ix q103 x95).bind fun _ => ((sx q103 x95 ((k69 : Nat) : Int)).bind fun x119 => Fishref2StandInsOf.loop2 k69 rest96 x119))
def Fishref2StandInsOf.loop1 : (List (List Int)) → Nat → (List Int) → Option (List Int)
  | [], _, q78 => some q78
  | x70 :: rest71, k69, q78 => ((Fishref2StandInsOf.loop2 k69 x70 q78).bind fun q103 => Fishref2StandInsOf.loop1 rest71 (k69 + 1) q103)
def Fishref2StandInsOf.loop3 (x0 : List FleetShift) (x3 : List FleetAbsence) (q78 : List Int) : Nat → Nat → (List Int) → Option (List Int)
  | 0, _, q138 => some q138
  | rest130 + 1, k128, q138 => ((gx q78 ((k128 : Nat) : Int)).bind fun x146 => ((gx x0 ((k128 : Nat) : Int)).bind fun x156 => (((if (Fishref2StandInsOf_1_v1 x146 x156.Day x3) then ((apd q138 [((k128 : Nat) : Int)]).bind fun x179 => some x179) else some q138) : Option (List Int)).bind fun q169 => Fishref2StandInsOf.loop3 x0 x3 q78 rest130 (k128 + 1) q169)))
def Fishref2StandInsOf.loop4 (x1 : List (List Int)) : (List Int) → Nat → (List Int) → Option (List Int)
  | [], _, q206 => some q206
  | x198 :: rest199, k197, q206 => (((if (x198 == ((x1).length : Int)) then ((apd q206 [((k197 : Nat) : Int)]).bind fun x232 => some x232) else some q206) : Option (List Int)).bind fun q222 => Fishref2StandInsOf.loop4 x1 rest199 (k197 + 1) q222)
def Fishref2StandInsOf (fu : Nat) (x0 : List FleetShift) (x1 : List (List Int)) (x2 : FleetLimits) (x3 : List FleetAbsence) : Option ((List (List Int)) × (List Int) × Int) := ((Fishref2StandInsFault x0 x1 x2 x3).bind fun q54 => (if (q54 != 0) then some ([], [], q54) else ((mks ((x0).length : Int) (0 : Int)).bind fun x60 => ((Fishref2StandInsOf.loop1 x1 0 x60).bind fun q78 => ((Fishref2StandInsOf.loop3 x0 x3 q78 x60.length 0 []).bind fun q138 => ((Fishref2counts_v1 fu ((q138.length : Nat) : Int) (w64 (((x1).length : Int) + 1)) q78 q138 ((x1).length : Int) x0 x2 (-1) [] x3).bind fun q187 => ((Fishref2StandInsOf.loop4 x1 q187.2.2 0 []).bind fun q206 => ((Fishref2given ((x1).length : Int) q187.2.2).bind fun q238 => some (q238, q206, 0)))))))))
def FleetCheckTasks.loop1 : (List FleetTask) → Out Int Unit
  | [] => (.next ())
  | x55 :: rest56 => (bnd ((if !(Fleetwithin x55.From 0 11) then true else (if !(Fleetwithin x55.To 0 11) then true else (if !(Fleetwithin x55.Dep 0 28800) then true else !(Fleetwithin x55.Arr 0 28800)))) : Bool) fun q73 => (if q73 then (.ret 2) else (if decide (x55.Arr ≤ x55.Dep) then (.ret 13) else (bnd ((if !(Fleetwithin x55.Km 0 10000) then true else !(Fleetwithin x55.Units 1 4)) : Bool) fun q84 => (if q84 then (.ret 2) else FleetCheckTasks.loop1 rest56)))))
def FleetCheckTasks (x0 : List FleetTask) : Int := (if decide (((x0).length : Int) > 40) then 4 else (bnd (FleetCheckTasks.loop1 x0) fun q53 => match q53 with | .ret r => r | .next () => 0))
def FleetcheckTasks (x0 : List FleetTask) (x1 : FleetLimits) : Int := (if ((FleetCheckTasks x0) != 0) then (FleetCheckTasks x0) else (FleetCheckLimits x1))
def SlicesIndexLint.loop1 (x1 : Int) : (List Int) → Nat → Out Int Unit
  | [], _ => (.next ())
  | x54 :: rest55, k53 => (if (x1 == x54) then (.ret ((k53 : Nat) : Int)) else SlicesIndexLint.loop1 x1 rest55 (k53 + 1))
def SlicesIndexLint (x0 : List Int) (x1 : Int) : Int := (bnd (SlicesIndexLint.loop1 x1 x0 0) fun q52 => match q52 with | .ret r => r | .next () => (-1))
def SlicesContainsLint (x0 : List Int) (x1 : Int) : Bool := decide ((SlicesIndexLint x0 x1) ≥ 0)
def Fleetjudge_1_v1 (x0 : Int) (y0 : Int) (y1 : FleetLimits) (y2 : Int) : Int := (bnd ((if decide ((w64 (x0 - y0)) > y1.After) then 4 else y2) : Int) fun q56 => q56)
def Fleetjudge.loop1 (x0 : List FleetTask) (x1 : List Int) (x2 : FleetLimits) : (List Int) → Nat → Int → Int → Int → Option (Out Int (Int × Int × Int))
  | [], _, q105, q106, q107 => some (.next (q105, q106, q107))
  | x97 :: rest98, k96, q105, q106, q107 => ((gx x0 x97).bind fun x113 => (if (((k96 : Nat) : Int) == 0) then Fleetjudge.loop1 x0 x1 x2 rest98 (k96 + 1) (w64 (q105 + (w64 (x113.Arr - x113.Dep)))) q106 q107 else ((gx x1 (w64 (((k96 : Nat) : Int) - 1))).bind fun x124 => ((gx x0 x124).bind fun x133 => (bnd ((if (x113.From != x133.To) then true else decide (x113.Dep < (w64 (x133.Arr + x2.Change)))) : Bool) fun q147 => (if q147 then some (.ret 1) else (bnd ((if decide ((w64 (x113.Dep - x133.Arr)) ≥ x2.Break) then (bnd (Fleetjudge_1_v1 x133.Arr q107 x2 q106) fun q159 => (q159, x113.Dep)) else (q106, q107)) : Int × Int) fun q152 => match q152 with | (q155, q156) => Fleetjudge.loop1 x0 x1 x2 rest98 (k96 + 1) (w64 (q105 + (w64 (x113.Arr - x113.Dep)))) q155 q156)))))))
def Fleetjudge (x0 : List FleetTask) (x1 : List Int) (x2 : FleetLimits) : Option Int := ((gx x1 0).bind fun x53 => ((gx x0 x53).bind fun x62 => ((gx x1 (w64 (((x1).length : Int) - 1))).bind fun x71 => ((gx x0 x71).bind fun x80 => ((Fleetjudge.loop1 x0 x1 x2 x1 0 0 0 x62.Dep).bind fun q95 => match q95 with | .ret r => some r | .next (q105, q106, q107) => (bnd (Fleetjudge_1_v1 x80.Arr q107 x2 q106) fun q161 => (if decide ((w64 (x80.Arr - x62.Dep)) > x2.Long) then some 2 else (if decide (q105 > x2.Work) then some 3 else (if decide (q161 > 0) then some q161 else (if (x80.To != x62.From) then some 5 else some 0))))))))))
def FleetJudge.loop1 (x0 : List FleetTask) (x1 : List Int) : (List Int) → Nat → Option (Out (Int × Int) Unit)
  | [], _ => some (.next ())
  | x57 :: rest58, k56 => (if !(Fleetwithin x57 0 (w64 (((x0).length : Int) - 1))) then some (.ret (0, 2)) else ((cutl x1 0 ((k56 : Nat) : Int)).bind fun x71 => (if (SlicesContainsLint x71 x57) then some (.ret (0, 6)) else FleetJudge.loop1 x0 x1 rest58 (k56 + 1))))
def FleetJudge (x0 : List FleetTask) (x1 : List Int) (x2 : FleetLimits) : Option (Int × Int) := (if ((FleetcheckTasks x0 x2) != 0) then some (0, (FleetcheckTasks x0 x2)) else (if (((x1).length : Int) == 0) then some (0, 1) else ((FleetJudge.loop1 x0 x1 x1 0).bind fun q55 => match q55 with | .ret r => some r | .next () => ((Fleetjudge x0 x1 x2).bind fun q81 => some (q81, 0)))))
def Fishlaw2crews : Option Bool := ((FleetJudge [(FleetTask.mk 0 1 0 100 0 1)] [0] (FleetLimits.mk 0 100 100 100 0 0 1)).bind fun q63 => (bnd ((if (q63.2 == 0) then (q63.1 == 5) else false) : Bool) fun q69 => some q69))
def SlicesEqualLint.loop1 (x1 : List Int) : (List Int) → Nat → Option (Out Bool Unit)
  | [], _ => some (.next ())
  | x55 :: rest56, k54 => ((gx x1 ((k54 : Nat) : Int)).bind fun x68 => (if (x55 != x68) then some (.ret false) else SlicesEqualLint.loop1 x1 rest56 (k54 + 1)))
def SlicesEqualLint (x0 : List Int) (x1 : List Int) : Option Bool := (if (((x0).length : Int) != ((x1).length : Int)) then some false else ((SlicesEqualLint.loop1 x1 x0 0).bind fun q53 => match q53 with | .ret r => some r | .next () => some true))
def SlicesEqualFuncLLint_v1.loop1 (x1 : List (List Int)) : (List (List Int)) → Nat → Option (Out Bool Unit)
  | [], _ => some (.next ())
  | x55 :: rest56, k54 => ((gx x1 ((k54 : Nat) : Int)).bind fun x71 => ((SlicesEqualLint x55 x71).bind fun q83 => (if !q83 then some (.ret false) else SlicesEqualFuncLLint_v1.loop1 x1 rest56 (k54 + 1))))
def SlicesEqualFuncLLint_v1 (x0 : List (List Int)) (x1 : List (List Int)) : Option Bool := (if (((x0).length : Int) != ((x1).length : Int)) then some false else ((SlicesEqualFuncLLint_v1.loop1 x1 x0 0).bind fun q53 => match q53 with | .ret r => some r | .next () => some true))
def Fishlaw2lists (x0 : List (List Int)) (x1 : List (List Int)) : Option Bool := ((SlicesEqualFuncLLint_v1 x0 x1).bind fun q51 => some q51)
def Fishlaw2FleetStands (fu : Nat) (x0 : List FleetShift) (x1 : List (List Int)) (x2 : FleetLimits) (x3 : List FleetAbsence) : Option Bool := ((FleetStandIns fu x0 x1 x2 x3).bind fun q52 => ((Fishref2StandInsOf fu x0 x1 x2 x3).bind fun q62 => ((((Fishlaw2crews).bind fun q81 => (if q81 then (if (q52.2.2 == q62.2.2) then ((Fishlaw2lists q52.1 q62.1).bind fun q85 => (if q85 then ((SlicesEqualLint q52.2.1 q62.2.1).bind fun q88 => some q88) else some false)) else some false) else some false)) : Option Bool).bind fun q79 => some q79)))
end Go.Fp
