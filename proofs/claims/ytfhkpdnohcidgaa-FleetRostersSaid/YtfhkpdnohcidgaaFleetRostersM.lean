/- The mirrors of the functions that FleetRosters reaches: plain Lean functions on data. No condition. -/
import Derived.Test.YtfhkpdnohcidgaaFpCopy
namespace Go.Fp
structure FleetLimits where
  Change : Int
  Long : Int
  Work : Int
  After : Int
  Break : Int
  Rest : Int
  Row : Int
  deriving DecidableEq, Inhabited
-- FleetLimits is of one size
def FleetLimits.cells (x : FleetLimits) : List Go.Value := [.int .i64 x.Change, .int .i64 x.Long, .int .i64 x.Work, .int .i64 x.After, .int .i64 x.Break, .int .i64 x.Rest, .int .i64 x.Row]
def RFleetLimits : Rd FleetLimits := fun _ cs x => cs = x.cells
theorem RFleetLimits.mono : Rmono RFleetLimits := fun _ _ _ _ _ h => h
theorem RFleetLimits.one : Rone RFleetLimits := by intro s cs x h; subst h; rfl

structure FleetShift where
  Day : Int
  Start : Int
  End : Int
  deriving DecidableEq, Inhabited
-- FleetShift is of one size
def FleetShift.cells (x : FleetShift) : List Go.Value := [.int .i64 x.Day, .int .i64 x.Start, .int .i64 x.End]
def RFleetShift : Rd FleetShift := fun _ cs x => cs = x.cells
theorem RFleetShift.mono : Rmono RFleetShift := fun _ _ _ _ _ h => h
theorem RFleetShift.one : Rone RFleetShift := by intro s cs x h; subst h; rfl

structure FleetTask where
  From : Int
  To : Int
  Dep : Int
  Arr : Int
  Km : Int
  Units : Int
  deriving DecidableEq, Inhabited
-- FleetTask is of one size
def FleetTask.cells (x : FleetTask) : List Go.Value := [.int .i64 x.From, .int .i64 x.To, .int .i64 x.Dep, .int .i64 x.Arr, .int .i64 x.Km, .int .i64 x.Units]
def RFleetTask : Rd FleetTask := fun _ cs x => cs = x.cells
theorem RFleetTask.mono : Rmono RFleetTask := fun _ _ _ _ _ h => h
theorem RFleetTask.one : Rone RFleetTask := by intro s cs x h; subst h; rfl
def Fleetwithin (x0 : Int) (x1 : Int) (x2 : Int) : Bool := (bnd ((if decide (x0 ≥ x1) then decide (x0 ≤ x2) else false) : Bool) fun q55 => q55)
def FleetCheckShifts.loop1 : (List FleetShift) → Out Int Unit
  | [] => (.next ())
  | x55 :: rest56 => (bnd ((if !(Fleetwithin x55.Day 0 6) then true else (if !(Fleetwithin x55.Start 0 28800) then true else !(Fleetwithin x55.End 0 28800))) : Bool) fun q73 => (if q73 then (.ret 2) else (if decide (x55.End ≤ x55.Start) then (.ret 13) else FleetCheckShifts.loop1 rest56)))
def FleetCheckShifts (x0 : List FleetShift) : Int := (if decide (((x0).length : Int) > 8) then 4 else (bnd (FleetCheckShifts.loop1 x0) fun q53 => match q53 with | .ret r => r | .next () => 0))
def FleetCheckLimits.loop1 : (List Int) → Out Int Unit
  | [] => (.next ())
  | x55 :: rest56 => (if !(Fleetwithin x55 0 86400) then (.ret 2) else FleetCheckLimits.loop1 rest56)
def FleetCheckLimits (x0 : FleetLimits) : Int := (bnd (FleetCheckLimits.loop1 [x0.Change, x0.Long, x0.Work, x0.After, x0.Break, x0.Rest]) fun q53 => match q53 with | .ret r => r | .next () => (if !(Fleetwithin x0.Row 1 7) then 2 else 0))
def Fleetload.loop1 (x0 : List FleetShift) : (List Int) → Int → Option Int
  | [], q62 => some q62
  | x54 :: rest55, q62 => ((gx x0 x54).bind fun x68 => ((gx x0 x54).bind fun x77 => Fleetload.loop1 x0 rest55 (w64 (q62 + (w64 (x68.End - x77.Start))))))
def Fleetload (x0 : List FleetShift) (x1 : List Int) : Option Int := ((Fleetload.loop1 x0 x1 0).bind fun q62 => some q62)
def SlicesCloneLLint_v1 (x0 : List (List Int)) : Option (List (List Int)) := ((nz x0).bind fun _ => ((apd [] x0).bind fun x55 => some x55))
def SlicesCloneLint (x0 : List Int) : Option (List Int) := ((apd [] x0).bind fun x56 => some x56)
def FleetdriverBreaks.loop2 (x0 : List FleetShift) (x2 : FleetLimits) (x60 : Int) : (List Int) → Bool → Option Bool
  | [], q129 => some q129
  | x121 :: rest122, q129 => ((gx x0 x60).bind fun x136 => ((gx x0 x121).bind fun x145 => (bnd ((if decide (x136.Day > x145.Day) then (x145.Day, x145.Start, x145.End, x136.Day, x136.Start, x136.End) else (x136.Day, x136.Start, x136.End, x145.Day, x145.Start, x145.End)) : Int × Int × Int × Int × Int × Int) fun q158 => match q158 with | (q161, _, q163, q164, q165, _) => (bnd ((if q129 then true else (if (q161 != q164) then decide ((w64 ((w64 ((w64 ((w64 (q164 * 86400)) + q165)) - (w64 (q161 * 86400)))) - q163)) < x2.Rest) else false)) : Bool) fun q173 => FleetdriverBreaks.loop2 x0 x2 x60 rest122 q173))))
def FleetdriverBreaks.loop1 (x0 : List FleetShift) (x1 : List Int) (x2 : FleetLimits) : (List Int) → Nat → Bool → (List Int) → Option (Bool × (List Int))
  | [], _, q68, q69 => some (q68, q69)
  | x60 :: rest61, k59, q68, q69 => ((gx x0 x60).bind fun x80 => ((gx q69 x80.Day).bind fun x89 => ((ix q69 x80.Day).bind fun _ => ((sx q69 x80.Day (w64 (x89 + 1))).bind fun x104 => ((cutl x1 0 ((k59 : Nat) : Int)).bind fun x109 => ((FleetdriverBreaks.loop2 x0 x2 x60 x109 q68).bind fun q129 => FleetdriverBreaks.loop1 x0 x1 x2 rest61 (k59 + 1) q129 x104))))))
def FleetdriverBreaks.loop3 (x2 : FleetLimits) : (List Int) → Bool → Bool → Int → Bool × Bool × Int
  | [], q188, q189, q190 => (q188, q189, q190)
  | x180 :: rest181, q188, q189, q190 => (bnd ((if q188 then true else decide (x180 > 1)) : Bool) fun q196 => (if (x180 == 0) then FleetdriverBreaks.loop3 x2 rest181 q196 q189 0 else (bnd ((if q189 then true else decide ((w64 (q190 + 1)) > x2.Row)) : Bool) fun q204 => FleetdriverBreaks.loop3 x2 rest181 q196 q204 (w64 (q190 + 1)))))
def FleetdriverBreaks (x0 : List FleetShift) (x1 : List Int) (x2 : FleetLimits) : Option (Bool × Bool × Bool) := ((FleetdriverBreaks.loop1 x0 x1 x2 x1 0 false [0, 0, 0, 0, 0, 0, 0]).bind fun q58 => match q58 with | (q68, q69) => (bnd (FleetdriverBreaks.loop3 x2 q69 false false 0) fun q178 => match q178 with | (q188, q189, _) => some (q188, q68, q189)))
def Fleetfits (x0 : List FleetShift) (x1 : List Int) (x2 : FleetLimits) : Option Bool := ((FleetdriverBreaks x0 x1 x2).bind fun q52 => (bnd ((if !q52.1 then (if !q52.2.1 then !q52.2.2 else false) else false) : Bool) fun q58 => some q58))
def FleetRoster_1_v1.loop1 (y0 : List FleetShift) (y1 : List (List Int)) : Nat → Nat → Int → Option Int
  | 0, _, q86 => some q86
  | rest78 + 1, k76, q86 => ((gx y1 ((k76 : Nat) : Int)).bind fun x88 => ((Fleetload y0 x88).bind fun q101 => FleetRoster_1_v1.loop1 y0 y1 rest78 (k76 + 1) (mx q86 q101)))
def FleetRoster_1_v1.loop2 (x0 : Int) (y0 : List FleetShift) (y4 : FleetLimits) (self_FleetRoster_1_v1 : Int → (List FleetShift) → (List (List Int)) → Int → (List (List Int)) → FleetLimits → Option ((List (List Int)) × Int × (List (List Int)))) : Nat → Nat → (List (List Int)) → Int → (List (List Int)) → Option ((List (List Int)) × Int × (List (List Int)))
  | 0, _, q144, q150, q151 => some (q144, q150, q151)
  | rest136 + 1, k134, q144, q150, q151 => ((gx q144 ((k134 : Nat) : Int)).bind fun x156 => ((SlicesCloneLint x156).bind fun q170 => ((apd q170 [x0]).bind fun x179 => ((ix q144 ((k134 : Nat) : Int)).bind fun _ => ((sx q144 ((k134 : Nat) : Int) x179).bind fun x193 => ((gx x193 ((k134 : Nat) : Int)).bind fun x199 => ((Fleetfits y0 x199 y4).bind fun q212 => (if q212 then ((self_FleetRoster_1_v1 (w64 (x0 + 1)) y0 x193 q150 q151 y4).bind fun q215 => ((ix q215.1 ((k134 : Nat) : Int)).bind fun _ => ((sx q215.1 ((k134 : Nat) : Int) x156).bind fun x230 => FleetRoster_1_v1.loop2 x0 y0 y4 self_FleetRoster_1_v1 rest136 (k134 + 1) x230 q215.2.1 q215.2.2))) else ((ix x193 ((k134 : Nat) : Int)).bind fun _ => ((sx x193 ((k134 : Nat) : Int) x156).bind fun x240 => FleetRoster_1_v1.loop2 x0 y0 y4 self_FleetRoster_1_v1 rest136 (k134 + 1) x240 q150 q151))))))))))
def FleetRoster_1_v1 : Nat → Int → (List FleetShift) → (List (List Int)) → Int → (List (List Int)) → FleetLimits → Option ((List (List Int)) × Int × (List (List Int)))
  | 0, _, _, _, _, _, _ => none
  | fu + 1, x0, y0, y1, y2, y3, y4 => (if (x0 == ((y0).length : Int)) then ((FleetRoster_1_v1.loop1 y0 y1 y1.length 0 0).bind fun q86 => (bnd ((if decide (y2 < 0) then true else decide (q86 < y2)) : Bool) fun q107 => (((if q107 then ((SlicesCloneLLint_v1 y1).bind fun q121 => some (q86, q121)) else some (y2, y3)) : Option (Int × (List (List Int)))).bind fun q111 => match q111 with | (q114, q115) => some (y1, q114, q115)))) else ((FleetRoster_1_v1.loop2 x0 y0 y4 (FleetRoster_1_v1 fu) y1.length 0 y1 y2 y3).bind fun q133 => match q133 with | (q144, q150, q151) => some (q144, q150, q151)))
def FleetRoster (fu : Nat) (x0 : List FleetShift) (x1 : Int) (x2 : FleetLimits) : Option ((List (List Int)) × Int) := (if ((FleetCheckShifts x0) != 0) then some ([], (FleetCheckShifts x0)) else (if ((FleetCheckLimits x2) != 0) then some ([], (FleetCheckLimits x2)) else (if !(Fleetwithin x1 1 4) then some ([], 2) else ((mks x1 ([] : List Int)).bind fun x56 => ((FleetRoster_1_v1 fu 0 x0 x56 (-1) [] x2).bind fun q66 => (if decide (q66.2.1 < 0) then some ([], 9) else some (q66.2.2, 0)))))))
def Fishref2within (x0 : Int) (x1 : Int) (x2 : Int) : Bool := (bnd ((if decide (x0 ≥ x1) then decide (x0 ≤ x2) else false) : Bool) fun q55 => q55)
def Fishref2ShiftsFault.loop1 : (List FleetShift) → Out Int Unit
  | [] => (.next ())
  | x55 :: rest56 => (bnd ((if !(Fishref2within x55.Day 0 6) then true else (if !(Fishref2within x55.Start 0 28800) then true else !(Fishref2within x55.End 0 28800))) : Bool) fun q73 => (if q73 then (.ret 2) else (if decide (x55.End ≤ x55.Start) then (.ret 13) else Fishref2ShiftsFault.loop1 rest56)))
def Fishref2ShiftsFault (x0 : List FleetShift) : Int := (if decide (((x0).length : Int) > 8) then 4 else (bnd (Fishref2ShiftsFault.loop1 x0) fun q53 => match q53 with | .ret r => r | .next () => 0))
def Fishref2LimitsFault.loop1 : (List Int) → Out Int Unit
  | [] => (.next ())
  | x61 :: rest62 => (if !(Fishref2within x61 0 86400) then (.ret 2) else Fishref2LimitsFault.loop1 rest62)
def Fishref2LimitsFault (x0 : FleetLimits) : Int := (bnd (Fishref2LimitsFault.loop1 [x0.Change, x0.Long, x0.Work, x0.After, x0.Break, x0.Rest]) fun q59 => match q59 with | .ret r => r | .next () => (if !(Fishref2within x0.Row 1 7) then 2 else 0))
def Fishref2given.loop1 (x0 : Int) : (List Int) → Nat → (List (List Int)) → Option (List (List Int))
  | [], _, q68 => some q68
  | x60 :: rest61, k59, q68 => (((if decide (x60 < x0) then ((gx q68 x60).bind fun x93 => ((apd x93 [((k59 : Nat) : Int)]).bind fun x105 => ((ix q68 x60).bind fun _ => ((sx q68 x60 x105).bind fun x114 => some x114)))) else some q68) : Option (List (List Int))).bind fun q84 => Fishref2given.loop1 x0 rest61 (k59 + 1) q84)
def Fishref2given (x0 : Int) (x1 : List Int) : Option (List (List Int)) := ((mks x0 ([] : List Int)).bind fun x51 => ((Fishref2given.loop1 x0 x1 0 x51).bind fun q68 => some q68))
def Fishref2later_1_v1 (x0 : Int) (y0 : Int) : Int := (bnd ((if (y0 == 0) then true else decide (x0 < y0)) : Bool) fun q56 => (bnd ((if q56 then x0 else y0) : Int) fun q63 => q63))
def Fishref2begins (x0 : FleetShift) : Int := w64 ((w64 (x0.Day * 86400)) + x0.Start)
def Fishref2ends (x0 : FleetShift) : Int := w64 ((w64 (x0.Day * 86400)) + x0.End)
def Fishref2later.loop3 (x0 : List FleetShift) (x2 : FleetLimits) (x82 : Int) : (List Int) → Int → Option Int
  | [], q141 => some q141
  | x133 :: rest134, q141 => ((gx x0 x82).bind fun x147 => ((gx x0 x133).bind fun x156 => (if (x147.Day == x156.Day) then (bnd (Fishref2later_1_v1 2 q141) fun q166 => ((gx x0 x133).bind fun x168 => ((gx x0 x82).bind fun x177 => ((gx x0 x82).bind fun x186 => ((gx x0 x133).bind fun x195 => (if decide ((mx (w64 ((Fishref2begins x168) - (Fishref2ends x177))) (w64 ((Fishref2begins x186) - (Fishref2ends x195)))) < x2.Rest) then (bnd (Fishref2later_1_v1 3 q166) fun q205 => Fishref2later.loop3 x0 x2 x82 rest134 q205) else Fishref2later.loop3 x0 x2 x82 rest134 q166)))))) else ((gx x0 x133).bind fun x207 => ((gx x0 x82).bind fun x216 => ((gx x0 x82).bind fun x225 => ((gx x0 x133).bind fun x234 => (if decide ((mx (w64 ((Fishref2begins x207) - (Fishref2ends x216))) (w64 ((Fishref2begins x225) - (Fishref2ends x234)))) < x2.Rest) then (bnd (Fishref2later_1_v1 3 q141) fun q244 => Fishref2later.loop3 x0 x2 x82 rest134 q244) else Fishref2later.loop3 x0 x2 x82 rest134 q141))))))))
def Fishref2later.loop2 (x0 : List FleetShift) (x2 : FleetLimits) (x56 : List Int) : (List Int) → Nat → (List Bool) → Int → Option ((List Bool) × Int)
  | [], _, q90, q96 => some (q90, q96)
  | x82 :: rest83, k81, q90, q96 => ((gx x0 x82).bind fun x102 => ((ix q90 x102.Day).bind fun _ => ((sx q90 x102.Day true).bind fun x116 => ((cutl x56 ((k81 + 1 : Nat) : Int) ((x56).length : Int)).bind fun x121 => ((Fishref2later.loop3 x0 x2 x82 x121 q96).bind fun q141 => Fishref2later.loop2 x0 x2 x56 rest83 (k81 + 1) x116 q141)))))
def Fishref2later.loop4 (x2 : FleetLimits) (q90 : List Bool) : Nat → Nat → Int → Int → Option (Int × Int)
  | 0, _, q258, q259 => some (q258, q259)
  | rest250 + 1, k248, q258, q259 => ((gx q90 ((k248 : Nat) : Int)).bind fun x261 => (bnd ((if !x261 then 0 else w64 (q258 + 1)) : Int) fun q275 => (if decide (q275 > x2.Row) then (bnd (Fishref2later_1_v1 4 q259) fun q279 => Fishref2later.loop4 x2 q90 rest250 (k248 + 1) q275 q279) else Fishref2later.loop4 x2 q90 rest250 (k248 + 1) q275 q259)))
def Fishref2later.loop1 (x0 : List FleetShift) (x2 : FleetLimits) : (List (List Int)) → Int → Option Int
  | [], q64 => some q64
  | x56 :: rest57, q64 => ((mks 8 (false : Bool)).bind fun x73 => ((Fishref2later.loop2 x0 x2 x56 x56 0 x73 q64).bind fun q80 => match q80 with | (q90, q96) => ((Fishref2later.loop4 x2 q90 x73.length 0 0 q96).bind fun q247 => match q247 with | (_, q259) => Fishref2later.loop1 x0 x2 rest57 q259)))
def Fishref2later (x0 : List FleetShift) (x1 : List (List Int)) (x2 : FleetLimits) : Option Int := ((Fishref2later.loop1 x0 x2 x1 0).bind fun q64 => some q64)
def Fishref2LoadsOf.loop2 (x0 : List FleetShift) : (List Int) → Int → Option Int
  | [], q89 => some q89
  | x81 :: rest82, q89 => ((gx x0 x81).bind fun x95 => ((gx x0 x81).bind fun x104 => Fishref2LoadsOf.loop2 x0 rest82 (w64 (q89 + (w64 (x95.End - x104.Start))))))
def Fishref2LoadsOf.loop1 (x0 : List FleetShift) : (List (List Int)) → (List Int) → Option (List Int)
  | [], q63 => some q63
  | x55 :: rest56, q63 => ((Fishref2LoadsOf.loop2 x0 x55 0).bind fun q89 => ((apd q63 [q89]).bind fun x114 => Fishref2LoadsOf.loop1 x0 rest56 x114))
def Fishref2LoadsOf (x0 : List FleetShift) (x1 : List (List Int)) : Option (List Int) := ((Fishref2LoadsOf.loop1 x0 x1 []).bind fun q63 => some q63)
def SlicesMaxLint.loop1 (x0 : List Int) : Nat → Int → Int → Option (Int × Int)
  | 0, _, _ => none
  | n63 + 1, q67, q68 => (if decide (q68 < ((x0).length : Int)) then ((gx x0 q68).bind fun x71 => SlicesMaxLint.loop1 x0 n63 (mx q67 x71) (w64 (q68 + 1))) else some (q67, q68))
def SlicesMaxLint (fu : Nat) (x0 : List Int) : Option Int := (if decide (((x0).length : Int) < 1) then none else ((gx x0 0).bind fun x52 => ((SlicesMaxLint.loop1 x0 fu x52 1).bind fun q62 => match q62 with | (q67, _) => some q67)))
def Fishref2RosterOf_1_v1 (fu : Nat) (x0 : List Int) (y0 : Int) (y1 : List FleetShift) (y2 : FleetLimits) (y3 : Int) (y4 : List (List Int)) : Option (Bool × Int × (List (List Int))) := ((Fishref2given y0 x0).bind fun q61 => ((Fishref2later y1 q61 y2).bind fun q68 => (if (q68 != 0) then some (false, y3, y4) else ((Fishref2LoadsOf y1 q61).bind fun q71 => ((SlicesMaxLint fu q71).bind fun q79 => (bnd ((if decide (y3 < 0) then true else decide (q79 < y3)) : Bool) fun q89 => (bnd ((if q89 then (q79, q61) else (y3, y4)) : Int × (List (List Int))) fun q93 => match q93 with | (q96, q97) => some (false, q96, q97))))))))
def Fishref2given_v1.loop1 (x0 : Int) (x1 : List Int) : Nat → Nat → (List (List Int)) → Option (List (List Int))
  | 0, _, q69 => some q69
  | rest61 + 1, k59, q69 => ((gx x1 ((k59 : Nat) : Int)).bind fun x77 => (((if decide (x77 < x0) then ((gx q69 x77).bind fun x100 => ((apd x100 [((k59 : Nat) : Int)]).bind fun x112 => ((ix q69 x77).bind fun _ => ((sx q69 x77 x112).bind fun x121 => some x121)))) else some q69) : Option (List (List Int))).bind fun q91 => Fishref2given_v1.loop1 x0 x1 rest61 (k59 + 1) q91))
def Fishref2given_v1 (x0 : Int) (x1 : List Int) : Option (List (List Int)) := ((mks x0 ([] : List Int)).bind fun x51 => ((Fishref2given_v1.loop1 x0 x1 x1.length 0 x51).bind fun q69 => some q69))
def Fishref2RosterOf_1_v2 (fu : Nat) (x0 : List Int) (y0 : Int) (y1 : List FleetShift) (y2 : FleetLimits) (y3 : Int) (y4 : List (List Int)) : Option (Bool × Int × (List (List Int))) := ((Fishref2given_v1 y0 x0).bind fun q61 => ((Fishref2later y1 q61 y2).bind fun q68 => (if (q68 != 0) then some (false, y3, y4) else ((Fishref2LoadsOf y1 q61).bind fun q71 => ((SlicesMaxLint fu q71).bind fun q79 => (bnd ((if decide (y3 < 0) then true else decide (q79 < y3)) : Bool) fun q89 => (bnd ((if q89 then (q79, q61) else (y3, y4)) : Int × (List (List Int))) fun q93 => match q93 with | (q96, q97) => some (false, q96, q97))))))))
def Fishref2counts_v1.loop2 (x1 : Int) : Nat → Int → (List Int) → Option (Int × (List Int))
  | 0, _, _ => none
  | n95 + 1, q99, q100 => (((if decide (q99 ≥ 0) then ((gx q100 q99).bind fun x114 => some (x114 == (w64 (x1 - 1)))) else some false) : Option Bool).bind fun q111 => (if q111 then ((ix q100 q99).bind fun _ => ((sx q100 q99 0).bind fun x130 => Fishref2counts_v1.loop2 x1 n95 (w64 (q99 - 1)) x130)) else some (q99, q100)))
def Fishref2counts_v1.loop1 (x0 : Int) (x1 : Int) (y0 : Int) (y1 : List FleetShift) (y2 : FleetLimits) (fu : Nat) : Nat → (List Int) → Int → (List (List Int)) → Option (Out (Bool × Int × (List (List Int))) ((List Int) × Int × (List (List Int))))
  | 0, _, _, _ => none
  | n69 + 1, q73, q79, q80 => ((Fishref2RosterOf_1_v2 fu q73 y0 y1 y2 q79 q80).bind fun q85 => (if q85.1 then some (.ret (true, q85.2.1, q85.2.2)) else ((Fishref2counts_v1.loop2 x1 fu (w64 (x0 - 1)) q73).bind fun q94 => match q94 with | (q99, q100) => (if decide (q99 < 0) then some (.ret (false, q85.2.1, q85.2.2)) else ((gx q100 q99).bind fun x136 => ((ix q100 q99).bind fun _ => ((sx q100 q99 (w64 (x136 + 1))).bind fun x151 => Fishref2counts_v1.loop1 x0 x1 y0 y1 y2 fu n69 x151 q85.2.1 q85.2.2)))))))
def Fishref2counts_v1 (fu : Nat) (x0 : Int) (x1 : Int) (y0 : Int) (y1 : List FleetShift) (y2 : FleetLimits) (y3 : Int) (y4 : List (List Int)) : Option (Bool × Int × (List (List Int))) := ((mks x0 (0 : Int)).bind fun x61 => ((Fishref2counts_v1.loop1 x0 x1 y0 y1 y2 fu fu x61 y3 y4).bind fun q68 => match q68 with | .ret r => some r | .next _ => none))
def Fishref2RosterOf (fu : Nat) (x0 : List FleetShift) (x1 : Int) (x2 : FleetLimits) : Option ((List (List Int)) × Int) := (if ((Fishref2ShiftsFault x0) != 0) then some ([], (Fishref2ShiftsFault x0)) else (if ((Fishref2LimitsFault x2) != 0) then some ([], (Fishref2LimitsFault x2)) else (if !(Fishref2within x1 1 4) then some ([], 2) else ((Fishref2counts_v1 fu ((x0).length : Int) x1 x1 x0 x2 (-1) []).bind fun q59 => (if decide (q59.2.1 < 0) then some ([], 9) else some (q59.2.2, 0))))))
def FleetCheckTasks.loop1 : (List FleetTask) → Out Int Unit
  | [] => (.next ())
  | x55 :: rest56 => (bnd ((if !(Fleetwithin x55.From 0 11) then true else (if !(Fleetwithin x55.To 0 11) then true else (if !(Fleetwithin x55.Dep 0 28800) then true else !(Fleetwithin x55.Arr 0 28800)))) : Bool) fun q73 => (if q73 then (.ret 2) else (if decide (x55.Arr ≤ x55.Dep) then (.ret 13) else (bnd ((if !(Fleetwithin x55.Km 0 10000) then true else !(Fleetwithin x55.Units 1 4)) : Bool) fun q84 => (if q84 then (.ret 2) else FleetCheckTasks.loop1 rest56)))))
def FleetCheckTasks (x0 : List FleetTask) : Int := (if decide (((x0).length : Int) > 40) then 4 else (bnd (FleetCheckTasks.loop1 x0) fun q53 => match q53 with | .ret r => r | .next () => 0))
def FleetcheckTasks (x0 : List FleetTask) (x1 : FleetLimits) : Int := (if ((FleetCheckTasks x0) != 0) then (FleetCheckTasks x0) else (FleetCheckLimits x1))
def SlicesIndexLint.loop1 (x1 : Int) : (List Int) → Nat → Out Int Unit
  | [], _ => (.next ())
  | x54 :: rest55, k53 => (if (x1 == x54) then (.ret ((k53 : Nat) : Int)) else SlicesIndexLint.loop1 x1 rest55 (k53 + 1))
def SlicesIndexLint (x0 : List Int) (x1 : Int) : Int := (bnd (SlicesIndexLint.loop1 x1 x0 0) fun q52 => match q52 with | .ret r => r | .next () => (-1))
def SlicesContainsLint (x0 : List Int) (x1 : Int) : Bool := decide ((SlicesIndexLint x0 x1) ≥ 0)
def Fleetjudge_1_v1 (x0 : Int) (y0 : Int) (y1 : FleetLimits) (y2 : Int) : Int := (bnd ((if decide ((w64 (x0 - y0)) > y1.After) then 4 else y2) : Int) fun q56 => q56)
def Fleetjudge.loop1 (x0 : List FleetTask) (x1 : List Int) (x2 : FleetLimits) : (List Int) → Nat → Int → Int → Int → Option (Out Int (Int × Int × Int))
  | [], _, q105, q106, q107 => some (.next (q105, q106, q107))
  | x97 :: rest98, k96, q105, q106, q107 => ((gx x0 x97).bind fun x113 => (if (((k96 : Nat) : Int) == 0) then Fleetjudge.loop1 x0 x1 x2 rest98 (k96 + 1) (w64 (q105 + (w64 (x113.Arr - x113.Dep)))) q106 q107 else ((gx x1 (w64 (((k96 : Nat) : Int) - 1))).bind fun x124 => ((gx x0 x124).bind fun x133 => (bnd ((if (x113.From != x133.To) then true else decide (x113.Dep < (w64 (x133.Arr + x2.Change)))) : Bool) fun q147 => (if q147 then some (.ret 1) else (bnd ((if decide ((w64 (x113.Dep - x133.Arr)) ≥ x2.Break) then (bnd (Fleetjudge_1_v1 x133.Arr q107 x2 q106) fun q159 => (q159, x113.Dep)) else (q106, q107)) : Int × Int) fun q152 => match q152 with | (q155, q156) => Fleetjudge.loop1 x0 x1 x2 rest98 (k96 + 1) (w64 (q105 + (w64 (x113.Arr - x113.Dep)))) q155 q156)))))))
def Fleetjudge (x0 : List FleetTask) (x1 : List Int) (x2 : FleetLimits) : Option Int := ((gx x1 0).bind fun x53 => ((gx x0 x53).bind fun x62 => ((gx x1 (w64 (((x1).length : Int) - 1))).bind fun x71 => ((gx x0 x71).bind fun x80 => ((Fleetjudge.loop1 x0 x1 x2 x1 0 0 0 x62.Dep).bind fun q95 => match q95 with | .ret r => some r | .next (q105, q106, q107) => (bnd (Fleetjudge_1_v1 x80.Arr q107 x2 q106) fun q161 => (if decide ((w64 (x80.Arr - x62.Dep)) > x2.Long) then some 2 else (if decide (q105 > x2.Work) then some 3 else (if decide (q161 > 0) then some q161 else (if (x80.To != x62.From) then some 5 else some 0))))))))))
def FleetJudge.loop1 (x0 : List FleetTask) (x1 : List Int) : (List Int) → Nat → Option (Out (Int × Int) Unit)
  | [], _ => some (.next ())
  | x57 :: rest58, k56 => (if !(Fleetwithin x57 0 (w64 (((x0).length : Int) - 1))) then some (.ret (0, 2)) else ((cutl x1 0 ((k56 : Nat) : Int)).bind fun x71 => (if (SlicesContainsLint x71 x57) then some (.ret (0, 6)) else FleetJudge.loop1 x0 x1 rest58 (k56 + 1))))
def FleetJudge (x0 : List FleetTask) (x1 : List Int) (x2 : FleetLimits) : Option (Int × Int) := (if ((FleetcheckTasks x0 x2) != 0) then some (0, (FleetcheckTasks x0 x2)) else (if (((x1).length : Int) == 0) then some (0, 1) else ((FleetJudge.loop1 x0 x1 x1 0).bind fun q55 => match q55 with | .ret r => some r | .next () => ((Fleetjudge x0 x1 x2).bind fun q81 => some (q81, 0)))))
def Fishlaw2crews : Option Bool := ((FleetJudge [(FleetTask.mk 0 1 0 100 0 1)] [0] (FleetLimits.mk 0 100 100 100 0 0 1)).bind fun q63 => (bnd ((if (q63.2 == 0) then (q63.1 == 5) else false) : Bool) fun q69 => some q69))
def SlicesEqualLint.loop1 (x1 : List Int) : (List Int) → Nat → Option (Out Bool Unit)
  | [], _ => some (.next ())
  | x55 :: rest56, k54 => ((gx x1 ((k54 : Nat) : Int)).bind fun x68 => (if (x55 != x68) then some (.ret false) else SlicesEqualLint.loop1 x1 rest56 (k54 + 1)))
def SlicesEqualLint (x0 : List Int) (x1 : List Int) : Option Bool := (if (((x0).length : Int) != ((x1).length : Int)) then some false else ((SlicesEqualLint.loop1 x1 x0 0).bind fun q53 => match q53 with | .ret r => some r | .next () => some true))
def SlicesEqualFuncLLint_v1.loop1 (x1 : List (List Int)) : (List (List Int)) → Nat → Option (Out Bool Unit)
  | [], _ => some (.next ())
  | x55 :: rest56, k54 => ((gx x1 ((k54 : Nat) : Int)).bind fun x71 => ((SlicesEqualLint x55 x71).bind fun q83 => (if !q83 then some (.ret false) else SlicesEqualFuncLLint_v1.loop1 x1 rest56 (k54 + 1))))
def SlicesEqualFuncLLint_v1 (x0 : List (List Int)) (x1 : List (List Int)) : Option Bool := (if (((x0).length : Int) != ((x1).length : Int)) then some false else ((SlicesEqualFuncLLint_v1.loop1 x1 x0 0).bind fun q53 => match q53 with | .ret r => some r | .next () => some true))
def Fishlaw2lists (x0 : List (List Int)) (x1 : List (List Int)) : Option Bool := ((SlicesEqualFuncLLint_v1 x0 x1).bind fun q51 => some q51)
def Fishlaw2FleetRosters (fu : Nat) (x0 : List FleetShift) (x1 : Int) (x2 : FleetLimits) : Option Bool := ((FleetRoster fu x0 x1 x2).bind fun q52 => ((Fishref2RosterOf fu x0 x1 x2).bind fun q59 => ((((Fishlaw2crews).bind fun q72 => (if q72 then (if (q52.2 == q59.2) then ((Fishlaw2lists q52.1 q59.1).bind fun q76 => some q76) else some false) else some false)) : Option Bool).bind fun q70 => some q70)))
end Go.Fp
