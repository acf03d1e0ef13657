/- The mirrors of the functions that PlanGaps reaches: plain Lean functions on data. No condition. -/
import Derived.Test.YtffleanbfkjfiaaFpCopy
namespace Go.Fp
structure PlanRule where
  From : Int
  To : Int
  Min : Int
  Max : Int
  Weight : Int
  deriving DecidableEq, Inhabited
-- PlanRule is of one size
def PlanRule.cells (x : PlanRule) : List Go.Value := [.int .i64 x.From, .int .i64 x.To, .int .i64 x.Min, .int .i64 x.Max, .int .i64 x.Weight]
def RPlanRule : Rd PlanRule := fun _ cs x => cs = x.cells
theorem RPlanRule.mono : Rmono RPlanRule := fun _ _ _ _ _ h => h
theorem RPlanRule.one : Rone RPlanRule := by intro s cs x h; subst h; rfl

structure PlanPeriodic where
  Period : Int
  Events : Int
  Rules : List PlanRule
  deriving DecidableEq, Inhabited
def szPlanPeriodic (x : PlanPeriodic) : Nat := (szL sz1) x.Rules + 1
def RPlanPeriodic : Rd PlanPeriodic := fun s cs x => ∃ a0 c0, cs = [.int .i64 x.Period, .int .i64 x.Events, .slice a0 x.Rules.length c0] ∧ Sl 5 RPlanRule s a0 c0 x.Rules
theorem RPlanPeriodic.one : Rone RPlanPeriodic := by rintro s cs x ⟨a0, c0, rfl, _⟩; rfl
theorem RPlanPeriodic.mono : Rmono RPlanPeriodic := fun _ _ h _ _ ⟨a0, c0, e, h0⟩ => ⟨a0, c0, e, h0.mono RPlanRule.mono h⟩
def Planwithin (x0 : Int) (x1 : Int) (x2 : Int) : Bool := (bnd ((if decide (x0 ≥ x1) then decide (x0 ≤ x2) else false) : Bool) fun q55 => q55)
def PlanCheckPeriodic.loop1 (x0 : PlanPeriodic) : (List PlanRule) → Out Int Unit
  | [] => (.next ())
  | x64 :: rest65 => (bnd ((if !(Planwithin x64.From 0 (w64 (x0.Events - 1))) then true else !(Planwithin x64.To 0 (w64 (x0.Events - 1)))) : Bool) fun q82 => (if q82 then (.ret 3) else (if (x64.From == x64.To) then (.ret 1) else (bnd ((if !(Planwithin x64.Min 0 3600) then true else (if !(Planwithin x64.Max x64.Min (w64 ((w64 (x64.Min + x0.Period)) - 1))) then true else !(Planwithin x64.Weight 0 1000))) : Bool) fun q91 => (if q91 then (.ret 2) else PlanCheckPeriodic.loop1 x0 rest65)))))
def PlanCheckPeriodic (x0 : PlanPeriodic) : Int := (bnd ((if !(Planwithin x0.Period 2 3600) then true else !(Planwithin x0.Events 1 8)) : Bool) fun q56 => (if q56 then 2 else (if decide (((x0.Rules).length : Int) > 40) then 4 else (bnd (PlanCheckPeriodic.loop1 x0 x0.Rules) fun q62 => match q62 with | .ret r => r | .next () => 0))))
def PlancheckTimes.loop1 (x0 : PlanPeriodic) : (List Int) → Out Int Unit
  | [] => (.next ())
  | x57 :: rest58 => (if !(Planwithin x57 0 (w64 (x0.Period - 1))) then (.ret 2) else PlancheckTimes.loop1 x0 rest58)
def PlancheckTimes (x0 : PlanPeriodic) (x1 : List Int) : Int := (if ((PlanCheckPeriodic x0) != 0) then (PlanCheckPeriodic x0) else (if (((x1).length : Int) != x0.Events) then 1 else (bnd (PlancheckTimes.loop1 x0 x1) fun q55 => match q55 with | .ret r => r | .next () => 0)))
def Plangap (x0 : PlanPeriodic) (x1 : PlanRule) (x2 : List Int) : Option Int := ((gx x2 x1.To).bind fun x53 => ((gx x2 x1.From).bind fun x62 => ((rm (w64 ((w64 (x53 - x62)) - x1.Min)) x0.Period).bind fun x71 => (bnd ((if decide (x71 < 0) then w64 (x71 + x0.Period) else x71) : Int) fun q77 => some (w64 (x1.Min + q77))))))
def PlanGap (x0 : PlanPeriodic) (x1 : Int) (x2 : List Int) : Option (Int × Int) := (if ((PlancheckTimes x0 x2) != 0) then some (0, (PlancheckTimes x0 x2)) else (if !(Planwithin x1 0 (w64 (((x0.Rules).length : Int) - 1))) then some (0, 3) else ((gx x0.Rules x1).bind fun x54 => ((Plangap x0 x54 x2).bind fun q63 => some (q63, 0)))))
def PlanBroken_1_v1 (x0 : PlanRule) (y0 : PlanPeriodic) (y1 : List Int) : Option Bool := ((Plangap y0 x0 y1).bind fun q52 => some (decide (q52 > x0.Max)))
def SlicesIndexFuncLplanRule_v1.loop1 (y0 : PlanPeriodic) (y1 : List Int) : (List PlanRule) → Nat → Option (Out Int Unit)
  | [], _ => some (.next ())
  | x54 :: rest55, k53 => ((PlanBroken_1_v1 x54 y0 y1).bind fun q67 => (if q67 then some (.ret ((k53 : Nat) : Int)) else SlicesIndexFuncLplanRule_v1.loop1 y0 y1 rest55 (k53 + 1)))
def SlicesIndexFuncLplanRule_v1 (x0 : List PlanRule) (y0 : PlanPeriodic) (y1 : List Int) : Option Int := ((SlicesIndexFuncLplanRule_v1.loop1 y0 y1 x0 0).bind fun q52 => match q52 with | .ret r => some r | .next () => some (-1))
def PlanBroken (x0 : PlanPeriodic) (x1 : List Int) : Option (Int × Int) := (if ((PlancheckTimes x0 x1) != 0) then some (0, (PlancheckTimes x0 x1)) else ((SlicesIndexFuncLplanRule_v1 x0.Rules x0 x1).bind fun q54 => some (q54, 0)))
def Plancost.loop1 (x0 : PlanPeriodic) (x1 : List Int) : (List PlanRule) → Int → Option Int
  | [], q63 => some q63
  | x55 :: rest56, q63 => ((Plangap x0 x55 x1).bind fun q70 => Plancost.loop1 x0 x1 rest56 (w64 (q63 + (w64 (x55.Weight * (w64 (q70 - x55.Min)))))))
def Plancost (x0 : PlanPeriodic) (x1 : List Int) : Option Int := ((Plancost.loop1 x0 x1 x0.Rules 0).bind fun q63 => some q63)
def PlanCost (x0 : PlanPeriodic) (x1 : List Int) : Option (Int × Int) := (if ((PlancheckTimes x0 x1) != 0) then some (0, (PlancheckTimes x0 x1)) else ((Plancost x0 x1).bind fun q53 => some (q53, 0)))
def Fishref2within (x0 : Int) (x1 : Int) (x2 : Int) : Bool := (bnd ((if decide (x0 ≥ x1) then decide (x0 ≤ x2) else false) : Bool) fun q55 => q55)
def Fishref2PeriodicFault.loop1 (x0 : PlanPeriodic) : (List PlanRule) → Out Int Unit
  | [] => (.next ())
  | x64 :: rest65 => (bnd ((if !(Fishref2within x64.From 0 (w64 (x0.Events - 1))) then true else !(Fishref2within x64.To 0 (w64 (x0.Events - 1)))) : Bool) fun q82 => (if q82 then (.ret 3) else (if (x64.From == x64.To) then (.ret 1) else (bnd ((if !(Fishref2within x64.Min 0 3600) then true else (if decide (x64.Max < x64.Min) then true else (if decide (x64.Max > (w64 ((w64 (x64.Min + x0.Period)) - 1))) then true else !(Fishref2within x64.Weight 0 1000)))) : Bool) fun q91 => (if q91 then (.ret 2) else Fishref2PeriodicFault.loop1 x0 rest65)))))
def Fishref2PeriodicFault (x0 : PlanPeriodic) : Int := (bnd ((if !(Fishref2within x0.Period 2 3600) then true else !(Fishref2within x0.Events 1 8)) : Bool) fun q56 => (if q56 then 2 else (if decide (((x0.Rules).length : Int) > 40) then 4 else (bnd (Fishref2PeriodicFault.loop1 x0 x0.Rules) fun q62 => match q62 with | .ret r => r | .next () => 0))))
def Fishref2TimesFault.loop1 (x0 : PlanPeriodic) : (List Int) → Out Int Unit
  | [] => (.next ())
  | x57 :: rest58 => (if !(Fishref2within x57 0 (w64 (x0.Period - 1))) then (.ret 2) else Fishref2TimesFault.loop1 x0 rest58)
def Fishref2TimesFault (x0 : PlanPeriodic) (x1 : List Int) : Int := (if ((Fishref2PeriodicFault x0) != 0) then (Fishref2PeriodicFault x0) else (if (((x1).length : Int) != x0.Events) then 1 else (bnd (Fishref2TimesFault.loop1 x0 x1) fun q55 => match q55 with | .ret r => r | .next () => 0)))
def MathBitsMul64 (x0 : Int) (x1 : Int) : Int × Int := (IntKind.wrap .u64 ((IntKind.wrap .u64 ((IntKind.wrap .u64 ((Int.fdiv x0 (2 ^ (min (Int.toNat 32) (IntKind.bits .u64)))) * (Int.fdiv x1 (2 ^ (min (Int.toNat 32) (IntKind.bits .u64)))))) + (Int.fdiv (IntKind.wrap .u64 ((IntKind.wrap .u64 ((Int.fdiv x0 (2 ^ (min (Int.toNat 32) (IntKind.bits .u64)))) * (IntKind.wrap .u64 ((BitVec.ofInt (IntKind.bits .u64) x1 &&& BitVec.ofInt (IntKind.bits .u64) 4294967295).toNat : Int)))) + (Int.fdiv (IntKind.wrap .u64 ((IntKind.wrap .u64 ((BitVec.ofInt (IntKind.bits .u64) x0 &&& BitVec.ofInt (IntKind.bits .u64) 4294967295).toNat : Int)) * (IntKind.wrap .u64 ((BitVec.ofInt (IntKind.bits .u64) x1 &&& BitVec.ofInt (IntKind.bits .u64) 4294967295).toNat : Int)))) (2 ^ (min (Int.toNat 32) (IntKind.bits .u64)))))) (2 ^ (min (Int.toNat 32) (IntKind.bits .u64)))))) + (Int.fdiv (IntKind.wrap .u64 ((IntKind.wrap .u64 ((BitVec.ofInt (IntKind.bits .u64) (IntKind.wrap .u64 ((IntKind.wrap .u64 ((Int.fdiv x0 (2 ^ (min (Int.toNat 32) (IntKind.bits .u64)))) * (IntKind.wrap .u64 ((BitVec.ofInt (IntKind.bits .u64) x1 &&& BitVec.ofInt (IntKind.bits .u64) 4294967295).toNat : Int)))) + (Int.fdiv (IntKind.wrap .u64 ((IntKind.wrap .u64 ((BitVec.ofInt (IntKind.bits .u64) x0 &&& BitVec.ofInt (IntKind.bits .u64) 4294967295).toNat : Int)) * (IntKind.wrap .u64 ((BitVec.ofInt (IntKind.bits .u64) x1 &&& BitVec.ofInt (IntKind.bits .u64) 4294967295).toNat : Int)))) (2 ^ (min (Int.toNat 32) (IntKind.bits .u64)))))) &&& BitVec.ofInt (IntKind.bits .u64) 4294967295).toNat : Int)) + (IntKind.wrap .u64 ((IntKind.wrap .u64 ((BitVec.ofInt (IntKind.bits .u64) x0 &&& BitVec.ofInt (IntKind.bits .u64) 4294967295).toNat : Int)) * (Int.fdiv x1 (2 ^ (min (Int.toNat 32) (IntKind.bits .u64)))))))) (2 ^ (min (Int.toNat 32) (IntKind.bits .u64))))), IntKind.wrap .u64 (x0 * x1))
def MathBitsMul (x0 : Int) (x1 : Int) : Int × Int := (bnd (MathBitsMul64 x0 x1) fun q51 => (q51.1, q51.2))
def SlicesRepeatLbool.loop1 (x62 : List Bool) : Nat → Int → (List Bool) → Option (Int × (List Bool))
  | 0, _, _ => none
  | n75 + 1, q79, q80 => (if decide (q79 < ((x62.length : Nat) : Int)) then ((cutl q80 q79 ((x62.length : Nat) : Int)).bind fun _ => ((cutl q80 0 q79).bind fun _ => (bnd (cpl q80 ((q79).toNat) x62.length ((q80.take ((q79).toNat)).drop 0)) fun x107 => SlicesRepeatLbool.loop1 x62 n75 (w64 (q79 + ((min ((q80.take ((q79).toNat)).drop 0).length (x62.length - ((q79).toNat)) : Nat) : Int))) x107))) else some (q79, q80))
def SlicesRepeatLbool (fu : Nat) (x0 : List Bool) (x1 : Int) : Option (List Bool) := (if decide (x1 < 0) then none else (bnd (MathBitsMul (IntKind.wrap .u64 ((x0).length : Int)) (IntKind.wrap .u64 x1)) fun q52 => (bnd ((if decide (q52.1 > 0) then true else decide (q52.2 > 9223372036854775807)) : Bool) fun q58 => (if q58 then none else ((mks (w64 q52.2) (false : Bool)).bind fun x62 => (bnd (cpl x62 0 x62.length x0) fun x68 => ((SlicesRepeatLbool.loop1 x62 fu ((min x0.length (x62.length - 0) : Nat) : Int) x68).bind fun q74 => match q74 with | (_, q80) => some q80)))))))
def PlannewSearch (fu : Nat) (x0 : PlanPeriodic) : Option (Int × Int × (List PlanRule) × (List Int) × (List Bool)) := ((mks ((x0.Rules).length : Int) (0 : Int)).bind fun x53 => ((SlicesRepeatLbool fu [true] ((x0.Rules).length : Int)).bind fun q65 => some (x0.Period, x0.Events, x0.Rules, x53, q65)))
def PlanSearchstart_v1.loop4 (y0_0 : Int) (y0_1 : Int) (q71 : Int) : Nat → Int → (List Int) → Option (Int × (List Int))
  | 0, _, _ => none
  | n93 + 1, q97, q98 => (if decide (q97 < y0_1) then (((if (q71 != q97) then ((bx 8 q71).bind fun _ => ((bx 8 q97).bind fun _ => ((sx q98 (q71 * 8 + q97) (w64 (y0_0 - 1))).bind fun x125 => some x125))) else some q98) : Option (List Int)).bind fun q110 => PlanSearchstart_v1.loop4 y0_0 y0_1 q71 n93 (w64 (q97 + 1)) q110) else some (q97, q98))
def PlanSearchstart_v1.loop2 (y0_0 : Int) (y0_1 : Int) (fu : Nat) : Nat → Int → (List Int) → Option (Int × (List Int))
  | 0, _, _ => none
  | n67 + 1, q71, q72 => (if decide (q71 < y0_1) then ((PlanSearchstart_v1.loop4 y0_0 y0_1 q71 fu 0 q72).bind fun q92 => match q92 with | (_, q98) => ((bx 8 q71).bind fun _ => ((bx 8 0).bind fun _ => ((sx q98 (q71 * 8 + 0) 0).bind fun x136 => PlanSearchstart_v1.loop2 y0_0 y0_1 fu n67 (w64 (q71 + 1)) x136)))) else some (q71, q72))
def PlanSearchstart_v1 (fu : Nat) (y0_0 : Int) (y0_1 : Int) (_y0_2 : List PlanRule) (_y0_5 : List Int) (_y0_6 : List Bool) : Option (Option (List Int)) := ((PlanSearchstart_v1.loop2 y0_0 y0_1 fu fu 0 (List.replicate 64 (0 : Int))).bind fun q66 => match q66 with | (_, q72) => some (some q72))
def Plansolve_1_v1 (x0 : Option (List Int)) (y0 : Int) (y1 : Int) : Option Bool := ((x0).bind fun x51 => ((bx 8 y0).bind fun _ => ((bx 8 0).bind fun _ => ((gx x51 (y0 * 8 + 0)).bind fun x66 => some (decide ((w64 (0 - x66)) ≥ y1))))))
def Planfloor (x0 : Int) (x1 : Int) : Option Int := ((dv x0 x1).bind fun x51 => ((rm x0 x1).bind fun x53 => (bnd ((if decide (x53 < 0) then w64 (x51 - 1) else x51) : Int) fun q59 => some q59)))
def PlanSearchchoices_v1.loop1 (x2 : PlanRule) (y0_0 : Int) (x53 : List Int) : Nat → (List Int) → Int → Option ((List Int) × Int)
  | 0, _, _ => none
  | n77 + 1, q81, q88 => ((bx 8 x2.To).bind fun _ => ((bx 8 x2.From).bind fun _ => ((gx x53 (x2.To * 8 + x2.From)).bind fun x96 => (if decide ((w64 (x2.Max - (w64 (q88 * y0_0)))) ≥ (w64 (0 - x96))) then ((apd q81 [q88]).bind fun x103 => PlanSearchchoices_v1.loop1 x2 y0_0 x53 n77 x103 (w64 (q88 + 1))) else some (q81, q88)))))
def PlanSearchchoices_v1 (fu : Nat) (x1 : Option (List Int)) (x2 : PlanRule) (y0_0 : Int) (_y0_1 : Int) (_y0_2 : List PlanRule) (_y0_5 : List Int) (_y0_6 : List Bool) (_y1 : Int) (_y2 : Int) : Option (List Int) := ((x1).bind fun x53 => ((bx 8 x2.From).bind fun _ => ((bx 8 x2.To).bind fun _ => ((gx x53 (x2.From * 8 + x2.To)).bind fun x68 => ((Planfloor (w64 (x68 - x2.Min)) y0_0).bind fun q73 => ((PlanSearchchoices_v1.loop1 x2 y0_0 x53 fu [] (w64 (0 - q73))).bind fun q76 => match q76 with | (q81, _) => some q81))))))
def Plansolve_2_v1 (x0 : Option (List Int)) (_x1 : List Int) (y0 : Int) (_y1 : Int) : Option Int := ((x0).bind fun x53 => ((bx 8 y0).bind fun _ => ((bx 8 0).bind fun _ => ((gx x53 (y0 * 8 + 0)).bind fun x68 => some (w64 (0 - x68))))))
def PlanBoundsclosed.loop4 (x1 : Int) (x2 : Int) (x3 : Int) (x4 : Int) (x51 : List Int) (q106 : Int) : Nat → Int → (List Int) → Option (Int × (List Int))
  | 0, _, _ => none
  | n128 + 1, q132, q133 => (if decide (q132 < x1) then ((bx 8 q106).bind fun _ => ((bx 8 q132).bind fun _ => ((gx q133 (q106 * 8 + q132)).bind fun x148 => ((bx 8 q106).bind fun _ => ((bx 8 x2).bind fun _ => ((gx x51 (q106 * 8 + x2)).bind fun x164 => ((bx 8 x3).bind fun _ => ((bx 8 q132).bind fun _ => ((gx x51 (x3 * 8 + q132)).bind fun x175 => ((bx 8 q106).bind fun _ => ((bx 8 q132).bind fun _ => ((sx q133 (q106 * 8 + q132) (mn x148 (w64 ((w64 (x164 + x4)) + x175)))).bind fun x186 => PlanBoundsclosed.loop4 x1 x2 x3 x4 x51 q106 n128 (w64 (q132 + 1)) x186)))))))))))) else some (q132, q133))
def PlanBoundsclosed.loop2 (x1 : Int) (x2 : Int) (x3 : Int) (x4 : Int) (fu : Nat) (x51 : List Int) : Nat → Int → (List Int) → Option (Int × (List Int))
  | 0, _, _ => none
  | n102 + 1, q106, q107 => (if decide (q106 < x1) then ((PlanBoundsclosed.loop4 x1 x2 x3 x4 x51 q106 fu 0 q107).bind fun q127 => match q127 with | (_, q133) => PlanBoundsclosed.loop2 x1 x2 x3 x4 fu x51 n102 (w64 (q106 + 1)) q133) else some (q106, q107))
def PlanBoundsclosed (fu : Nat) (x0 : Option (List Int)) (x1 : Int) (x2 : Int) (x3 : Int) (x4 : Int) : Option ((Option (List Int)) × Bool) := ((x0).bind fun x51 => ((bx 8 x2).bind fun _ => ((bx 8 x3).bind fun _ => ((gx x51 (x2 * 8 + x3)).bind fun x66 => (if decide (x66 ≤ x4) then some (x0, true) else ((bx 8 x3).bind fun _ => ((bx 8 x2).bind fun _ => ((gx x51 (x3 * 8 + x2)).bind fun x78 => (if decide ((w64 (x78 + x4)) < 0) then some (none, false) else ((PlanBoundsclosed.loop2 x1 x2 x3 x4 fu x51 fu 0 x51).bind fun q101 => match q101 with | (_, q107) => some ((some q107), true)))))))))))
def PlanBoundsbetween (fu : Nat) (x0 : Option (List Int)) (x1 : Int) (x2 : Int) (x3 : Int) (x4 : Int) (x5 : Int) : Option ((Option (List Int)) × Bool) := ((PlanBoundsclosed fu x0 x1 x2 x3 x5).bind fun q51 => (if !q51.2 then some (none, false) else ((PlanBoundsclosed fu q51.1 x1 x3 x2 (w64 (0 - x4))).bind fun q58 => some (q58.1, q58.2))))
def PlanSearchrun_v1.loop1 (x1 : Option (List Int)) (y0_0 : Int) (y0_1 : Int) (y0_2 : List PlanRule) (y0_5 : List Int) (y0_6 : List Bool) (y1 : Int) (fu : Nat) : (List PlanRule) → Nat → Int → (List Int) → Int → Option (Out ((List Int) × (List Bool) × Int) (Int × (List Int) × Int))
  | [], _, q91, q92, q96 => some (.next (q91, q92, q96))
  | x83 :: rest84, k82, q91, q92, q96 => ((gx y0_6 ((k82 : Nat) : Int)).bind fun x103 => (if !x103 then PlanSearchrun_v1.loop1 x1 y0_0 y0_1 y0_2 y0_5 y0_6 y1 fu rest84 (k82 + 1) q91 q92 q96 else ((PlanSearchchoices_v1 fu x1 x83 y0_0 y0_1 y0_2 y0_5 y0_6 y1 q96).bind fun q114 => (bnd ((if decide (q91 < 0) then true else decide (((q114.length : Nat) : Int) < ((q92).length : Int))) : Bool) fun q126 => (bnd ((if q126 then (((k82 : Nat) : Int), q114) else (q91, q92)) : Int × (List Int)) fun q133 => match q133 with | (q136, q137) => (if (((q114).length : Int) == 0) then some (.ret (y0_5, y0_6, q96)) else PlanSearchrun_v1.loop1 x1 y0_0 y0_1 y0_2 y0_5 y0_6 y1 fu rest84 (k82 + 1) q136 q137 q96))))))
def PlanSearchrun_v1.loop2 (x1 : Option (List Int)) (y0_0 : Int) (y0_1 : Int) (y0_2 : List PlanRule) (y1 : Int) (fu : Nat) (self_PlanSearchrun_v1 : (Option (List Int)) → Int → Int → (List PlanRule) → (List Int) → (List Bool) → Int → Int → Option ((List Int) × (List Bool) × Int)) (q91 : Int) (x152 : PlanRule) : (List Int) → (List Int) → (List Bool) → Int → Option ((List Int) × (List Bool) × Int)
  | [], q183, q189, q195 => some (q183, q189, q195)
  | x175 :: rest176, q183, q189, q195 => ((PlanBoundsbetween fu x1 y0_1 x152.From x152.To (w64 (x152.Min - (w64 (x175 * y0_0)))) (w64 (x152.Max - (w64 (x175 * y0_0))))).bind fun q202 => (((if q202.2 then ((ix q183 q91).bind fun _ => ((sx q183 q91 x175).bind fun x232 => ((self_PlanSearchrun_v1 q202.1 y0_0 y0_1 y0_2 x232 q189 y1 q195).bind fun q237 => some (q237.1, q237.2.1, q237.2.2)))) else some (q183, q189, q195)) : Option ((List Int) × (List Bool) × Int)).bind fun q209 => match q209 with | (q212, q218, q224) => PlanSearchrun_v1.loop2 x1 y0_0 y0_1 y0_2 y1 fu self_PlanSearchrun_v1 q91 x152 rest176 q212 q218 q224))
def PlanSearchrun_v1 : Nat → (Option (List Int)) → Int → Int → (List PlanRule) → (List Int) → (List Bool) → Int → Int → Option ((List Int) × (List Bool) × Int)
  | 0, _, _, _, _, _, _, _, _ => none
  | fu + 1, x1, y0_0, y0_1, y0_2, y0_5, y0_6, y1, y2 => ((Plansolve_1_v1 x1 y1 y2).bind fun q77 => (if q77 then some (y0_5, y0_6, y2) else ((PlanSearchrun_v1.loop1 x1 y0_0 y0_1 y0_2 y0_5 y0_6 y1 fu y0_2 0 (-1) [] y2).bind fun q81 => match q81 with | .ret r => some r | .next (q91, q92, q96) => (if decide (q91 < 0) then ((Plansolve_2_v1 x1 y0_5 y1 q96).bind fun q146 => some (y0_5, y0_6, q146)) else ((gx y0_2 q91).bind fun x152 => ((ix y0_6 q91).bind fun _ => ((sx y0_6 q91 false).bind fun x167 => ((PlanSearchrun_v1.loop2 x1 y0_0 y0_1 y0_2 y1 fu (PlanSearchrun_v1 fu) q91 x152 q92 y0_5 x167 q96).bind fun q173 => match q173 with | (q183, q189, q195) => ((ix q189 q91).bind fun _ => ((sx q189 q91 true).bind fun x252 => some (q183, x252, q195)))))))))))
def Plansolve.loop1 (x0 : PlanPeriodic) (fu : Nat) (q52 : (Int × Int × (List PlanRule) × (List Int) × (List Bool))) : Nat → (Option (List Int)) → (List Int) → Int → (List Int) → (List Bool) → Unit → Unit → Option (Out (List Int) ((Option (List Int)) × (List Int) × Int × (List Int) × (List Bool) × Unit × Unit))
  | 0, _, _, _, _, _, _, _ => none
  | n84 + 1, q88, q91, q99, q100, q106, _, _ => (if decide (q99 < x0.Events) then ((PlanSearchrun_v1 fu q88 q52.1 q52.2.1 q52.2.2.1 q100 q106 q99 x0.Period).bind fun q119 => (if (q119.2.2 == x0.Period) then some (.ret []) else ((apd q91 [q119.2.2]).bind fun x131 => ((PlanBoundsbetween fu q88 x0.Events 0 q99 q119.2.2 q119.2.2).bind fun q137 => Plansolve.loop1 x0 fu q52 n84 q137.1 x131 (w64 (q99 + 1)) q119.1 q119.2.1 () ())))) else some (.next (q88, q91, q99, q100, q106, (), ())))
def Plansolve (fu : Nat) (x0 : PlanPeriodic) : Option (List Int) := ((PlannewSearch fu x0).bind fun q52 => ((PlanSearchstart_v1 fu q52.1 q52.2.1 q52.2.2.1 q52.2.2.2.1 q52.2.2.2.2).bind fun q72 => ((Plansolve.loop1 x0 fu q52 fu q72 [0] 1 q52.2.2.2.1 q52.2.2.2.2 () ()).bind fun q83 => match q83 with | .ret r => some r | .next (_, q91, _, _, _, _, _) => ((nz q91).bind fun _ => some q91))))
def PlanSolve (fu : Nat) (x0 : PlanPeriodic) : Option ((List Int) × Int) := (if ((PlanCheckPeriodic x0) != 0) then some ([], (PlanCheckPeriodic x0)) else ((Plansolve fu x0).bind fun q53 => (if q53.isEmpty then some ([], 9) else some (q53, 0))))
def SlicesEqualLint.loop1 (x1 : List Int) : (List Int) → Nat → Option (Out Bool Unit)
  | [], _ => some (.next ())
  | x55 :: rest56, k54 => ((gx x1 ((k54 : Nat) : Int)).bind fun x68 => (if (x55 != x68) then some (.ret false) else SlicesEqualLint.loop1 x1 rest56 (k54 + 1)))
def SlicesEqualLint (x0 : List Int) (x1 : List Int) : Option Bool := (if (((x0).length : Int) != ((x1).length : Int)) then some false else ((SlicesEqualLint.loop1 x1 x0 0).bind fun q53 => match q53 with | .ret r => some r | .next () => some true))
def Fishlaw2periods (fu : Nat) : Option Bool := ((PlanSolve fu (PlanPeriodic.mk 60 3 [(PlanRule.mk 0 1 10 20 0), (PlanRule.mk 1 2 10 20 0), (PlanRule.mk 2 0 10 20 0)])).bind fun q58 => (((if (q58.2 == 0) then ((SlicesEqualLint q58.1 [0, 20, 40]).bind fun q78 => some q78) else some false) : Option Bool).bind fun q69 => some q69))
def Fishref2GapOf.loop1 (x0 : PlanPeriodic) (x1 : PlanRule) : Nat → Int → Option Int
  | 0, _ => none
  | n73 + 1, q77 => (if decide (q77 < x1.Min) then Fishref2GapOf.loop1 x0 x1 n73 (w64 (q77 + x0.Period)) else some q77)
def Fishref2GapOf.loop2 (x0 : PlanPeriodic) (x1 : PlanRule) : Nat → Int → Option Int
  | 0, _ => none
  | n82 + 1, q86 => (if decide (q86 ≥ (w64 (x1.Min + x0.Period))) then Fishref2GapOf.loop2 x0 x1 n82 (w64 (q86 - x0.Period)) else some q86)
def Fishref2GapOf (fu : Nat) (x0 : PlanPeriodic) (x1 : PlanRule) (x2 : List Int) : Option Int := ((gx x2 x1.To).bind fun x53 => ((gx x2 x1.From).bind fun x62 => ((Fishref2GapOf.loop1 x0 x1 fu (w64 (x53 - x62))).bind fun q77 => ((Fishref2GapOf.loop2 x0 x1 fu q77).bind fun q86 => some q86))))
def Fishref2BrokenOf_1_v1 (fu : Nat) (x0 : PlanRule) (y0 : PlanPeriodic) (y1 : List Int) : Option Bool := ((Fishref2GapOf fu y0 x0 y1).bind fun q52 => some (decide (q52 > x0.Max)))
def SlicesIndexFuncLplanRule_v2.loop1 (y0 : PlanPeriodic) (y1 : List Int) (fu : Nat) : (List PlanRule) → Nat → Option (Out Int Unit)
  | [], _ => some (.next ())
  | x54 :: rest55, k53 => ((Fishref2BrokenOf_1_v1 fu x54 y0 y1).bind fun q67 => (if q67 then some (.ret ((k53 : Nat) : Int)) else SlicesIndexFuncLplanRule_v2.loop1 y0 y1 fu rest55 (k53 + 1)))
def SlicesIndexFuncLplanRule_v2 (fu : Nat) (x0 : List PlanRule) (y0 : PlanPeriodic) (y1 : List Int) : Option Int := ((SlicesIndexFuncLplanRule_v2.loop1 y0 y1 fu x0 0).bind fun q52 => match q52 with | .ret r => some r | .next () => some (-1))
def Fishref2BrokenOf (fu : Nat) (x0 : PlanPeriodic) (x1 : List Int) : Option Int := ((SlicesIndexFuncLplanRule_v2 fu x0.Rules x0 x1).bind fun q53 => some q53)
def Fishref2CostOf.loop1 (x0 : PlanPeriodic) (x1 : List Int) (fu : Nat) : (List PlanRule) → Int → Option Int
  | [], q63 => some q63
  | x55 :: rest56, q63 => ((Fishref2GapOf fu x0 x55 x1).bind fun q70 => Fishref2CostOf.loop1 x0 x1 fu rest56 (w64 (q63 + (w64 (x55.Weight * (w64 (q70 - x55.Min)))))))
def Fishref2CostOf (fu : Nat) (x0 : PlanPeriodic) (x1 : List Int) : Option Int := ((Fishref2CostOf.loop1 x0 x1 fu x0.Rules 0).bind fun q63 => some q63)
def Fishlaw2PlanGaps (fu : Nat) (x0 : PlanPeriodic) (x1 : Int) (x2 : List Int) : Option Bool := ((PlanGap x0 x1 x2).bind fun q52 => ((PlanBroken x0 x2).bind fun q54 => ((PlanCost x0 x2).bind fun q56 => (if ((Fishref2TimesFault x0 x2) != 0) then ((((Fishlaw2periods fu).bind fun q65 => (if q65 then (if (q52.2 == (Fishref2TimesFault x0 x2)) then (if (q54.2 == (Fishref2TimesFault x0 x2)) then (if (q56.2 == (Fishref2TimesFault x0 x2)) then (if (q52.1 == 0) then (if (q54.1 == 0) then some (q56.1 == 0) else some false) else some false) else some false) else some false) else some false) else some false)) : Option Bool).bind fun q63 => some q63) else ((((Fishlaw2periods fu).bind fun q79 => (if !q79 then some true else (if (q54.2 != 0) then some true else (if (q56.2 != 0) then some true else ((Fishref2BrokenOf fu x0 x2).bind fun q84 => (if (q54.1 != q84) then some true else ((Fishref2CostOf fu x0 x2).bind fun q87 => some (q56.1 != q87)))))))) : Option Bool).bind fun q77 => (if q77 then some false else (bnd ((if decide (x1 < 0) then true else decide (x1 ≥ ((x0.Rules).length : Int))) : Bool) fun q94 => (if q94 then (bnd ((if (q52.2 == 3) then (q52.1 == 0) else false) : Bool) fun q102 => some q102) else (((if (q52.2 == 0) then ((gx x0.Rules x1).bind fun x112 => ((Fishref2GapOf fu x0 x112 x2).bind fun q121 => some (q52.1 == q121))) else some false) : Option Bool).bind fun q109 => some q109)))))))))
end Go.Fp
