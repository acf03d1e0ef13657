/- The mirrors of the functions that FleetDuties reaches: plain Lean functions on data. No condition. -/
import Derived.Test.YtfhkpdnohcidgaaFpCopy
namespace Go.Fp
structure FleetTask where
  From : Int
  To : Int
  Dep : Int
  Arr : Int
  Km : Int
  Units : Int
  deriving DecidableEq, Inhabited
-- FleetTask is of one size
def FleetTask.cells (x : FleetTask) : List Go.Value := [.int .i64 x.From, .int .i64 x.To, .int .i64 x.Dep, .int .i64 x.Arr, .int .i64 x.Km, .int .i64 x.Units]
def RFleetTask : Rd FleetTask := fun _ cs x => cs = x.cells
theorem RFleetTask.mono : Rmono RFleetTask := fun _ _ _ _ _ h => h
theorem RFleetTask.one : Rone RFleetTask := by intro s cs x h; subst h; rfl

structure FleetLimits where
  Change : Int
  Long : Int
  Work : Int
  After : Int
  Break : Int
  Rest : Int
  Row : Int
  deriving DecidableEq, Inhabited
-- FleetLimits is of one size
def FleetLimits.cells (x : FleetLimits) : List Go.Value := [.int .i64 x.Change, .int .i64 x.Long, .int .i64 x.Work, .int .i64 x.After, .int .i64 x.Break, .int .i64 x.Rest, .int .i64 x.Row]
def RFleetLimits : Rd FleetLimits := fun _ cs x => cs = x.cells
theorem RFleetLimits.mono : Rmono RFleetLimits := fun _ _ _ _ _ h => h
theorem RFleetLimits.one : Rone RFleetLimits := by intro s cs x h; subst h; rfl

structure FleetDivider where
  tasks : List FleetTask
  limits : FleetLimits
  used : List Bool
  duties : List (List Int)
  deriving DecidableEq, Inhabited
def szFleetDivider (x : FleetDivider) : Nat := (szL sz1) x.tasks + (szL sz1) x.used + (szL (szL sz1)) x.duties + 1
def RFleetDivider : Rd FleetDivider := fun s cs x => ∃ a0 c0 a1 c1 a2 c2, cs = [.slice a0 x.tasks.length c0, .int .i64 x.limits.Change, .int .i64 x.limits.Long, .int .i64 x.limits.Work, .int .i64 x.limits.After, .int .i64 x.limits.Break, .int .i64 x.limits.Rest, .int .i64 x.limits.Row, .slice a1 x.used.length c1, .slice a2 x.duties.length c2] ∧ Sl 6 RFleetTask s a0 c0 x.tasks ∧ Sl 1 RB s a1 c1 x.used ∧ Sl 1 (RL 1 (RI .i64)) s a2 c2 x.duties
theorem RFleetDivider.one : Rone RFleetDivider := by rintro s cs x ⟨a0, c0, a1, c1, a2, c2, rfl, _⟩; rfl
theorem RFleetDivider.mono : Rmono RFleetDivider := fun _ _ h _ _ ⟨a0, c0, a1, c1, a2, c2, e, h0, h1, h2⟩ => ⟨a0, c0, a1, c1, a2, c2, e, h0.mono RFleetTask.mono h, h1.mono RB.mono h, h2.mono (RL.mono RI.mono) h⟩
def Fleetwithin (x0 : Int) (x1 : Int) (x2 : Int) : Bool := (bnd ((if decide (x0 ≥ x1) then decide (x0 ≤ x2) else false) : Bool) fun q55 => q55)
def FleetCheckTasks.loop1 : (List FleetTask) → Out Int Unit
  | [] => (.next ())
  | x55 :: rest56 => (bnd ((if !(Fleetwithin x55.From 0 11) then true else (if !(Fleetwithin x55.To 0 11) then true else (if !(Fleetwithin x55.Dep 0 28800) then true else !(Fleetwithin x55.Arr 0 28800)))) : Bool) fun q73 => (if q73 then (.ret 2) else (if decide (x55.Arr ≤ x55.Dep) then (.ret 13) else (bnd ((if !(Fleetwithin x55.Km 0 10000) then true else !(Fleetwithin x55.Units 1 4)) : Bool) fun q84 => (if q84 then (.ret 2) else FleetCheckTasks.loop1 rest56)))))
def FleetCheckTasks (x0 : List FleetTask) : Int := (if decide (((x0).length : Int) > 40) then 4 else (bnd (FleetCheckTasks.loop1 x0) fun q53 => match q53 with | .ret r => r | .next () => 0))
def FleetCheckLimits.loop1 : (List Int) → Out Int Unit
  | [] => (.next ())
  | x55 :: rest56 => (if !(Fleetwithin x55 0 86400) then (.ret 2) else FleetCheckLimits.loop1 rest56)
def FleetCheckLimits (x0 : FleetLimits) : Int := (bnd (FleetCheckLimits.loop1 [x0.Change, x0.Long, x0.Work, x0.After, x0.Break, x0.Rest]) fun q53 => match q53 with | .ret r => r | .next () => (if !(Fleetwithin x0.Row 1 7) then 2 else 0))
def FleetcheckTasks (x0 : List FleetTask) (x1 : FleetLimits) : Int := (if ((FleetCheckTasks x0) != 0) then (FleetCheckTasks x0) else (FleetCheckLimits x1))
def SlicesIndexLbool.loop1 (x1 : Bool) : (List Bool) → Nat → Out Int Unit
  | [], _ => (.next ())
  | x54 :: rest55, k53 => (if (x1 == x54) then (.ret ((k53 : Nat) : Int)) else SlicesIndexLbool.loop1 x1 rest55 (k53 + 1))
def SlicesIndexLbool (x0 : List Bool) (x1 : Bool) : Int := (bnd (SlicesIndexLbool.loop1 x1 x0 0) fun q52 => match q52 with | .ret r => r | .next () => (-1))
def SlicesContainsLbool (x0 : List Bool) (x1 : Bool) : Bool := decide ((SlicesIndexLbool x0 x1) ≥ 0)
def SlicesCloneLint (x0 : List Int) : Option (List Int) := ((apd [] x0).bind fun x56 => some x56)
def FleetDividertake_v3 (self_FleetDividerdivide_v1 : Int → Int → (List Int) → FleetDivider → Option (Bool × (List Bool) × (List (List Int)))) (x1 : Int) (x2 : Int) (x3 : List Int) (x4 : Int) (y0 : FleetDivider) : Option (Bool × (List Bool) × (List (List Int))) := ((gx y0.used x4).bind fun x77 => (if x77 then some (false, y0.used, y0.duties) else (((if decide (((x3).length : Int) > 0) then ((gx x3 (w64 (((x3).length : Int) - 1))).bind fun x95 => ((gx y0.tasks x95).bind fun x104 => ((((gx y0.tasks x4).bind fun x120 => (if (x120.From != x104.To) then some true else ((gx y0.tasks x4).bind fun x130 => some (decide (x130.Dep < (w64 (x104.Arr + y0.limits.Change))))))) : Option Bool).bind fun q118 => (if q118 then some (.ret (false, y0.used, y0.duties)) else some (.next ()))))) else some (.next ())) : Option (Out (Bool × (List Bool) × (List (List Int))) Unit)).bind fun q89 => match q89 with | .ret r => some r | .next () => ((ix y0.used x4).bind fun _ => ((sx y0.used x4 true).bind fun x145 => ((SlicesCloneLint x3).bind fun q150 => ((apd q150 [x4]).bind fun x159 => ((nz x159).bind fun _ => ((self_FleetDividerdivide_v1 x1 x2 x159 (FleetDivider.mk y0.tasks y0.limits x145 y0.duties)).bind fun q172 => (if q172.1 then some (true, q172.2.1, q172.2.2) else ((ix q172.2.1 x4).bind fun _ => ((sx q172.2.1 x4 false).bind fun x190 => some (false, x190, q172.2.2)))))))))))))
def Fleetjudge_1_v1 (x0 : Int) (y0 : Int) (y1 : FleetLimits) (y2 : Int) : Int := (bnd ((if decide ((w64 (x0 - y0)) > y1.After) then 4 else y2) : Int) fun q56 => q56)
def Fleetjudge.loop1 (x0 : List FleetTask) (x1 : List Int) (x2 : FleetLimits) : (List Int) → Nat → Int → Int → Int → Option (Out Int (Int × Int × Int))
  | [], _, q105, q106, q107 => some (.next (q105, q106, q107))
  | x97 :: rest98, k96, q105, q106, q107 => ((gx x0 x97).bind fun x113 => (if (((k96 : Nat) : Int) == 0) then Fleetjudge.loop1 x0 x1 x2 rest98 (k96 + 1) (w64 (q105 + (w64 (x113.Arr - x113.Dep)))) q106 q107 else ((gx x1 (w64 (((k96 : Nat) : Int) - 1))).bind fun x124 => ((gx x0 x124).bind fun x133 => (bnd ((if (x113.From != x133.To) then true else decide (x113.Dep < (w64 (x133.Arr + x2.Change)))) : Bool) fun q147 => (if q147 then some (.ret 1) else (bnd ((if decide ((w64 (x113.Dep - x133.Arr)) ≥ x2.Break) then (bnd (Fleetjudge_1_v1 x133.Arr q107 x2 q106) fun q159 => (q159, x113.Dep)) else (q106, q107)) : Int × Int) fun q152 => match q152 with | (q155, q156) => Fleetjudge.loop1 x0 x1 x2 rest98 (k96 + 1) (w64 (q105 + (w64 (x113.Arr - x113.Dep)))) q155 q156)))))))
def Fleetjudge (x0 : List FleetTask) (x1 : List Int) (x2 : FleetLimits) : Option Int := ((gx x1 0).bind fun x53 => ((gx x0 x53).bind fun x62 => ((gx x1 (w64 (((x1).length : Int) - 1))).bind fun x71 => ((gx x0 x71).bind fun x80 => ((Fleetjudge.loop1 x0 x1 x2 x1 0 0 0 x62.Dep).bind fun q95 => match q95 with | .ret r => some r | .next (q105, q106, q107) => (bnd (Fleetjudge_1_v1 x80.Arr q107 x2 q106) fun q161 => (if decide ((w64 (x80.Arr - x62.Dep)) > x2.Long) then some 2 else (if decide (q105 > x2.Work) then some 3 else (if decide (q161 > 0) then some q161 else (if (x80.To != x62.From) then some 5 else some 0))))))))))
def FleetDividerdivide_v1.loop1 (x1 : Int) (x2 : Int) (y0 : FleetDivider) (self_FleetDividerdivide_v1 : Int → Int → (List Int) → FleetDivider → Option (Bool × (List Bool) × (List (List Int)))) : Nat → Int → (List Bool) → (List (List Int)) → Option (Out (Bool × (List Bool) × (List (List Int))) (Int × (List Bool) × (List (List Int))))
  | 0, _, _, _ => none
  | n86 + 1, q90, q91, q97 => (if decide (q90 < ((y0.tasks).length : Int)) then ((FleetDividertake_v3 self_FleetDividerdivide_v1 x1 x2 [] q90 (FleetDivider.mk y0.tasks y0.limits q91 q97)).bind fun q106 => (if q106.1 then some (.ret (true, q106.2.1, q106.2.2)) else FleetDividerdivide_v1.loop1 x1 x2 y0 self_FleetDividerdivide_v1 n86 (w64 (q90 + 1)) q106.2.1 q106.2.2)) else some (.next (q90, q91, q97)))
def FleetDividerdivide_v1.loop2 (x1 : Int) (x2 : Int) (x3 : List Int) (y0 : FleetDivider) (self_FleetDividerdivide_v1 : Int → Int → (List Int) → FleetDivider → Option (Bool × (List Bool) × (List (List Int)))) : (List FleetTask) → Nat → (List Bool) → (List (List Int)) → Option (Out (Bool × (List Bool) × (List (List Int))) ((List Bool) × (List (List Int))))
  | [], _, q190, q196 => some (.next (q190, q196))
  | _ :: rest183, k181, q190, q196 => ((FleetDividertake_v3 self_FleetDividerdivide_v1 x1 x2 x3 ((k181 : Nat) : Int) (FleetDivider.mk y0.tasks y0.limits q190 q196)).bind fun q204 => (if q204.1 then some (.ret (true, q204.2.1, q204.2.2)) else FleetDividerdivide_v1.loop2 x1 x2 x3 y0 self_FleetDividerdivide_v1 rest183 (k181 + 1) q204.2.1 q204.2.2))
def FleetDividerdivide_v1 : Nat → Int → Int → (List Int) → FleetDivider → Option (Bool × (List Bool) × (List (List Int)))
  | 0, _, _, _, _ => none
  | fu + 1, x1, x2, x3, y0 => (if x3.isEmpty then (if !(SlicesContainsLbool y0.used false) then some ((x1 == 0), y0.used, y0.duties) else (if (x1 == 0) then some (false, y0.used, y0.duties) else ((FleetDividerdivide_v1.loop1 x1 x2 y0 (FleetDividerdivide_v1 fu) fu (w64 (x2 + 1)) y0.used y0.duties).bind fun q85 => match q85 with | .ret r => some r | .next (_, q91, q97) => some (false, q91, q97)))) else ((Fleetjudge y0.tasks x3 y0.limits).bind fun q119 => (((if (q119 == 0) then ((apd y0.duties [x3]).bind fun x141 => ((gx x3 0).bind fun x147 => (((FleetDividerdivide_v1 fu) (w64 (x1 - 1)) x147 [] (FleetDivider.mk y0.tasks y0.limits y0.used x141)).bind fun q156 => (if q156.1 then some (.ret (true, q156.2.1, q156.2.2)) else ((cutl q156.2.2 0 (w64 (((q156.2.2.length : Nat) : Int) - 1))).bind fun x170 => some (.next (q156.2.1, x170))))))) else some (.next (y0.used, y0.duties))) : Option (Out (Bool × (List Bool) × (List (List Int))) ((List Bool) × (List (List Int))))).bind fun q122 => match q122 with | .ret r => some r | .next (q125, q131) => ((FleetDividerdivide_v1.loop2 x1 x2 x3 y0 (FleetDividerdivide_v1 fu) y0.tasks 0 q125 q131).bind fun q180 => match q180 with | .ret r => some r | .next (q190, q196) => some (false, q190, q196)))))
def FleetDuties.loop2 (x0 : List FleetTask) (x1 : FleetLimits) (fu : Nat) : Nat → Int → Option (Out ((List (List Int)) × Int) Int)
  | 0, _ => none
  | n69 + 1, q73 => (if decide (q73 < (w64 (((x0).length : Int) + 1))) then ((mks ((x0).length : Int) (false : Bool)).bind fun x77 => ((FleetDividerdivide_v1 fu q73 (-1) [] (FleetDivider.mk x0 x1 x77 [])).bind fun q85 => (if q85.1 then some (.ret (q85.2.2, 0)) else FleetDuties.loop2 x0 x1 fu n69 (w64 (q73 + 1))))) else some (.next q73))
def FleetDuties (fu : Nat) (x0 : List FleetTask) (x1 : FleetLimits) : Option ((List (List Int)) × Int) := (if ((FleetcheckTasks x0 x1) != 0) then some ([], (FleetcheckTasks x0 x1)) else (if decide (((x0).length : Int) > 8) then some ([], 4) else ((FleetDuties.loop2 x0 x1 fu fu 0).bind fun q68 => match q68 with | .ret r => some r | .next _ => some ([], 9))))
def Fishref2within (x0 : Int) (x1 : Int) (x2 : Int) : Bool := (bnd ((if decide (x0 ≥ x1) then decide (x0 ≤ x2) else false) : Bool) fun q55 => q55)
def Fishref2TasksFault.loop1 : (List FleetTask) → Out Int Unit
  | [] => (.next ())
  | x55 :: rest56 => (bnd ((if !(Fishref2within x55.From 0 11) then true else (if !(Fishref2within x55.To 0 11) then true else (if !(Fishref2within x55.Dep 0 28800) then true else !(Fishref2within x55.Arr 0 28800)))) : Bool) fun q73 => (if q73 then (.ret 2) else (if decide (x55.Arr ≤ x55.Dep) then (.ret 13) else (bnd ((if !(Fishref2within x55.Km 0 10000) then true else !(Fishref2within x55.Units 1 4)) : Bool) fun q84 => (if q84 then (.ret 2) else Fishref2TasksFault.loop1 rest56)))))
def Fishref2TasksFault (x0 : List FleetTask) : Int := (if decide (((x0).length : Int) > 40) then 4 else (bnd (Fishref2TasksFault.loop1 x0) fun q53 => match q53 with | .ret r => r | .next () => 0))
def Fishref2LimitsFault.loop1 : (List Int) → Out Int Unit
  | [] => (.next ())
  | x61 :: rest62 => (if !(Fishref2within x61 0 86400) then (.ret 2) else Fishref2LimitsFault.loop1 rest62)
def Fishref2LimitsFault (x0 : FleetLimits) : Int := (bnd (Fishref2LimitsFault.loop1 [x0.Change, x0.Long, x0.Work, x0.After, x0.Break, x0.Rest]) fun q59 => match q59 with | .ret r => r | .next () => (if !(Fishref2within x0.Row 1 7) then 2 else 0))
def Fishref2DutiesFault (x0 : List FleetTask) (x1 : FleetLimits) : Int := (if ((Fishref2TasksFault x0) != 0) then (Fishref2TasksFault x0) else (if ((Fishref2LimitsFault x1) != 0) then (Fishref2LimitsFault x1) else (if decide (((x0).length : Int) > 8) then 4 else 0)))
def Fishref2inOrder.loop2 (q65 : Int) : (List FleetTask) → Nat → (List Int) → Option (List Int)
  | [], _, q86 => some q86
  | x78 :: rest79, k77, q86 => (((if (x78.Dep == q65) then ((apd q86 [((k77 : Nat) : Int)]).bind fun x113 => some x113) else some q86) : Option (List Int)).bind fun q103 => Fishref2inOrder.loop2 q65 rest79 (k77 + 1) q103)
def Fishref2inOrder.loop1 (x0 : List FleetTask) : Nat → (List Int) → Int → Option ((List Int) × Int)
  | 0, _, _ => none
  | n54 + 1, q58, q65 => (bnd ((if decide (((q58.length : Nat) : Int) < ((x0).length : Int)) then decide (q65 ≤ 28800) else false) : Bool) fun q71 => (if q71 then ((Fishref2inOrder.loop2 q65 x0 0 q58).bind fun q86 => Fishref2inOrder.loop1 x0 n54 q86 (w64 (q65 + 1))) else some (q58, q65)))
def Fishref2inOrder (fu : Nat) (x0 : List FleetTask) : Option (List Int) := ((Fishref2inOrder.loop1 x0 fu [] 0).bind fun q53 => match q53 with | (q58, _) => some q58)
def Fishref2Code.loop1 (x0 : List FleetTask) (x1 : List Int) (x2 : FleetLimits) : (List Int) → Nat → Int → Option (Out Int Int)
  | [], _, q103 => some (.next q103)
  | x95 :: rest96, k94, q103 => ((gx x0 x95).bind fun x109 => ((gx x0 x95).bind fun x118 => (((if decide (((k94 : Nat) : Int) > 0) then ((gx x1 (w64 (((k94 : Nat) : Int) - 1))).bind fun x133 => ((gx x0 x133).bind fun x142 => ((((gx x0 x95).bind fun x158 => (if (x142.To != x158.From) then some true else ((gx x0 x95).bind fun x168 => some (decide (x168.Dep < (w64 (x142.Arr + x2.Change))))))) : Option Bool).bind fun q156 => (if q156 then some (.ret 1) else some (.next ()))))) else some (.next ())) : Option (Out Int Unit)).bind fun q128 => match q128 with | .ret r => some (.ret r) | .next () => Fishref2Code.loop1 x0 x1 x2 rest96 (k94 + 1) (w64 (q103 + (w64 (x109.Arr - x118.Dep)))))))
def Fishref2Code.loop2 (x0 : List FleetTask) (x1 : List Int) (x2 : FleetLimits) : (List Int) → Nat → Int → Option (Out Int Int)
  | [], _, q191 => some (.next q191)
  | x183 :: rest184, k182, q191 => (((if decide (((k182 + 1 : Nat) : Int) < ((x1).length : Int)) then ((gx x1 ((k182 + 1 : Nat) : Int)).bind fun x204 => ((gx x0 x204).bind fun x213 => ((gx x0 x183).bind fun x222 => some (decide ((w64 (x213.Dep - x222.Arr)) ≥ x2.Break))))) else some false) : Option Bool).bind fun q201 => (((if q201 then ((gx x0 x183).bind fun x238 => some (decide ((w64 (x238.Arr - q191)) > x2.After))) else (if (((k182 + 1 : Nat) : Int) == ((x1).length : Int)) then ((gx x0 x183).bind fun x248 => some (decide ((w64 (x248.Arr - q191)) > x2.After))) else some false)) : Option Bool).bind fun q235 => (if q235 then some (.ret 4) else (((if q201 then ((gx x1 ((k182 + 1 : Nat) : Int)).bind fun x265 => ((gx x0 x265).bind fun x274 => some x274.Dep)) else some q191) : Option Int).bind fun q262 => Fishref2Code.loop2 x0 x1 x2 rest184 (k182 + 1) q262))))
def Fishref2Code (x0 : List FleetTask) (x1 : List Int) (x2 : FleetLimits) : Option Int := ((gx x1 0).bind fun x53 => ((gx x0 x53).bind fun x62 => ((gx x1 (w64 (((x1).length : Int) - 1))).bind fun x71 => ((gx x0 x71).bind fun x80 => ((Fishref2Code.loop1 x0 x1 x2 x1 0 0).bind fun q93 => match q93 with | .ret r => some r | .next q103 => (if decide ((w64 (x80.Arr - x62.Dep)) > x2.Long) then some 2 else (if decide (q103 > x2.Work) then some 3 else ((Fishref2Code.loop2 x0 x1 x2 x1 0 x62.Dep).bind fun q181 => match q181 with | .ret r => some r | .next _ => (if (x80.To != x62.From) then some 5 else some 0)))))))))
def MathBitsLen64 (x0 : Int) : Option Int := (bnd ((if decide (x0 ≥ 4294967296) then (Int.fdiv x0 (2 ^ (min (Int.toNat 32) (IntKind.bits .u64))), 32) else (x0, 0)) : Int × Int) fun q52 => match q52 with | (q55, q56) => (bnd ((if decide (q55 ≥ 65536) then (Int.fdiv q55 (2 ^ (min (Int.toNat 16) (IntKind.bits .u64))), w64 (q56 + 16)) else (q55, q56)) : Int × Int) fun q60 => match q60 with | (q63, q64) => (bnd ((if decide (q63 ≥ 256) then (Int.fdiv q63 (2 ^ (min (Int.toNat 8) (IntKind.bits .u64))), w64 (q64 + 8)) else (q63, q64)) : Int × Int) fun q68 => match q68 with | (q71, q72) => ((sgx (str [0, 1, 2, 2, 3, 3, 3, 3, 4, 4, 4, 4, 4, 4, 4, 4, 5, 5, 5, 5, 5, 5, 5, 5, 5, 5, 5, 5, 5, 5, 5, 5, 6, 6, 6, 6, 6, 6, 6, 6, 6, 6, 6, 6, 6, 6, 6, 6, 6, 6, 6, 6, 6, 6, 6, 6, 6, 6, 6, 6, 6, 6, 6, 6, 7, 7, 7, 7, 7, 7, 7, 7, 7, 7, 7, 7, 7, 7, 7, 7, 7, 7, 7, 7, 7, 7, 7, 7, 7, 7, 7, 7, 7, 7, 7, 7, 7, 7, 7, 7, 7, 7, 7, 7, 7, 7, 7, 7, 7, 7, 7, 7, 7, 7, 7, 7, 7, 7, 7, 7, 7, 7, 7, 7, 7, 7, 7, 7, 8, 8, 8, 8, 8, 8, 8, 8, 8, 8, 8, 8, 8, 8, 8, 8, 8, 8, 8, 8, 8, 8, 8, 8, 8, 8, 8, 8, 8, 8, 8, 8, 8, 8, 8, 8, 8, 8, 8, 8, 8, 8, 8, 8, 8, 8, 8, 8, 8, 8, 8, 8, 8, 8, 8, 8, 8, 8, 8, 8, 8, 8, 8, 8, 8, 8, 8, 8, 8, 8, 8, 8, 8, 8, 8, 8, 8, 8, 8, 8, 8, 8, 8, 8, 8, 8, 8, 8, 8, 8, 8, 8, 8, 8, 8, 8, 8, 8, 8, 8, 8, 8, 8, 8, 8, 8, 8, 8, 8, 8, 8, 8, 8, 8, 8, 8, 8, 8, 8, 8, 8, 8, 8, 8, 8, 8, 8, 8]) (IntKind.wrap .u8 q71)).bind fun x75 => some (w64 (q72 + (w64 x75)))))))
def MathBitsLen (x0 : Int) : Option Int := ((MathBitsLen64 x0).bind fun q51 => some q51)
def CmpisNaNint (x0 : Int) : Bool := (x0 != x0)
def CmpCompareint (x0 : Int) (x1 : Int) : Int := (if (CmpisNaNint x0) then (if (CmpisNaNint x1) then 0 else (-1)) else (if (CmpisNaNint x1) then 1 else (if decide (x0 < x1) then (-1) else (if decide (x0 > x1) then 1 else 0))))
def SlicesCompareLint.loop1 (x1 : List Int) : (List Int) → Nat → Option (Out Int Unit)
  | [], _ => some (.next ())
  | x54 :: rest55, k53 => (if decide (((k53 : Nat) : Int) ≥ ((x1).length : Int)) then some (.ret 1) else ((gx x1 ((k53 : Nat) : Int)).bind fun x68 => (if ((CmpCompareint x54 x68) != 0) then some (.ret (CmpCompareint x54 x68)) else SlicesCompareLint.loop1 x1 rest55 (k53 + 1))))
def SlicesCompareLint (x0 : List Int) (x1 : List Int) : Option Int := ((SlicesCompareLint.loop1 x1 x0 0).bind fun q52 => match q52 with | .ret r => some r | .next () => (if decide (((x0).length : Int) < ((x1).length : Int)) then some (-1) else some 0))
def SlicesinsertionSortCmpFuncLint_v1.loop2 (x1 : Int) : Nat → Int → (List (List Int)) → Option (Int × (List (List Int)))
  | 0, _, _ => none
  | n74 + 1, q78, q79 => (((if decide (q78 > x1) then ((gx q79 q78).bind fun x93 => ((gx q79 (w64 (q78 - 1))).bind fun x106 => ((SlicesCompareLint x93 x106).bind fun q119 => some (decide (q119 < 0))))) else some false) : Option Bool).bind fun q90 => (if q90 then ((gx q79 (w64 (q78 - 1))).bind fun x123 => ((gx q79 q78).bind fun x136 => ((ix q79 q78).bind fun _ => ((sx q79 q78 x123).bind fun x154 => ((ix x154 (w64 (q78 - 1))).bind fun _ => ((sx x154 (w64 (q78 - 1)) x136).bind fun x164 => SlicesinsertionSortCmpFuncLint_v1.loop2 x1 n74 (w64 (q78 - 1)) x164)))))) else some (q78, q79)))
def SlicesinsertionSortCmpFuncLint_v1.loop1 (x1 : Int) (x2 : Int) (fu : Nat) : Nat → Int → (List (List Int)) → Option (Int × (List (List Int)))
  | 0, _, _ => none
  | n59 + 1, q63, q64 => (if decide (q63 < x2) then ((SlicesinsertionSortCmpFuncLint_v1.loop2 x1 fu q63 q64).bind fun q73 => match q73 with | (_, q79) => SlicesinsertionSortCmpFuncLint_v1.loop1 x1 x2 fu n59 (w64 (q63 + 1)) q79) else some (q63, q64))
def SlicesinsertionSortCmpFuncLint_v1 (fu : Nat) (x0 : List (List Int)) (x1 : Int) (x2 : Int) : Option (List (List Int)) := ((SlicesinsertionSortCmpFuncLint_v1.loop1 x1 x2 fu fu (w64 (x1 + 1)) x0).bind fun q58 => match q58 with | (_, q64) => some q64)
def SlicespdqsortCmpFuncLint_v1.loop1 (fu : Nat) : Nat → Int → Int → Int → Bool → Bool → (List (List Int)) → Option (Out (List (List Int)) (Int × Int × Int × Bool × Bool × (List (List Int))))
  | 0, _, _, _, _, _, _ => none
  | n59 + 1, q63, q64, q65, q66, _, q68 => (if decide ((w64 (q64 - q63)) ≤ 12) then ((SlicesinsertionSortCmpFuncLint_v1 fu q68 q63 q64).bind fun q76 => some (.ret q76)) else (if (q65 == 0) then none else (((if !q66 then none else some (q65, q68)) : Option (Int × (List (List Int)))).bind fun q83 => match q83 with | (_, _) => none)))
def SlicespdqsortCmpFuncLint_v1 (fu : Nat) (x0 : List (List Int)) (x1 : Int) (x2 : Int) (x3 : Int) : Option (List (List Int)) := ((SlicespdqsortCmpFuncLint_v1.loop1 fu fu x1 x2 x3 true true x0).bind fun q58 => match q58 with | .ret r => some r | .next _ => none)
def SlicesSortFuncLLint_v1 (fu : Nat) (x0 : List (List Int)) : Option (List (List Int)) := ((MathBitsLen (IntKind.wrap .u64 ((x0.length : Nat) : Int))).bind fun q57 => ((SlicespdqsortCmpFuncLint_v1 fu x0 0 ((x0.length : Nat) : Int) q57).bind fun q59 => some q59))
def SlicesCompareFuncLLint_v1.loop1 (x1 : List (List Int)) : (List (List Int)) → Nat → Option (Out Int Unit)
  | [], _ => some (.next ())
  | x54 :: rest55, k53 => (if decide (((k53 : Nat) : Int) ≥ ((x1).length : Int)) then some (.ret 1) else ((gx x1 ((k53 : Nat) : Int)).bind fun x71 => ((SlicesCompareLint x54 x71).bind fun q83 => (if (q83 != 0) then some (.ret q83) else SlicesCompareFuncLLint_v1.loop1 x1 rest55 (k53 + 1)))))
def SlicesCompareFuncLLint_v1 (x0 : List (List Int)) (x1 : List (List Int)) : Option Int := ((SlicesCompareFuncLLint_v1.loop1 x1 x0 0).bind fun q52 => match q52 with | .ret r => some r | .next () => (if decide (((x0).length : Int) < ((x1).length : Int)) then some (-1) else some 0))
def Fishref2DutiesOf_1_v1.loop1 (x0 : Int) (y0 : List Int) (y3 : List FleetTask) (y4 : FleetLimits) (self_Fishref2DutiesOf_1_v1 : Int → (List Int) → (List (List Int)) → (List FleetTask) → FleetLimits → Bool → (List (List Int)) → Option ((List (List Int)) × Bool × (List (List Int)))) : Nat → Nat → (List (List Int)) → Bool → (List (List Int)) → Option ((List (List Int)) × Bool × (List (List Int)))
  | 0, _, q88, q95, q96 => some (q88, q95, q96)
  | rest80 + 1, k78, q88, q95, q96 => ((gx q88 ((k78 : Nat) : Int)).bind fun x102 => ((gx y0 x0).bind fun x112 => ((apd x102 [x112]).bind fun x124 => ((ix q88 ((k78 : Nat) : Int)).bind fun _ => ((sx q88 ((k78 : Nat) : Int) x124).bind fun x133 => ((self_Fishref2DutiesOf_1_v1 (w64 (x0 + 1)) y0 x133 y3 y4 q95 q96).bind fun q138 => ((gx q138.1 ((k78 : Nat) : Int)).bind fun x151 => ((gx q138.1 ((k78 : Nat) : Int)).bind fun x161 => ((cutl x151 0 (w64 (((x161).length : Int) - 1))).bind fun x172 => ((ix q138.1 ((k78 : Nat) : Int)).bind fun _ => ((sx q138.1 ((k78 : Nat) : Int) x172).bind fun x184 => Fishref2DutiesOf_1_v1.loop1 x0 y0 y3 y4 self_Fishref2DutiesOf_1_v1 rest80 (k78 + 1) x184 q138.2.1 q138.2.2)))))))))))
def Fishref2DutiesOf_1_v1.loop2 (y1 : List (List Int)) (y3 : List FleetTask) (y4 : FleetLimits) (y5 : Bool) (y6 : List (List Int)) : Nat → Nat → (List (List Int)) → Option (Out ((List (List Int)) × Bool × (List (List Int))) (List (List Int)))
  | 0, _, q245 => some (.next q245)
  | rest237 + 1, k235, q245 => ((gx y1 ((k235 : Nat) : Int)).bind fun x253 => ((Fishref2Code y3 x253 y4).bind fun q264 => (if (q264 != 0) then some (.ret (y1, y5, y6)) else ((SlicesCloneLint x253).bind fun q272 => ((apd q245 [q272]).bind fun x285 => Fishref2DutiesOf_1_v1.loop2 y1 y3 y4 y5 y6 rest237 (k235 + 1) x285)))))
def Fishref2DutiesOf_1_v1 : Nat → Int → (List Int) → (List (List Int)) → (List FleetTask) → FleetLimits → Bool → (List (List Int)) → Option ((List (List Int)) × Bool × (List (List Int)))
  | 0, _, _, _, _, _, _, _ => none
  | fu + 1, x0, y0, y1, y3, y4, y5, y6 => (if decide (x0 < ((y0.length : Nat) : Int)) then ((Fishref2DutiesOf_1_v1.loop1 x0 y0 y3 y4 (Fishref2DutiesOf_1_v1 fu) y1.length 0 y1 y5 y6).bind fun q77 => match q77 with | (q88, q95, q96) => ((gx y0 x0).bind fun x191 => ((apd q88 [[x191]]).bind fun x205 => (((Fishref2DutiesOf_1_v1 fu) (w64 (x0 + 1)) y0 x205 y3 y4 q95 q96).bind fun q211 => ((cutl q211.1 0 (w64 (((q211.1.length : Nat) : Int) - 1))).bind fun x223 => some (x223, q211.2.1, q211.2.2)))))) else ((Fishref2DutiesOf_1_v1.loop2 y1 y3 y4 y5 y6 y1.length 0 []).bind fun q234 => match q234 with | .ret r => some r | .next q245 => ((SlicesSortFuncLLint_v1 fu q245).bind fun q295 => (((if !y5 then some true else (if decide (((q245.length : Nat) : Int) < ((y6).length : Int)) then some true else (if (((q245.length : Nat) : Int) == ((y6).length : Int)) then ((SlicesCompareFuncLLint_v1 q295 y6).bind fun q309 => some (decide (q309 < 0))) else some false))) : Option Bool).bind fun q304 => (bnd ((if q304 then (true, q295) else (y5, y6)) : Bool × (List (List Int))) fun q316 => match q316 with | (q319, q320) => some (y1, q319, q320))))))
def Fishref2DutiesOf (fu : Nat) (x0 : List FleetTask) (x1 : FleetLimits) : Option ((List (List Int)) × Int) := (if ((Fishref2DutiesFault x0 x1) != 0) then some ([], (Fishref2DutiesFault x0 x1)) else ((Fishref2inOrder fu x0).bind fun q54 => ((Fishref2DutiesOf_1_v1 fu 0 q54 [] x0 x1 false []).bind fun q68 => (if !q68.2.1 then some ([], 9) else some (q68.2.2, 0)))))
def SlicesIndexLint.loop1 (x1 : Int) : (List Int) → Nat → Out Int Unit
  | [], _ => (.next ())
  | x54 :: rest55, k53 => (if (x1 == x54) then (.ret ((k53 : Nat) : Int)) else SlicesIndexLint.loop1 x1 rest55 (k53 + 1))
def SlicesIndexLint (x0 : List Int) (x1 : Int) : Int := (bnd (SlicesIndexLint.loop1 x1 x0 0) fun q52 => match q52 with | .ret r => r | .next () => (-1))
def SlicesContainsLint (x0 : List Int) (x1 : Int) : Bool := decide ((SlicesIndexLint x0 x1) ≥ 0)
def FleetJudge.loop1 (x0 : List FleetTask) (x1 : List Int) : (List Int) → Nat → Option (Out (Int × Int) Unit)
  | [], _ => some (.next ())
  | x57 :: rest58, k56 => (if !(Fleetwithin x57 0 (w64 (((x0).length : Int) - 1))) then some (.ret (0, 2)) else ((cutl x1 0 ((k56 : Nat) : Int)).bind fun x71 => (if (SlicesContainsLint x71 x57) then some (.ret (0, 6)) else FleetJudge.loop1 x0 x1 rest58 (k56 + 1))))
def FleetJudge (x0 : List FleetTask) (x1 : List Int) (x2 : FleetLimits) : Option (Int × Int) := (if ((FleetcheckTasks x0 x2) != 0) then some (0, (FleetcheckTasks x0 x2)) else (if (((x1).length : Int) == 0) then some (0, 1) else ((FleetJudge.loop1 x0 x1 x1 0).bind fun q55 => match q55 with | .ret r => some r | .next () => ((Fleetjudge x0 x1 x2).bind fun q81 => some (q81, 0)))))
def Fishlaw2crews : Option Bool := ((FleetJudge [(FleetTask.mk 0 1 0 100 0 1)] [0] (FleetLimits.mk 0 100 100 100 0 0 1)).bind fun q63 => (bnd ((if (q63.2 == 0) then (q63.1 == 5) else false) : Bool) fun q69 => some q69))
def SlicesEqualLint.loop1 (x1 : List Int) : (List Int) → Nat → Option (Out Bool Unit)
  | [], _ => some (.next ())
  | x55 :: rest56, k54 => ((gx x1 ((k54 : Nat) : Int)).bind fun x68 => (if (x55 != x68) then some (.ret false) else SlicesEqualLint.loop1 x1 rest56 (k54 + 1)))
def SlicesEqualLint (x0 : List Int) (x1 : List Int) : Option Bool := (if (((x0).length : Int) != ((x1).length : Int)) then some false else ((SlicesEqualLint.loop1 x1 x0 0).bind fun q53 => match q53 with | .ret r => some r | .next () => some true))
def SlicesEqualFuncLLint_v1.loop1 (x1 : List (List Int)) : (List (List Int)) → Nat → Option (Out Bool Unit)
  | [], _ => some (.next ())
  | x55 :: rest56, k54 => ((gx x1 ((k54 : Nat) : Int)).bind fun x71 => ((SlicesEqualLint x55 x71).bind fun q83 => (if !q83 then some (.ret false) else SlicesEqualFuncLLint_v1.loop1 x1 rest56 (k54 + 1))))
def SlicesEqualFuncLLint_v1 (x0 : List (List Int)) (x1 : List (List Int)) : Option Bool := (if (((x0).length : Int) != ((x1).length : Int)) then some false else ((SlicesEqualFuncLLint_v1.loop1 x1 x0 0).bind fun q53 => match q53 with | .ret r => some r | .next () => some true))
def Fishlaw2lists (x0 : List (List Int)) (x1 : List (List Int)) : Option Bool := ((SlicesEqualFuncLLint_v1 x0 x1).bind fun q51 => some q51)
def Fishlaw2FleetDuties (fu : Nat) (x0 : List FleetTask) (x1 : FleetLimits) : Option Bool := ((FleetDuties fu x0 x1).bind fun q52 => ((Fishref2DutiesOf fu x0 x1).bind fun q62 => ((((Fishlaw2crews).bind fun q75 => (if q75 then (if (q52.2 == q62.2) then ((Fishlaw2lists q52.1 q62.1).bind fun q79 => some q79) else some false) else some false)) : Option Bool).bind fun q73 => some q73)))
end Go.Fp
