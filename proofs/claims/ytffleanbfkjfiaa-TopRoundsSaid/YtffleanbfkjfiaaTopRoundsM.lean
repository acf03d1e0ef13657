/- The mirrors of the functions that TopRounds reaches: plain Lean functions on data. No condition. -/
import Derived.Test.YtffleanbfkjfiaaFpCopy
namespace Go.Fp
structure MendArc where
  From : Int
  To : Int
  Len : Int
  deriving DecidableEq, Inhabited
-- MendArc is of one size
def MendArc.cells (x : MendArc) : List Go.Value := [.int .i64 x.From, .int .i64 x.To, .int .i64 x.Len]
def RMendArc : Rd MendArc := fun _ cs x => cs = x.cells
theorem RMendArc.mono : Rmono RMendArc := fun _ _ _ _ _ h => h
theorem RMendArc.one : Rone RMendArc := by intro s cs x h; subst h; rfl

structure MendChoice where
  Ways : List (List MendArc)
  deriving DecidableEq, Inhabited
def szMendChoice (x : MendChoice) : Nat := (szL (szL sz1)) x.Ways + 1
def RMendChoice : Rd MendChoice := fun s cs x => ∃ a0 c0, cs = [.slice a0 x.Ways.length c0] ∧ Sl 1 (RL 3 RMendArc) s a0 c0 x.Ways
theorem RMendChoice.one : Rone RMendChoice := by rintro s cs x ⟨a0, c0, rfl, _⟩; rfl
theorem RMendChoice.mono : Rmono RMendChoice := fun _ _ h _ _ ⟨a0, c0, e, h0⟩ => ⟨a0, c0, e, h0.mono (RL.mono RMendArc.mono) h⟩

structure MendFirst where
  Event : Int
  Period : Int
  Secs : Int
  deriving DecidableEq, Inhabited
-- MendFirst is of one size
def MendFirst.cells (x : MendFirst) : List Go.Value := [.int .i64 x.Event, .int .i64 x.Period, .int .i64 x.Secs]
def RMendFirst : Rd MendFirst := fun _ cs x => cs = x.cells
theorem RMendFirst.mono : Rmono RMendFirst := fun _ _ _ _ _ h => h
theorem RMendFirst.one : Rone RMendFirst := by intro s cs x h; subst h; rfl

structure MendGraph where
  Ready : List Int
  Last : List Int
  Due : List Int
  Arcs : List MendArc
  Choices : List MendChoice
  deriving DecidableEq, Inhabited
def szMendGraph (x : MendGraph) : Nat := (szL sz1) x.Ready + (szL sz1) x.Last + (szL sz1) x.Due + (szL sz1) x.Arcs + (szL szMendChoice) x.Choices + 1
def RMendGraph : Rd MendGraph := fun s cs x => ∃ a0 c0 a1 c1 a2 c2 a3 c3 a4 c4, cs = [.slice a0 x.Ready.length c0, .slice a1 x.Last.length c1, .slice a2 x.Due.length c2, .slice a3 x.Arcs.length c3, .slice a4 x.Choices.length c4] ∧ Sl 1 (RI .i64) s a0 c0 x.Ready ∧ Sl 1 (RI .i64) s a1 c1 x.Last ∧ Sl 1 (RI .i64) s a2 c2 x.Due ∧ Sl 3 RMendArc s a3 c3 x.Arcs ∧ Sl 1 RMendChoice s a4 c4 x.Choices
theorem RMendGraph.one : Rone RMendGraph := by rintro s cs x ⟨a0, c0, a1, c1, a2, c2, a3, c3, a4, c4, rfl, _⟩; rfl
theorem RMendGraph.mono : Rmono RMendGraph := fun _ _ h _ _ ⟨a0, c0, a1, c1, a2, c2, a3, c3, a4, c4, e, h0, h1, h2, h3, h4⟩ => ⟨a0, c0, a1, c1, a2, c2, a3, c3, a4, c4, e, h0.mono RI.mono h, h1.mono RI.mono h, h2.mono RI.mono h, h3.mono RMendArc.mono h, h4.mono RMendChoice.mono h⟩

structure MendLink where
  From : Int
  To : Int
  Len : Int
  Back : Int
  deriving DecidableEq, Inhabited
-- MendLink is of one size
def MendLink.cells (x : MendLink) : List Go.Value := [.int .i64 x.From, .int .i64 x.To, .int .i64 x.Len, .int .i64 x.Back]
def RMendLink : Rd MendLink := fun _ cs x => cs = x.cells
theorem RMendLink.mono : Rmono RMendLink := fun _ _ _ _ _ h => h
theorem RMendLink.one : Rone RMendLink := by intro s cs x h; subst h; rfl

structure MendRound where
  Period : Int
  Plan : List Int
  Links : List MendLink
  deriving DecidableEq, Inhabited
def szMendRound (x : MendRound) : Nat := (szL sz1) x.Plan + (szL sz1) x.Links + 1
def RMendRound : Rd MendRound := fun s cs x => ∃ a0 c0 a1 c1, cs = [.int .i64 x.Period, .slice a0 x.Plan.length c0, .slice a1 x.Links.length c1] ∧ Sl 1 (RI .i64) s a0 c0 x.Plan ∧ Sl 4 RMendLink s a1 c1 x.Links
theorem RMendRound.one : Rone RMendRound := by rintro s cs x ⟨a0, c0, a1, c1, rfl, _⟩; rfl
theorem RMendRound.mono : Rmono RMendRound := fun _ _ h _ _ ⟨a0, c0, a1, c1, e, h0, h1⟩ => ⟨a0, c0, a1, c1, e, h0.mono RI.mono h, h1.mono RMendLink.mono h⟩

structure MendSolver where
  times : List Int
  last : List Int
  outs : List (List MendArc)
  deriving DecidableEq, Inhabited
def szMendSolver (x : MendSolver) : Nat := (szL sz1) x.times + (szL sz1) x.last + (szL (szL sz1)) x.outs + 1
def RMendSolver : Rd MendSolver := fun s cs x => ∃ a0 c0 a1 c1 a2 c2, cs = [.slice a0 x.times.length c0, .slice a1 x.last.length c1, .slice a2 x.outs.length c2] ∧ Sl 1 (RI .i64) s a0 c0 x.times ∧ Sl 1 (RI .i64) s a1 c1 x.last ∧ Sl 1 (RL 3 RMendArc) s a2 c2 x.outs
theorem RMendSolver.one : Rone RMendSolver := by rintro s cs x ⟨a0, c0, a1, c1, a2, c2, rfl, _⟩; rfl
theorem RMendSolver.mono : Rmono RMendSolver := fun _ _ h _ _ ⟨a0, c0, a1, c1, a2, c2, e, h0, h1, h2⟩ => ⟨a0, c0, a1, c1, a2, c2, e, h0.mono RI.mono h, h1.mono RI.mono h, h2.mono (RL.mono RMendArc.mono) h⟩

structure PlanRule where
  From : Int
  To : Int
  Min : Int
  Max : Int
  Weight : Int
  deriving DecidableEq, Inhabited
-- PlanRule is of one size
def PlanRule.cells (x : PlanRule) : List Go.Value := [.int .i64 x.From, .int .i64 x.To, .int .i64 x.Min, .int .i64 x.Max, .int .i64 x.Weight]
def RPlanRule : Rd PlanRule := fun _ cs x => cs = x.cells
theorem RPlanRule.mono : Rmono RPlanRule := fun _ _ _ _ _ h => h
theorem RPlanRule.one : Rone RPlanRule := by intro s cs x h; subst h; rfl

structure PlanPeriodic where
  Period : Int
  Events : Int
  Rules : List PlanRule
  deriving DecidableEq, Inhabited
def szPlanPeriodic (x : PlanPeriodic) : Nat := (szL sz1) x.Rules + 1
def RPlanPeriodic : Rd PlanPeriodic := fun s cs x => ∃ a0 c0, cs = [.int .i64 x.Period, .int .i64 x.Events, .slice a0 x.Rules.length c0] ∧ Sl 5 RPlanRule s a0 c0 x.Rules
theorem RPlanPeriodic.one : Rone RPlanPeriodic := by rintro s cs x ⟨a0, c0, rfl, _⟩; rfl
theorem RPlanPeriodic.mono : Rmono RPlanPeriodic := fun _ _ h _ _ ⟨a0, c0, e, h0⟩ => ⟨a0, c0, e, h0.mono RPlanRule.mono h⟩
def Mendwithin (x0 : Int) (x1 : Int) (x2 : Int) : Bool := (bnd ((if decide (x0 ≥ x1) then decide (x0 ≤ x2) else false) : Bool) fun q55 => q55)
def MendcheckArcs.loop1 (x0 : MendGraph) : (List MendArc) → Out Int Unit
  | [] => (.next ())
  | x55 :: rest56 => (bnd ((if !(Mendwithin x55.From 0 (w64 (((x0.Ready).length : Int) - 1))) then true else !(Mendwithin x55.To 0 (w64 (((x0.Ready).length : Int) - 1)))) : Bool) fun q73 => (if q73 then (.ret 3) else (if (x55.From == x55.To) then (.ret 1) else (if !(Mendwithin x55.Len (-28800) 28800) then (.ret 2) else MendcheckArcs.loop1 x0 rest56))))
def MendcheckArcs (x0 : MendGraph) (x1 : List MendArc) : Int := (bnd (MendcheckArcs.loop1 x0 x1) fun q53 => match q53 with | .ret r => r | .next () => 0)
def MendCheckGraph.loop1 (x0 : MendGraph) : (List Int) → Nat → Option (Out Int Unit)
  | [], _ => some (.next ())
  | x72 :: rest73, k71 => (((if !(Mendwithin x72 0 28800) then some true else ((gx x0.Last ((k71 : Nat) : Int)).bind fun x92 => (if !(Mendwithin x92 (-1) 28800) then some true else ((gx x0.Due ((k71 : Nat) : Int)).bind fun x102 => some (!(Mendwithin x102 (-1) 28800)))))) : Option Bool).bind fun q85 => (if q85 then some (.ret 2) else MendCheckGraph.loop1 x0 rest73 (k71 + 1)))
def MendCheckGraph.loop3 (x0 : MendGraph) : (List (List MendArc)) → Out Int Unit
  | [] => (.next ())
  | x137 :: rest138 => (if decide (((x137).length : Int) > 4) then (.ret 4) else (if ((MendcheckArcs x0 x137) != 0) then (.ret (MendcheckArcs x0 x137)) else MendCheckGraph.loop3 x0 rest138))
def MendCheckGraph.loop2 (x0 : MendGraph) : (List MendChoice) → Out Int Unit
  | [] => (.next ())
  | x116 :: rest117 => (if decide (((x116.Ways).length : Int) > 3) then (.ret 4) else (bnd (MendCheckGraph.loop3 x0 x116.Ways) fun q135 => match q135 with | .ret r => (.ret r) | .next () => MendCheckGraph.loop2 x0 rest117))
def MendCheckGraph (x0 : MendGraph) : Option Int := (bnd ((if decide (((x0.Ready).length : Int) > 24) then true else (if decide (((x0.Arcs).length : Int) > 250) then true else decide (((x0.Choices).length : Int) > 300))) : Bool) fun q56 => (if q56 then some 4 else (bnd ((if (((x0.Last).length : Int) != ((x0.Ready).length : Int)) then true else (((x0.Due).length : Int) != ((x0.Ready).length : Int))) : Bool) fun q65 => (if q65 then some 1 else ((MendCheckGraph.loop1 x0 x0.Ready 0).bind fun q70 => match q70 with | .ret r => some r | .next () => (if ((MendcheckArcs x0 x0.Arcs) != 0) then some (MendcheckArcs x0 x0.Arcs) else (bnd (MendCheckGraph.loop2 x0 x0.Choices) fun q114 => match q114 with | .ret r => some r | .next () => some 0)))))))
def MendcheckPick.loop1 (x0 : MendGraph) : (List Int) → Nat → Option (Out Int Unit)
  | [], _ => some (.next ())
  | x59 :: rest60, k58 => ((gx x0.Choices ((k58 : Nat) : Int)).bind fun x72 => (if !(Mendwithin x59 0 ((x72.Ways).length : Int)) then some (.ret 2) else MendcheckPick.loop1 x0 rest60 (k58 + 1)))
def MendcheckPick (x0 : MendGraph) (x1 : List Int) : Option Int := ((MendCheckGraph x0).bind fun q52 => (if (q52 != 0) then some q52 else (if (((x1).length : Int) != ((x0.Choices).length : Int)) then some 1 else ((MendcheckPick.loop1 x0 x1 0).bind fun q57 => match q57 with | .ret r => some r | .next () => some 0))))
def SlicesCloneLint (x0 : List Int) : Option (List Int) := ((apd [] x0).bind fun x56 => some x56)
def SlicesCloneLLmendArc_v1 (x0 : List (List MendArc)) : Option (List (List MendArc)) := ((apd [] x0).bind fun x56 => some x56)
def SlicesCloneLmendArc (x0 : List MendArc) : Option (List MendArc) := ((apd [] x0).bind fun x56 => some x56)
def MendSolverwith_1_v1 (x0 : MendArc) (y1 : List Int) (y2 : Bool) (y3 : List Bool) (y4 : List Int) (y5 : MendSolver) : Option ((List Int) × (List Bool) × (List Int) × Bool × (List Int)) := ((gx y5.times x0.From).bind fun x78 => ((gx y5.times x0.To).bind fun x88 => (if decide ((w64 (x78 + x0.Len)) ≤ x88) then some (y1, y3, y5.times, y2, y4) else ((ix y5.times x0.To).bind fun _ => ((sx y5.times x0.To (w64 (x78 + x0.Len))).bind fun x105 => ((gx y1 x0.To).bind fun x110 => ((ix y1 x0.To).bind fun _ => ((sx y1 x0.To (w64 (x110 + 1))).bind fun x125 => (((if y2 then ((gx y5.last x0.To).bind fun x138 => (if decide (x138 < 0) then (if decide ((w64 (x78 + x0.Len)) ≤ 1099511627776) then ((gx x125 x0.To).bind fun x149 => some (decide (x149 ≤ 65536))) else some false) else ((gx y5.last x0.To).bind fun x159 => (if decide ((w64 (x78 + x0.Len)) ≤ x159) then (if decide ((w64 (x78 + x0.Len)) ≤ 1099511627776) then ((gx x125 x0.To).bind fun x170 => some (decide (x170 ≤ 65536))) else some false) else some false)))) else some false) : Option Bool).bind fun q134 => ((gx y3 x0.To).bind fun x180 => (((if !x180 then ((ix y3 x0.To).bind fun _ => ((sx y3 x0.To true).bind fun x214 => ((apd y4 [x0.To]).bind fun x220 => some (x214, x220)))) else some (y3, y4)) : Option ((List Bool) × (List Int))).bind fun q191 => match q191 with | (q194, q200) => some (x125, q194, x105, q134, q200))))))))))))
def Mendgreatestint.loop1 : (List Int) → Int → Int
  | [], q62 => q62
  | x54 :: rest55, q62 => Mendgreatestint.loop1 rest55 (mx q62 x54)
def Mendgreatestint (x0 : Int) (x1 : List Int) : Int := (bnd (Mendgreatestint.loop1 x1 x0) fun q62 => q62)
def MendSolverbound_v1.loop2 : (List MendArc) → Int → Int
  | [], q93 => q93
  | x85 :: rest86, q93 => MendSolverbound_v1.loop2 rest86 (mx q93 x85.Len)
def MendSolverbound_v1.loop1 (y0 : MendSolver) : Nat → Nat → Int → Option Int
  | 0, _, q67 => some q67
  | rest59 + 1, k57, q67 => ((gx y0.outs ((k57 : Nat) : Int)).bind fun x69 => (bnd (MendSolverbound_v1.loop2 x69 0) fun q93 => MendSolverbound_v1.loop1 y0 rest59 (k57 + 1) (w64 (q67 + q93))))
def MendSolverbound_v1 (y0 : MendSolver) : Option Int := ((MendSolverbound_v1.loop1 y0 y0.outs.length 0 (Mendgreatestint 0 y0.times)).bind fun q67 => some q67)
def MendSolverwith_v1.loop1 : (List MendArc) → (List (List MendArc)) → Option (List (List MendArc))
  | [], q86 => some q86
  | x78 :: rest79, q86 => ((gx q86 x78.From).bind fun x99 => ((SlicesCloneLmendArc x99).bind fun q112 => ((apd q112 [x78]).bind fun x121 => ((ix q86 x78.From).bind fun _ => ((sx q86 x78.From x121).bind fun x135 => MendSolverwith_v1.loop1 rest79 x135)))))
def MendSolverwith_v1.loop2 (y0 : MendSolver) (q86 : List (List MendArc)) : (List MendArc) → (List Bool) → (List Int) → (List Int) → (List Int) → Bool → Option ((List Bool) × (List Int) × (List Int) × (List Int) × Bool)
  | [], q169, q175, q181, q187, q194 => some (q169, q175, q181, q187, q194)
  | x161 :: rest162, q169, q175, q181, q187, q194 => ((MendSolverwith_1_v1 x161 q175 q194 q169 q187 (MendSolver.mk q181 y0.last q86)).bind fun q201 => MendSolverwith_v1.loop2 y0 q86 rest162 q201.2.1 q201.1 q201.2.2.1 q201.2.2.2.2 q201.2.2.2.1)
def MendSolverwith_v1.loop4 (y0 : MendSolver) (q86 : List (List MendArc)) : (List MendArc) → (List Bool) → (List Int) → (List Int) → (List Int) → Bool → Option ((List Bool) × (List Int) × (List Int) × (List Int) × Bool)
  | [], q324, q330, q336, q342, q349 => some (q324, q330, q336, q342, q349)
  | x316 :: rest317, q324, q330, q336, q342, q349 => ((MendSolverwith_1_v1 x316 q330 q349 q324 q342 (MendSolver.mk q336 y0.last q86)).bind fun q356 => MendSolverwith_v1.loop4 y0 q86 rest317 q356.2.1 q356.1 q356.2.2.1 q356.2.2.2.2 q356.2.2.2.1)
def MendSolverwith_v1.loop3 (y0 : MendSolver) (q86 : List (List MendArc)) (q217 : Int) : Nat → (List Bool) → (List Int) → (List Int) → (List Int) → Bool → Option (Out ((Option MendSolver) × Bool) ((List Bool) × (List Int) × (List Int) × (List Int) × Bool))
  | 0, _, _, _, _, _ => none
  | n221 + 1, q225, q231, q237, q243, q250 => (bnd ((if decide (((q243.length : Nat) : Int) > 0) then q250 else false) : Bool) fun q256 => (if q256 then ((gx q243 0).bind fun x260 => ((cutl q243 1 ((q243.length : Nat) : Int)).bind fun x270 => ((ix q225 x260).bind fun _ => ((sx q225 x260 false).bind fun x284 => ((gx q237 x260).bind fun x289 => (if decide (x289 > q217) then some (.ret (none, false)) else ((gx q86 x260).bind fun x300 => ((MendSolverwith_v1.loop4 y0 q86 x300 x284 q231 q237 x270 q250).bind fun q314 => match q314 with | (q324, q330, q336, q342, q349) => MendSolverwith_v1.loop3 y0 q86 q217 n221 q324 q330 q336 q342 q349)))))))) else some (.next (q225, q231, q237, q243, q250))))
def MendSolverwith_v1 (fu : Nat) (x1 : List MendArc) (y0 : MendSolver) : Option ((Option MendSolver) × Bool) := ((SlicesCloneLint y0.times).bind fun q52 => ((SlicesCloneLLmendArc_v1 y0.outs).bind fun q64 => ((MendSolverwith_v1.loop1 x1 q64).bind fun q86 => ((mks ((q52.length : Nat) : Int) (false : Bool)).bind fun x141 => ((mks ((q52.length : Nat) : Int) (0 : Int)).bind fun x148 => ((MendSolverwith_v1.loop2 y0 q86 x1 x141 x148 q52 [] true).bind fun q159 => match q159 with | (q169, q175, q181, q187, q194) => ((MendSolverbound_v1 (MendSolver.mk q181 y0.last q86)).bind fun q217 => ((MendSolverwith_v1.loop3 y0 q86 q217 fu q169 q175 q181 q187 q194).bind fun q220 => match q220 with | .ret r => some r | .next (_, _, q237, _, q250) => some ((some (MendSolver.mk q237 y0.last q86)), q250)))))))))
def Mendstart.loop1 (x0 : MendGraph) (q53 : (List Int)) : Nat → Nat → Option (Out ((Option MendSolver) × Bool) Unit)
  | 0, _ => some (.next ())
  | rest73 + 1, k71 => ((gx q53 ((k71 : Nat) : Int)).bind fun x82 => ((((gx x0.Last ((k71 : Nat) : Int)).bind fun x98 => (if decide (x98 ≥ 0) then ((gx x0.Last ((k71 : Nat) : Int)).bind fun x108 => some (decide (x82 > x108))) else some false)) : Option Bool).bind fun q96 => (if q96 then some (.ret (none, false)) else Mendstart.loop1 x0 q53 rest73 (k71 + 1))))
def Mendstart (fu : Nat) (x0 : MendGraph) : Option ((Option MendSolver) × Bool) := ((SlicesCloneLint x0.Ready).bind fun q53 => ((mks ((x0.Ready).length : Int) ([] : List MendArc)).bind fun x61 => ((Mendstart.loop1 x0 q53 q53.length 0).bind fun q70 => match q70 with | .ret r => some r | .next () => ((MendSolverwith_v1 fu x0.Arcs (MendSolver.mk q53 x0.Last x61)).bind fun q118 => some (q118.1, q118.2)))))
def SlicesCloneLLmendArc (x0 : List (List MendArc)) : Option (List (List MendArc)) := ((apd [] x0).bind fun x56 => some x56)
def MendSolverwith.loop1 : (List MendArc) → (List (List MendArc)) → Option (List (List MendArc))
  | [], q99 => some q99
  | x91 :: rest92, q99 => ((gx q99 x91.From).bind fun x112 => ((SlicesCloneLmendArc x112).bind fun q125 => ((apd q125 [x91]).bind fun x134 => ((ix q99 x91.From).bind fun _ => ((sx q99 x91.From x134).bind fun x148 => MendSolverwith.loop1 rest92 x148)))))
def MendSolverwith.loop2 (x52 : MendSolver) (q99 : List (List MendArc)) : (List MendArc) → (List Bool) → (List Int) → (List Int) → (List Int) → Bool → Option ((List Bool) × (List Int) × (List Int) × (List Int) × Bool)
  | [], q182, q188, q194, q200, q207 => some (q182, q188, q194, q200, q207)
  | x174 :: rest175, q182, q188, q194, q200, q207 => ((MendSolverwith_1_v1 x174 q188 q207 q182 q200 (MendSolver.mk q194 x52.last q99)).bind fun q214 => MendSolverwith.loop2 x52 q99 rest175 q214.2.1 q214.1 q214.2.2.1 q214.2.2.2.2 q214.2.2.2.1)
def MendSolverwith.loop4 (x52 : MendSolver) (q99 : List (List MendArc)) : (List MendArc) → (List Bool) → (List Int) → (List Int) → (List Int) → Bool → Option ((List Bool) × (List Int) × (List Int) × (List Int) × Bool)
  | [], q337, q343, q349, q355, q362 => some (q337, q343, q349, q355, q362)
  | x329 :: rest330, q337, q343, q349, q355, q362 => ((MendSolverwith_1_v1 x329 q343 q362 q337 q355 (MendSolver.mk q349 x52.last q99)).bind fun q369 => MendSolverwith.loop4 x52 q99 rest330 q369.2.1 q369.1 q369.2.2.1 q369.2.2.2.2 q369.2.2.2.1)
def MendSolverwith.loop3 (x52 : MendSolver) (q99 : List (List MendArc)) (q230 : Int) : Nat → (List Bool) → (List Int) → (List Int) → (List Int) → Bool → Option (Out ((Option MendSolver) × Bool) ((List Bool) × (List Int) × (List Int) × (List Int) × Bool))
  | 0, _, _, _, _, _ => none
  | n234 + 1, q238, q244, q250, q256, q263 => (bnd ((if decide (((q256.length : Nat) : Int) > 0) then q263 else false) : Bool) fun q269 => (if q269 then ((gx q256 0).bind fun x273 => ((cutl q256 1 ((q256.length : Nat) : Int)).bind fun x283 => ((ix q238 x273).bind fun _ => ((sx q238 x273 false).bind fun x297 => ((gx q250 x273).bind fun x302 => (if decide (x302 > q230) then some (.ret (none, false)) else ((gx q99 x273).bind fun x313 => ((MendSolverwith.loop4 x52 q99 x313 x297 q244 q250 x283 q263).bind fun q327 => match q327 with | (q337, q343, q349, q355, q362) => MendSolverwith.loop3 x52 q99 q230 n234 q337 q343 q349 q355 q362)))))))) else some (.next (q238, q244, q250, q256, q263))))
def MendSolverwith (fu : Nat) (x0 : Option MendSolver) (x1 : List MendArc) : Option ((Option MendSolver) × Bool) := ((x0).bind fun x52 => ((SlicesCloneLint x52.times).bind fun q69 => ((SlicesCloneLLmendArc x52.outs).bind fun q77 => ((MendSolverwith.loop1 x1 q77).bind fun q99 => ((mks ((q69.length : Nat) : Int) (false : Bool)).bind fun x154 => ((mks ((q69.length : Nat) : Int) (0 : Int)).bind fun x161 => ((MendSolverwith.loop2 x52 q99 x1 x154 x161 q69 [] true).bind fun q172 => match q172 with | (q182, q188, q194, q200, q207) => ((MendSolverbound_v1 (MendSolver.mk q194 x52.last q99)).bind fun q230 => ((MendSolverwith.loop3 x52 q99 q230 fu q182 q188 q194 q200 q207).bind fun q233 => match q233 with | .ret r => some r | .next (_, _, q250, _, q263) => some ((some (MendSolver.mk q250 x52.last q99)), q263))))))))))
def Mendpicked.loop1 (x0 : MendGraph) (fu : Nat) : (List Int) → Nat → (Option MendSolver) → Bool → Option ((Option MendSolver) × Bool)
  | [], _, q69, q72 => some (q69, q72)
  | x61 :: rest62, k60, q69, q72 => (bnd ((if q72 then decide (x61 > 0) else false) : Bool) fun q82 => (((if q82 then ((gx x0.Choices ((k60 : Nat) : Int)).bind fun x95 => ((gx x95.Ways (w64 (x61 - 1))).bind fun x107 => ((MendSolverwith fu q69 x107).bind fun q119 => some (q119.1, q119.2)))) else some (q69, q72)) : Option ((Option MendSolver) × Bool)).bind fun q86 => match q86 with | (q89, q92) => Mendpicked.loop1 x0 fu rest62 (k60 + 1) q89 q92))
def Mendpicked (fu : Nat) (x0 : MendGraph) (x1 : List Int) : Option ((Option MendSolver) × Bool) := ((Mendstart fu x0).bind fun q52 => ((Mendpicked.loop1 x0 fu x1 0 q52.1 q52.2).bind fun q59 => match q59 with | (q69, q72) => some (q69, q72)))
def MendTimes (fu : Nat) (x0 : MendGraph) (x1 : List Int) : Option ((List Int) × Int) := ((MendcheckPick x0 x1).bind fun q52 => (if (q52 != 0) then some ([], q52) else ((Mendpicked fu x0 x1).bind fun q55 => (if !q55.2 then some ([], 5) else ((q55.1).bind fun x62 => some (x62.times, 0))))))
def FishtopawakeMend (fu : Nat) : Option Bool := ((MendTimes fu (MendGraph.mk [] [] [] [] []) [(-1)]).bind fun q57 => some (q57.2 != 0))
def Planwithin (x0 : Int) (x1 : Int) (x2 : Int) : Bool := (bnd ((if decide (x0 ≥ x1) then decide (x0 ≤ x2) else false) : Bool) fun q55 => q55)
def PlanCheckPeriodic.loop1 (x0 : PlanPeriodic) : (List PlanRule) → Out Int Unit
  | [] => (.next ())
  | x64 :: rest65 => (bnd ((if !(Planwithin x64.From 0 (w64 (x0.Events - 1))) then true else !(Planwithin x64.To 0 (w64 (x0.Events - 1)))) : Bool) fun q82 => (if q82 then (.ret 3) else (if (x64.From == x64.To) then (.ret 1) else (bnd ((if !(Planwithin x64.Min 0 3600) then true else (if !(Planwithin x64.Max x64.Min (w64 ((w64 (x64.Min + x0.Period)) - 1))) then true else !(Planwithin x64.Weight 0 1000))) : Bool) fun q91 => (if q91 then (.ret 2) else PlanCheckPeriodic.loop1 x0 rest65)))))
def PlanCheckPeriodic (x0 : PlanPeriodic) : Int := (bnd ((if !(Planwithin x0.Period 2 3600) then true else !(Planwithin x0.Events 1 8)) : Bool) fun q56 => (if q56 then 2 else (if decide (((x0.Rules).length : Int) > 40) then 4 else (bnd (PlanCheckPeriodic.loop1 x0 x0.Rules) fun q62 => match q62 with | .ret r => r | .next () => 0))))
def MathBitsMul64 (x0 : Int) (x1 : Int) : Int × Int := (IntKind.wrap .u64 ((IntKind.wrap .u64 ((IntKind.wrap .u64 ((Int.fdiv x0 (2 ^ (min (Int.toNat 32) (IntKind.bits .u64)))) * (Int.fdiv x1 (2 ^ (min (Int.toNat 32) (IntKind.bits .u64)))))) + (Int.fdiv (IntKind.wrap .u64 ((IntKind.wrap .u64 ((Int.fdiv x0 (2 ^ (min (Int.toNat 32) (IntKind.bits .u64)))) * (IntKind.wrap .u64 ((BitVec.ofInt (IntKind.bits .u64) x1 &&& BitVec.ofInt (IntKind.bits .u64) 4294967295).toNat : Int)))) + (Int.fdiv (IntKind.wrap .u64 ((IntKind.wrap .u64 ((BitVec.ofInt (IntKind.bits .u64) x0 &&& BitVec.ofInt (IntKind.bits .u64) 4294967295).toNat : Int)) * (IntKind.wrap .u64 ((BitVec.ofInt (IntKind.bits .u64) x1 &&& BitVec.ofInt (IntKind.bits .u64) 4294967295).toNat : Int)))) (2 ^ (min (Int.toNat 32) (IntKind.bits .u64)))))) (2 ^ (min (Int.toNat 32) (IntKind.bits .u64)))))) + (Int.fdiv (IntKind.wrap .u64 ((IntKind.wrap .u64 ((BitVec.ofInt (IntKind.bits .u64) (IntKind.wrap .u64 ((IntKind.wrap .u64 ((Int.fdiv x0 (2 ^ (min (Int.toNat 32) (IntKind.bits .u64)))) * (IntKind.wrap .u64 ((BitVec.ofInt (IntKind.bits .u64) x1 &&& BitVec.ofInt (IntKind.bits .u64) 4294967295).toNat : Int)))) + (Int.fdiv (IntKind.wrap .u64 ((IntKind.wrap .u64 ((BitVec.ofInt (IntKind.bits .u64) x0 &&& BitVec.ofInt (IntKind.bits .u64) 4294967295).toNat : Int)) * (IntKind.wrap .u64 ((BitVec.ofInt (IntKind.bits .u64) x1 &&& BitVec.ofInt (IntKind.bits .u64) 4294967295).toNat : Int)))) (2 ^ (min (Int.toNat 32) (IntKind.bits .u64)))))) &&& BitVec.ofInt (IntKind.bits .u64) 4294967295).toNat : Int)) + (IntKind.wrap .u64 ((IntKind.wrap .u64 ((BitVec.ofInt (IntKind.bits .u64) x0 &&& BitVec.ofInt (IntKind.bits .u64) 4294967295).toNat : Int)) * (Int.fdiv x1 (2 ^ (min (Int.toNat 32) (IntKind.bits .u64)))))))) (2 ^ (min (Int.toNat 32) (IntKind.bits .u64))))), IntKind.wrap .u64 (x0 * x1))
def MathBitsMul (x0 : Int) (x1 : Int) : Int × Int := (bnd (MathBitsMul64 x0 x1) fun q51 => (q51.1, q51.2))
def SlicesRepeatLbool.loop1 (x62 : List Bool) : Nat → Int → (List Bool) → Option (Int × (List Bool))
  | 0, _, _ => none
  | n75 + 1, q79, q80 => (if decide (q79 < ((x62.length : Nat) : Int)) then ((cutl q80 q79 ((x62.length : Nat) : Int)).bind fun _ => ((cutl q80 0 q79).bind fun _ => (bnd (cpl q80 ((q79).toNat) x62.length ((q80.take ((q79).toNat)).drop 0)) fun x107 => SlicesRepeatLbool.loop1 x62 n75 (w64 (q79 + ((min ((q80.take ((q79).toNat)).drop 0).length (x62.length - ((q79).toNat)) : Nat) : Int))) x107))) else some (q79, q80))
def SlicesRepeatLbool (fu : Nat) (x0 : List Bool) (x1 : Int) : Option (List Bool) := (if decide (x1 < 0) then none else (bnd (MathBitsMul (IntKind.wrap .u64 ((x0).length : Int)) (IntKind.wrap .u64 x1)) fun q52 => (bnd ((if decide (q52.1 > 0) then true else decide (q52.2 > 9223372036854775807)) : Bool) fun q58 => (if q58 then none else ((mks (w64 q52.2) (false : Bool)).bind fun x62 => (bnd (cpl x62 0 x62.length x0) fun x68 => ((SlicesRepeatLbool.loop1 x62 fu ((min x0.length (x62.length - 0) : Nat) : Int) x68).bind fun q74 => match q74 with | (_, q80) => some q80)))))))
def PlannewSearch (fu : Nat) (x0 : PlanPeriodic) : Option (Int × Int × (List PlanRule) × (List Int) × (List Bool)) := ((mks ((x0.Rules).length : Int) (0 : Int)).bind fun x53 => ((SlicesRepeatLbool fu [true] ((x0.Rules).length : Int)).bind fun q65 => some (x0.Period, x0.Events, x0.Rules, x53, q65)))
def PlanSearchstart_v1.loop4 (y0_0 : Int) (y0_1 : Int) (q71 : Int) : Nat → Int → (List Int) → Option (Int × (List Int))
  | 0, _, _ => none
  | n93 + 1, q97, q98 => (if decide (q97 < y0_1) then (((if (q71 != q97) then ((bx 8 q71).bind fun _ => ((bx 8 q97).bind fun _ => ((sx q98 (q71 * 8 + q97) (w64 (y0_0 - 1))).bind fun x125 => some x125))) else some q98) : Option (List Int)).bind fun q110 => PlanSearchstart_v1.loop4 y0_0 y0_1 q71 n93 (w64 (q97 + 1)) q110) else some (q97, q98))
def PlanSearchstart_v1.loop2 (y0_0 : Int) (y0_1 : Int) (fu : Nat) : Nat → Int → (List Int) → Option (Int × (List Int))
  | 0, _, _ => none
  | n67 + 1, q71, q72 => (if decide (q71 < y0_1) then ((PlanSearchstart_v1.loop4 y0_0 y0_1 q71 fu 0 q72).bind fun q92 => match q92 with | (_, q98) => ((bx 8 q71).bind fun _ => ((bx 8 0).bind fun _ => ((sx q98 (q71 * 8 + 0) 0).bind fun x136 => PlanSearchstart_v1.loop2 y0_0 y0_1 fu n67 (w64 (q71 + 1)) x136)))) else some (q71, q72))
def PlanSearchstart_v1 (fu : Nat) (y0_0 : Int) (y0_1 : Int) (_y0_2 : List PlanRule) (_y0_5 : List Int) (_y0_6 : List Bool) : Option (Option (List Int)) := ((PlanSearchstart_v1.loop2 y0_0 y0_1 fu fu 0 (List.replicate 64 (0 : Int))).bind fun q66 => match q66 with | (_, q72) => some (some q72))
def Plansolve_1_v1 (x0 : Option (List Int)) (y0 : Int) (y1 : Int) : Option Bool := ((x0).bind fun x51 => ((bx 8 y0).bind fun _ => ((bx 8 0).bind fun _ => ((gx x51 (y0 * 8 + 0)).bind fun x66 => some (decide ((w64 (0 - x66)) ≥ y1))))))
def Planfloor (x0 : Int) (x1 : Int) : Option Int := ((dv x0 x1).bind fun x51 => ((rm x0 x1).bind fun x53 => (bnd ((if decide (x53 < 0) then w64 (x51 - 1) else x51) : Int) fun q59 => some q59)))
def PlanSearchchoices_v1.loop1 (x2 : PlanRule) (y0_0 : Int) (x53 : List Int) : Nat → (List Int) → Int → Option ((List Int) × Int)
  | 0, _, _ => none
  | n77 + 1, q81, q88 => ((bx 8 x2.To).bind fun _ => ((bx 8 x2.From).bind fun _ => ((gx x53 (x2.To * 8 + x2.From)).bind fun x96 => (if decide ((w64 (x2.Max - (w64 (q88 * y0_0)))) ≥ (w64 (0 - x96))) then ((apd q81 [q88]).bind fun x103 => PlanSearchchoices_v1.loop1 x2 y0_0 x53 n77 x103 (w64 (q88 + 1))) else some (q81, q88)))))
def PlanSearchchoices_v1 (fu : Nat) (x1 : Option (List Int)) (x2 : PlanRule) (y0_0 : Int) (_y0_1 : Int) (_y0_2 : List PlanRule) (_y0_5 : List Int) (_y0_6 : List Bool) (_y1 : Int) (_y2 : Int) : Option (List Int) := ((x1).bind fun x53 => ((bx 8 x2.From).bind fun _ => ((bx 8 x2.To).bind fun _ => ((gx x53 (x2.From * 8 + x2.To)).bind fun x68 => ((Planfloor (w64 (x68 - x2.Min)) y0_0).bind fun q73 => ((PlanSearchchoices_v1.loop1 x2 y0_0 x53 fu [] (w64 (0 - q73))).bind fun q76 => match q76 with | (q81, _) => some q81))))))
def Plansolve_2_v1 (x0 : Option (List Int)) (_x1 : List Int) (y0 : Int) (_y1 : Int) : Option Int := ((x0).bind fun x53 => ((bx 8 y0).bind fun _ => ((bx 8 0).bind fun _ => ((gx x53 (y0 * 8 + 0)).bind fun x68 => some (w64 (0 - x68))))))
def PlanBoundsclosed.loop4 (x1 : Int) (x2 : Int) (x3 : Int) (x4 : Int) (x51 : List Int) (q106 : Int) : Nat → Int → (List Int) → Option (Int × (List Int))
  | 0, _, _ => none
  | n128 + 1, q132, q133 => (if decide (q132 < x1) then ((bx 8 q106).bind fun _ => ((bx 8 q132).bind fun _ => ((gx q133 (q106 * 8 + q132)).bind fun x148 => ((bx 8 q106).bind fun _ => ((bx 8 x2).bind fun _ => ((gx x51 (q106 * 8 + x2)).bind fun x164 => ((bx 8 x3).bind fun _ => ((bx 8 q132).bind fun _ => ((gx x51 (x3 * 8 + q132)).bind fun x175 => ((bx 8 q106).bind fun _ => ((bx 8 q132).bind fun _ => ((sx q133 (q106 * 8 + q132) (mn x148 (w64 ((w64 (x164 + x4)) + x175)))).bind fun x186 => PlanBoundsclosed.loop4 x1 x2 x3 x4 x51 q106 n128 (w64 (q132 + 1)) x186)))))))))))) else some (q132, q133))
def PlanBoundsclosed.loop2 (x1 : Int) (x2 : Int) (x3 : Int) (x4 : Int) (fu : Nat) (x51 : List Int) : Nat → Int → (List Int) → Option (Int × (List Int))
  | 0, _, _ => none
  | n102 + 1, q106, q107 => (if decide (q106 < x1) then ((PlanBoundsclosed.loop4 x1 x2 x3 x4 x51 q106 fu 0 q107).bind fun q127 => match q127 with | (_, q133) => PlanBoundsclosed.loop2 x1 x2 x3 x4 fu x51 n102 (w64 (q106 + 1)) q133) else some (q106, q107))
def PlanBoundsclosed (fu : Nat) (x0 : Option (List Int)) (x1 : Int) (x2 : Int) (x3 : Int) (x4 : Int) : Option ((Option (List Int)) × Bool) := ((x0).bind fun x51 => ((bx 8 x2).bind fun _ => ((bx 8 x3).bind fun _ => ((gx x51 (x2 * 8 + x3)).bind fun x66 => (if decide (x66 ≤ x4) then some (x0, true) else ((bx 8 x3).bind fun _ => ((bx 8 x2).bind fun _ => ((gx x51 (x3 * 8 + x2)).bind fun x78 => (if decide ((w64 (x78 + x4)) < 0) then some (none, false) else ((PlanBoundsclosed.loop2 x1 x2 x3 x4 fu x51 fu 0 x51).bind fun q101 => match q101 with | (_, q107) => some ((some q107), true)))))))))))
def PlanBoundsbetween (fu : Nat) (x0 : Option (List Int)) (x1 : Int) (x2 : Int) (x3 : Int) (x4 : Int) (x5 : Int) : Option ((Option (List Int)) × Bool) := ((PlanBoundsclosed fu x0 x1 x2 x3 x5).bind fun q51 => (if !q51.2 then some (none, false) else ((PlanBoundsclosed fu q51.1 x1 x3 x2 (w64 (0 - x4))).bind fun q58 => some (q58.1, q58.2))))
def PlanSearchrun_v1.loop1 (x1 : Option (List Int)) (y0_0 : Int) (y0_1 : Int) (y0_2 : List PlanRule) (y0_5 : List Int) (y0_6 : List Bool) (y1 : Int) (fu : Nat) : (List PlanRule) → Nat → Int → (List Int) → Int → Option (Out ((List Int) × (List Bool) × Int) (Int × (List Int) × Int))
  | [], _, q91, q92, q96 => some (.next (q91, q92, q96))
  | x83 :: rest84, k82, q91, q92, q96 => ((gx y0_6 ((k82 : Nat) : Int)).bind fun x103 => (if !x103 then PlanSearchrun_v1.loop1 x1 y0_0 y0_1 y0_2 y0_5 y0_6 y1 fu rest84 (k82 + 1) q91 q92 q96 else ((PlanSearchchoices_v1 fu x1 x83 y0_0 y0_1 y0_2 y0_5 y0_6 y1 q96).bind fun q114 => (bnd ((if decide (q91 < 0) then true else decide (((q114.length : Nat) : Int) < ((q92).length : Int))) : Bool) fun q126 => (bnd ((if q126 then (((k82 : Nat) : Int), q114) else (q91, q92)) : Int × (List Int)) fun q133 => match q133 with | (q136, q137) => (if (((q114).length : Int) == 0) then some (.ret (y0_5, y0_6, q96)) else PlanSearchrun_v1.loop1 x1 y0_0 y0_1 y0_2 y0_5 y0_6 y1 fu rest84 (k82 + 1) q136 q137 q96))))))
def PlanSearchrun_v1.loop2 (x1 : Option (List Int)) (y0_0 : Int) (y0_1 : Int) (y0_2 : List PlanRule) (y1 : Int) (fu : Nat) (self_PlanSearchrun_v1 : (Option (List Int)) → Int → Int → (List PlanRule) → (List Int) → (List Bool) → Int → Int → Option ((List Int) × (List Bool) × Int)) (q91 : Int) (x152 : PlanRule) : (List Int) → (List Int) → (List Bool) → Int → Option ((List Int) × (List Bool) × Int)
  | [], q183, q189, q195 => some (q183, q189, q195)
  | x175 :: rest176, q183, q189, q195 => ((PlanBoundsbetween fu x1 y0_1 x152.From x152.To (w64 (x152.Min - (w64 (x175 * y0_0)))) (w64 (x152.Max - (w64 (x175 * y0_0))))).bind fun q202 => (((if q202.2 then ((ix q183 q91).bind fun _ => ((sx q183 q91 x175).bind fun x232 => ((self_PlanSearchrun_v1 q202.1 y0_0 y0_1 y0_2 x232 q189 y1 q195).bind fun q237 => some (q237.1, q237.2.1, q237.2.2)))) else some (q183, q189, q195)) : Option ((List Int) × (List Bool) × Int)).bind fun q209 => match q209 with | (q212, q218, q224) => PlanSearchrun_v1.loop2 x1 y0_0 y0_1 y0_2 y1 fu self_PlanSearchrun_v1 q91 x152 rest176 q212 q218 q224))
def PlanSearchrun_v1 : Nat → (Option (List Int)) → Int → Int → (List PlanRule) → (List Int) → (List Bool) → Int → Int → Option ((List Int) × (List Bool) × Int)
  | 0, _, _, _, _, _, _, _, _ => none
  | fu + 1, x1, y0_0, y0_1, y0_2, y0_5, y0_6, y1, y2 => ((Plansolve_1_v1 x1 y1 y2).bind fun q77 => (if q77 then some (y0_5, y0_6, y2) else ((PlanSearchrun_v1.loop1 x1 y0_0 y0_1 y0_2 y0_5 y0_6 y1 fu y0_2 0 (-1) [] y2).bind fun q81 => match q81 with | .ret r => some r | .next (q91, q92, q96) => (if decide (q91 < 0) then ((Plansolve_2_v1 x1 y0_5 y1 q96).bind fun q146 => some (y0_5, y0_6, q146)) else ((gx y0_2 q91).bind fun x152 => ((ix y0_6 q91).bind fun _ => ((sx y0_6 q91 false).bind fun x167 => ((PlanSearchrun_v1.loop2 x1 y0_0 y0_1 y0_2 y1 fu (PlanSearchrun_v1 fu) q91 x152 q92 y0_5 x167 q96).bind fun q173 => match q173 with | (q183, q189, q195) => ((ix q189 q91).bind fun _ => ((sx q189 q91 true).bind fun x252 => some (q183, x252, q195)))))))))))
def Plansolve.loop1 (x0 : PlanPeriodic) (fu : Nat) (q52 : (Int × Int × (List PlanRule) × (List Int) × (List Bool))) : Nat → (Option (List Int)) → (List Int) → Int → (List Int) → (List Bool) → Unit → Unit → Option (Out (List Int) ((Option (List Int)) × (List Int) × Int × (List Int) × (List Bool) × Unit × Unit))
  | 0, _, _, _, _, _, _, _ => none
  | n84 + 1, q88, q91, q99, q100, q106, _, _ => (if decide (q99 < x0.Events) then ((PlanSearchrun_v1 fu q88 q52.1 q52.2.1 q52.2.2.1 q100 q106 q99 x0.Period).bind fun q119 => (if (q119.2.2 == x0.Period) then some (.ret []) else ((apd q91 [q119.2.2]).bind fun x131 => ((PlanBoundsbetween fu q88 x0.Events 0 q99 q119.2.2 q119.2.2).bind fun q137 => Plansolve.loop1 x0 fu q52 n84 q137.1 x131 (w64 (q99 + 1)) q119.1 q119.2.1 () ())))) else some (.next (q88, q91, q99, q100, q106, (), ())))
def Plansolve (fu : Nat) (x0 : PlanPeriodic) : Option (List Int) := ((PlannewSearch fu x0).bind fun q52 => ((PlanSearchstart_v1 fu q52.1 q52.2.1 q52.2.2.1 q52.2.2.2.1 q52.2.2.2.2).bind fun q72 => ((Plansolve.loop1 x0 fu q52 fu q72 [0] 1 q52.2.2.2.1 q52.2.2.2.2 () ()).bind fun q83 => match q83 with | .ret r => some r | .next (_, q91, _, _, _, _, _) => ((nz q91).bind fun _ => some q91))))
def PlanSolve (fu : Nat) (x0 : PlanPeriodic) : Option ((List Int) × Int) := (if ((PlanCheckPeriodic x0) != 0) then some ([], (PlanCheckPeriodic x0)) else ((Plansolve fu x0).bind fun q53 => (if q53.isEmpty then some ([], 9) else some (q53, 0))))
def Fishref2within (x0 : Int) (x1 : Int) (x2 : Int) : Bool := (bnd ((if decide (x0 ≥ x1) then decide (x0 ≤ x2) else false) : Bool) fun q55 => q55)
def Fishref2PeriodicFault.loop1 (x0 : PlanPeriodic) : (List PlanRule) → Out Int Unit
  | [] => (.next ())
  | x64 :: rest65 => (bnd ((if !(Fishref2within x64.From 0 (w64 (x0.Events - 1))) then true else !(Fishref2within x64.To 0 (w64 (x0.Events - 1)))) : Bool) fun q82 => (if q82 then (.ret 3) else (if (x64.From == x64.To) then (.ret 1) else (bnd ((if !(Fishref2within x64.Min 0 3600) then true else (if decide (x64.Max < x64.Min) then true else (if decide (x64.Max > (w64 ((w64 (x64.Min + x0.Period)) - 1))) then true else !(Fishref2within x64.Weight 0 1000)))) : Bool) fun q91 => (if q91 then (.ret 2) else Fishref2PeriodicFault.loop1 x0 rest65)))))
def Fishref2PeriodicFault (x0 : PlanPeriodic) : Int := (bnd ((if !(Fishref2within x0.Period 2 3600) then true else !(Fishref2within x0.Events 1 8)) : Bool) fun q56 => (if q56 then 2 else (if decide (((x0.Rules).length : Int) > 40) then 4 else (bnd (Fishref2PeriodicFault.loop1 x0 x0.Rules) fun q62 => match q62 with | .ret r => r | .next () => 0))))
def Fishref2TimesFault.loop1 (x0 : PlanPeriodic) : (List Int) → Out Int Unit
  | [] => (.next ())
  | x57 :: rest58 => (if !(Fishref2within x57 0 (w64 (x0.Period - 1))) then (.ret 2) else Fishref2TimesFault.loop1 x0 rest58)
def Fishref2TimesFault (x0 : PlanPeriodic) (x1 : List Int) : Int := (if ((Fishref2PeriodicFault x0) != 0) then (Fishref2PeriodicFault x0) else (if (((x1).length : Int) != x0.Events) then 1 else (bnd (Fishref2TimesFault.loop1 x0 x1) fun q55 => match q55 with | .ret r => r | .next () => 0)))
def PlancheckTimes.loop1 (x0 : PlanPeriodic) : (List Int) → Out Int Unit
  | [] => (.next ())
  | x57 :: rest58 => (if !(Planwithin x57 0 (w64 (x0.Period - 1))) then (.ret 2) else PlancheckTimes.loop1 x0 rest58)
def PlancheckTimes (x0 : PlanPeriodic) (x1 : List Int) : Int := (if ((PlanCheckPeriodic x0) != 0) then (PlanCheckPeriodic x0) else (if (((x1).length : Int) != x0.Events) then 1 else (bnd (PlancheckTimes.loop1 x0 x1) fun q55 => match q55 with | .ret r => r | .next () => 0)))
def Plangap (x0 : PlanPeriodic) (x1 : PlanRule) (x2 : List Int) : Option Int := ((gx x2 x1.To).bind fun x53 => ((gx x2 x1.From).bind fun x62 => ((rm (w64 ((w64 (x53 - x62)) - x1.Min)) x0.Period).bind fun x71 => (bnd ((if decide (x71 < 0) then w64 (x71 + x0.Period) else x71) : Int) fun q77 => some (w64 (x1.Min + q77))))))
def PlanGap (x0 : PlanPeriodic) (x1 : Int) (x2 : List Int) : Option (Int × Int) := (if ((PlancheckTimes x0 x2) != 0) then some (0, (PlancheckTimes x0 x2)) else (if !(Planwithin x1 0 (w64 (((x0.Rules).length : Int) - 1))) then some (0, 3) else ((gx x0.Rules x1).bind fun x54 => ((Plangap x0 x54 x2).bind fun q63 => some (q63, 0)))))
def Fishref2SlackOf (x0 : MendRound) (x1 : MendLink) : Option Int := ((gx x0.Plan x1.To).bind fun x53 => ((gx x0.Plan x1.From).bind fun x62 => some (w64 ((w64 ((w64 (x53 - x62)) + (w64 (x1.Back * x0.Period)))) - x1.Len))))
def Plancost.loop1 (x0 : PlanPeriodic) (x1 : List Int) : (List PlanRule) → Int → Option Int
  | [], q63 => some q63
  | x55 :: rest56, q63 => ((Plangap x0 x55 x1).bind fun q70 => Plancost.loop1 x0 x1 rest56 (w64 (q63 + (w64 (x55.Weight * (w64 (q70 - x55.Min)))))))
def Plancost (x0 : PlanPeriodic) (x1 : List Int) : Option Int := ((Plancost.loop1 x0 x1 x0.Rules 0).bind fun q63 => some q63)
def PlanCost (x0 : PlanPeriodic) (x1 : List Int) : Option (Int × Int) := (if ((PlancheckTimes x0 x1) != 0) then some (0, (PlancheckTimes x0 x1)) else ((Plancost x0 x1).bind fun q53 => some (q53, 0)))
def MendRoundslack (x0 : MendRound) (x1 : MendLink) : Option Int := ((gx x0.Plan x1.To).bind fun x53 => ((gx x0.Plan x1.From).bind fun x62 => some (w64 ((w64 ((w64 (x53 - x62)) + (w64 (x1.Back * x0.Period)))) - x1.Len))))
def MendRoundring.loop3 : (List MendLink) → Bool → (List Int) → Option (Bool × (List Int))
  | [], q95, q96 => some (q95, q96)
  | x87 :: rest88, q95, q96 => (((if (x87.Back == 0) then ((gx q96 x87.To).bind fun x115 => ((gx q96 x87.From).bind fun x125 => some (decide (x115 ≤ x125)))) else some false) : Option Bool).bind fun q112 => (((if q112 then ((gx q96 x87.From).bind fun x149 => ((ix q96 x87.To).bind fun _ => ((sx q96 x87.To (w64 (x149 + 1))).bind fun x164 => some (true, x164)))) else some (q95, q96)) : Option (Bool × (List Int))).bind fun q136 => match q136 with | (q139, q140) => MendRoundring.loop3 rest88 q139 q140))
def MendRoundring.loop2 (x0 : MendRound) : Nat → Int → (List Int) → Option (Out Bool (Int × (List Int)))
  | 0, _, _ => none
  | n71 + 1, q75, q76 => (if decide (q75 < (w64 (((x0.Plan).length : Int) + 1))) then ((MendRoundring.loop3 x0.Links false q76).bind fun q85 => match q85 with | (q95, q96) => (if !q95 then some (.ret false) else MendRoundring.loop2 x0 n71 (w64 (q75 + 1)) q96)) else some (.next (q75, q76)))
def MendRoundring (fu : Nat) (x0 : MendRound) : Option Bool := ((mks ((x0.Plan).length : Int) (0 : Int)).bind fun x52 => ((MendRoundring.loop2 x0 fu 0 x52).bind fun q70 => match q70 with | .ret r => some r | .next (_, _) => some true))
def MendCheckRound.loop1 (x0 : MendRound) : (List Int) → Out Int Unit
  | [] => (.next ())
  | x64 :: rest65 => (if !(Mendwithin x64 0 (w64 (x0.Period - 1))) then (.ret 2) else MendCheckRound.loop1 x0 rest65)
def MendCheckRound.loop2 (x0 : MendRound) : (List MendLink) → Option (Out Int Unit)
  | [] => some (.next ())
  | x81 :: rest82 => (bnd ((if !(Mendwithin x81.From 0 (w64 (((x0.Plan).length : Int) - 1))) then true else !(Mendwithin x81.To 0 (w64 (((x0.Plan).length : Int) - 1)))) : Bool) fun q99 => (if q99 then some (.ret 3) else (bnd ((if !(Mendwithin x81.Len 0 28800) then true else !(Mendwithin x81.Back 0 3)) : Bool) fun q107 => (if q107 then some (.ret 2) else ((MendRoundslack x0 x81).bind fun q111 => (if decide (q111 < 0) then some (.ret 13) else MendCheckRound.loop2 x0 rest82))))))
def MendCheckRound (fu : Nat) (x0 : MendRound) : Option Int := (if !(Mendwithin x0.Period 1 3600) then some 2 else (bnd ((if !(Mendwithin ((x0.Plan).length : Int) 1 8) then true else decide (((x0.Links).length : Int) > 24)) : Bool) fun q57 => (if q57 then some 4 else (bnd (MendCheckRound.loop1 x0 x0.Plan) fun q62 => match q62 with | .ret r => some r | .next () => ((MendCheckRound.loop2 x0 x0.Links).bind fun q79 => match q79 with | .ret r => some r | .next () => ((MendRoundring fu x0).bind fun q114 => (if q114 then some 5 else some 0)))))))
def SlicesRepeatLint.loop1 (x62 : List Int) : Nat → Int → (List Int) → Option (Int × (List Int))
  | 0, _, _ => none
  | n75 + 1, q79, q80 => (if decide (q79 < ((x62.length : Nat) : Int)) then ((cutl q80 q79 ((x62.length : Nat) : Int)).bind fun _ => ((cutl q80 0 q79).bind fun _ => (bnd (cpl q80 ((q79).toNat) x62.length ((q80.take ((q79).toNat)).drop 0)) fun x107 => SlicesRepeatLint.loop1 x62 n75 (w64 (q79 + ((min ((q80.take ((q79).toNat)).drop 0).length (x62.length - ((q79).toNat)) : Nat) : Int))) x107))) else some (q79, q80))
def SlicesRepeatLint (fu : Nat) (x0 : List Int) (x1 : Int) : Option (List Int) := (if decide (x1 < 0) then none else (bnd (MathBitsMul (IntKind.wrap .u64 ((x0).length : Int)) (IntKind.wrap .u64 x1)) fun q52 => (bnd ((if decide (q52.1 > 0) then true else decide (q52.2 > 9223372036854775807)) : Bool) fun q58 => (if q58 then none else ((mks (w64 q52.2) (0 : Int)).bind fun x62 => (bnd (cpl x62 0 x62.length x0) fun x68 => ((SlicesRepeatLint.loop1 x62 fu ((min x0.length (x62.length - 0) : Nat) : Int) x68).bind fun q74 => match q74 with | (_, q80) => some q80)))))))
def MendRoom.loop3 (x0 : MendRound) (k63 : Nat) : (List MendLink) → Bool → (List (List Int)) → Option (Bool × (List (List Int)))
  | [], q156, q157 => some (q156, q157)
  | x148 :: rest149, q156, q157 => ((gx q157 ((k63 : Nat) : Int)).bind fun x170 => ((gx x170 x148.From).bind fun x180 => (if decide (x180 < 0) then MendRoom.loop3 x0 k63 rest149 q156 q157 else ((gx q157 ((k63 : Nat) : Int)).bind fun x191 => ((gx x191 x148.From).bind fun x201 => ((MendRoundslack x0 x148).bind fun q211 => ((((gx q157 ((k63 : Nat) : Int)).bind fun x219 => ((gx x219 x148.To).bind fun x229 => (if decide (x229 < 0) then some true else ((gx q157 ((k63 : Nat) : Int)).bind fun x240 => ((gx x240 x148.To).bind fun x250 => some (decide ((w64 (x201 + q211)) < x250))))))) : Option Bool).bind fun q217 => (((if q217 then ((gx q157 ((k63 : Nat) : Int)).bind fun x275 => ((ix x275 x148.To).bind fun _ => ((sx x275 x148.To (w64 (x201 + q211))).bind fun x291 => some (true, (q157.set ((((k63 : Nat) : Int)).toNat) x291))))) else some (q156, q157)) : Option (Bool × (List (List Int)))).bind fun q261 => match q261 with | (q264, q265) => MendRoom.loop3 x0 k63 rest149 q264 q265))))))))
def MendRoom.loop2 (x0 : MendRound) (k63 : Nat) : Nat → Bool → (List (List Int)) → Option (Bool × (List (List Int)))
  | 0, _, _ => none
  | n131 + 1, q135, q136 => (if q135 then ((MendRoom.loop3 x0 k63 x0.Links false q136).bind fun q146 => match q146 with | (q156, q157) => MendRoom.loop2 x0 k63 n131 q156 q157) else some (q135, q136))
def MendRoom.loop1 (x0 : MendRound) (fu : Nat) : Nat → Nat → (List (List Int)) → Option (List (List Int))
  | 0, _, q73 => some q73
  | rest65 + 1, k63, q73 => ((SlicesRepeatLint fu [(-1)] ((x0.Plan).length : Int)).bind fun q87 => ((ix q73 ((k63 : Nat) : Int)).bind fun _ => ((sx q73 ((k63 : Nat) : Int) q87).bind fun x100 => ((gx x100 ((k63 : Nat) : Int)).bind fun x105 => ((ix x105 ((k63 : Nat) : Int)).bind fun _ => ((sx x105 ((k63 : Nat) : Int) 0).bind fun x121 => ((MendRoom.loop2 x0 k63 fu true (x100.set ((((k63 : Nat) : Int)).toNat) x121)).bind fun q130 => match q130 with | (_, q136) => MendRoom.loop1 x0 fu rest65 (k63 + 1) q136)))))))
def MendRoom (fu : Nat) (x0 : MendRound) : Option ((List (List Int)) × Int) := ((MendCheckRound fu x0).bind fun q52 => (if (q52 != 0) then some ([], q52) else ((mks ((x0.Plan).length : Int) ([] : List Int)).bind fun x55 => ((MendRoom.loop1 x0 fu x55.length 0 x55).bind fun q73 => some (q73, 0)))))
def FishtopTopRounds_1_v1 (x0 : List Int) (y0 : List Int) : Bool := (((x0).length : Int) != ((y0).length : Int))
def SlicesIndexFuncLLint_v1.loop1 (y0 : List Int) : (List (List Int)) → Nat → Out Int Unit
  | [], _ => (.next ())
  | x54 :: rest55, k53 => (if (FishtopTopRounds_1_v1 x54 y0) then (.ret ((k53 : Nat) : Int)) else SlicesIndexFuncLLint_v1.loop1 y0 rest55 (k53 + 1))
def SlicesIndexFuncLLint_v1 (x0 : List (List Int)) (y0 : List Int) : Int := (bnd (SlicesIndexFuncLLint_v1.loop1 y0 x0 0) fun q52 => match q52 with | .ret r => r | .next () => (-1))
def SlicesContainsFuncLLint_v1 (x0 : List (List Int)) (y0 : List Int) : Bool := decide ((SlicesIndexFuncLLint_v1 x0 y0) ≥ 0)
def MendRoundfollow.loop2 (x0 : MendRound) (x2 : List (List Int)) : (List MendLink) → Bool → (List Int) → Option (Bool × (List Int))
  | [], q86, q87 => some (q86, q87)
  | x78 :: rest79, q86, q87 => (if decide (x78.Back > 0) then (if decide (x78.Back > ((x2).length : Int)) then MendRoundfollow.loop2 x0 x2 rest79 q86 q87 else ((gx x2 (w64 (x78.Back - 1))).bind fun x101 => ((gx x101 x78.From).bind fun x113 => ((MendRoundslack x0 x78).bind fun q122 => ((gx q87 x78.To).bind fun x124 => (((if decide ((w64 (x113 - q122)) > x124) then ((ix q87 x78.To).bind fun _ => ((sx q87 x78.To (w64 (x113 - q122))).bind fun x152 => some (true, x152))) else some (q86, q87)) : Option (Bool × (List Int))).bind fun q135 => match q135 with | (q138, q139) => MendRoundfollow.loop2 x0 x2 rest79 q138 q139)))))) else ((gx q87 x78.From).bind fun x157 => ((MendRoundslack x0 x78).bind fun q167 => ((gx q87 x78.To).bind fun x169 => (((if decide ((w64 (x157 - q167)) > x169) then ((ix q87 x78.To).bind fun _ => ((sx q87 x78.To (w64 (x157 - q167))).bind fun x197 => some (true, x197))) else some (q86, q87)) : Option (Bool × (List Int))).bind fun q180 => match q180 with | (q183, q184) => MendRoundfollow.loop2 x0 x2 rest79 q183 q184)))))
def MendRoundfollow.loop1 (x0 : MendRound) (x2 : List (List Int)) : Nat → Bool → (List Int) → Option (Bool × (List Int))
  | 0, _, _ => none
  | n62 + 1, q66, q67 => (if q66 then ((MendRoundfollow.loop2 x0 x2 x0.Links false q67).bind fun q76 => match q76 with | (q86, q87) => MendRoundfollow.loop1 x0 x2 n62 q86 q87) else some (q66, q67))
def MendRoundfollow (fu : Nat) (x0 : MendRound) (x1 : List Int) (x2 : List (List Int)) : Option (List Int) := ((SlicesCloneLint x1).bind fun q52 => ((MendRoundfollow.loop1 x0 x2 fu true q52).bind fun q61 => match q61 with | (_, q67) => some q67))
def MendSpread.loop1 (x0 : MendRound) : (List MendFirst) → Out ((List (List Int)) × Int) Unit
  | [] => (.next ())
  | x63 :: rest64 => (if !(Mendwithin x63.Event 0 (w64 (((x0.Plan).length : Int) - 1))) then (.ret ([], 3)) else (bnd ((if !(Mendwithin x63.Period 0 59) then true else !(Mendwithin x63.Secs 0 28800)) : Bool) fun q83 => (if q83 then (.ret ([], 2)) else MendSpread.loop1 x0 rest64)))
def MendSpread.loop4 (q117 : Int) : (List MendFirst) → (List Int) → Option (List Int)
  | [], q137 => some q137
  | x129 :: rest130, q137 => (((if (x129.Period == q117) then ((gx q137 x129.Event).bind fun x162 => ((ix q137 x129.Event).bind fun _ => ((sx q137 x129.Event (mx x162 x129.Secs)).bind fun x177 => some x177))) else some q137) : Option (List Int)).bind fun q153 => MendSpread.loop4 q117 rest130 q153)
def MendSpread.loop3 (x0 : MendRound) (x1 : List MendFirst) (x2 : Int) (fu : Nat) : Nat → (List (List Int)) → (List (List Int)) → Int → Option ((List (List Int)) × (List (List Int)) × Int)
  | 0, _, _, _ => none
  | n102 + 1, q106, q113, q117 => (if decide (q117 < x2) then ((mks ((x0.Plan).length : Int) (0 : Int)).bind fun x120 => ((MendSpread.loop4 q117 x1 x120).bind fun q137 => ((MendRoundfollow fu x0 q137 q113).bind fun q182 => ((apd q106 [q182]).bind fun x198 => ((cutl q113 0 (mn ((q113).length : Int) 2)).bind fun x207 => ((apd [q182] x207).bind fun x216 => MendSpread.loop3 x0 x1 x2 fu n102 x198 x216 (w64 (q117 + 1)))))))) else some (q106, q113, q117))
def MendSpread (fu : Nat) (x0 : MendRound) (x1 : List MendFirst) (x2 : Int) : Option ((List (List Int)) × Int) := ((MendCheckRound fu x0).bind fun q52 => (if (q52 != 0) then some ([], q52) else (if !(Mendwithin x2 0 60) then some ([], 2) else (if decide (((x1).length : Int) > 20) then some ([], 4) else (bnd (MendSpread.loop1 x0 x1) fun q61 => match q61 with | .ret r => some r | .next () => ((MendSpread.loop3 x0 x1 x2 fu fu [] [] 0).bind fun q101 => match q101 with | (q106, _, _) => some (q106, 0)))))))
def FishtopTopRounds_2_v1 (x0 : List Int) (y0 : List Int) : Bool := (((x0).length : Int) != ((y0).length : Int))
def SlicesIndexFuncLLint_v2.loop1 (y0 : List Int) : (List (List Int)) → Nat → Out Int Unit
  | [], _ => (.next ())
  | x54 :: rest55, k53 => (if (FishtopTopRounds_2_v1 x54 y0) then (.ret ((k53 : Nat) : Int)) else SlicesIndexFuncLLint_v2.loop1 y0 rest55 (k53 + 1))
def SlicesIndexFuncLLint_v2 (x0 : List (List Int)) (y0 : List Int) : Int := (bnd (SlicesIndexFuncLLint_v2.loop1 y0 x0 0) fun q52 => match q52 with | .ret r => r | .next () => (-1))
def SlicesContainsFuncLLint_v2 (x0 : List (List Int)) (y0 : List Int) : Bool := decide ((SlicesIndexFuncLLint_v2 x0 y0) ≥ 0)
def FishtopTopRounds.loop1 (x0 : PlanPeriodic) (q55 : (List Int) × Int) : (List PlanRule) → Nat → Int → (List MendLink) → Option (Out Bool (Int × (List MendLink)))
  | [], _, q78, q79 => some (.next (q78, q79))
  | x70 :: rest71, k69, q78, q79 => ((PlanGap x0 ((k69 : Nat) : Int) q55.1).bind fun q92 => (bnd ((if (q92.2 != 0) then true else decide (q92.1 > x70.Max)) : Bool) fun q98 => (if q98 then some (.ret false) else ((gx q55.1 x70.To).bind fun x102 => ((gx q55.1 x70.From).bind fun x111 => ((dv (w64 ((w64 (q92.1 - x102)) + x111)) x0.Period).bind fun x120 => (bnd ((if decide (x120 < 0) then true else (if decide (x120 > 3) then true else decide (((q79.length : Nat) : Int) ≥ 24))) : Bool) fun q126 => (if q126 then some (.ret true) else ((apd q79 [(MendLink.mk x70.From x70.To x70.Min x120)]).bind fun x132 => ((gx x132 ((k69 : Nat) : Int)).bind fun x138 => ((Fishref2SlackOf (MendRound.mk x0.Period q55.1 x132) x138).bind fun q148 => FishtopTopRounds.loop1 x0 q55 rest71 (k69 + 1) (w64 (q78 + (w64 (x70.Weight * q148)))) x132)))))))))))
def FishtopTopRounds.loop4 (q212 : (List (List Int)) × Int) (k237 : Nat) : Nat → Nat → Int → Option Int
  | 0, _, q259 => some q259
  | rest251 + 1, k249, q259 => ((gx q212.1 ((k249 : Nat) : Int)).bind fun x261 => ((gx x261 ((k237 : Nat) : Int)).bind fun x274 => FishtopTopRounds.loop4 q212 k237 rest251 (k249 + 1) (mx q259 x274)))
def FishtopTopRounds.loop3 (x1 : Int) (q170 : (List (List Int)) × Int) (k196 : Nat) (q212 : (List (List Int)) × Int) : (List Int) → Nat → Option (Out Bool Unit)
  | [], _ => some (.next ())
  | _ :: rest239, k237 => ((FishtopTopRounds.loop4 q212 k237 q212.1.length 0 0).bind fun q259 => ((gx q170.1 ((k196 : Nat) : Int)).bind fun x283 => ((gx x283 ((k237 : Nat) : Int)).bind fun x295 => ((((gx q170.1 ((k196 : Nat) : Int)).bind fun x310 => ((gx x310 ((k237 : Nat) : Int)).bind fun x322 => (if decide (x322 < 0) then (if (q259 != 0) then some true else ((gx q170.1 ((k196 : Nat) : Int)).bind fun x333 => ((gx x333 ((k237 : Nat) : Int)).bind fun x345 => (if decide (x345 ≥ 0) then some (q259 != (mx 0 (w64 (x1 - x295)))) else some false)))) else ((gx q170.1 ((k196 : Nat) : Int)).bind fun x355 => ((gx x355 ((k237 : Nat) : Int)).bind fun x367 => (if decide (x367 ≥ 0) then some (q259 != (mx 0 (w64 (x1 - x295)))) else some false)))))) : Option Bool).bind fun q308 => (if q308 then some (.ret false) else FishtopTopRounds.loop3 x1 q170 k196 q212 rest239 (k237 + 1))))))
def FishtopTopRounds.loop2 (x0 : PlanPeriodic) (x1 : Int) (fu : Nat) (q55 : (List Int) × Int) (q79 : List MendLink) (q170 : (List (List Int)) × Int) : (List Int) → Nat → Option (Out Bool Unit)
  | [], _ => some (.next ())
  | _ :: rest198, k196 => ((MendSpread fu (MendRound.mk x0.Period q55.1 q79) [(MendFirst.mk ((k196 : Nat) : Int) 0 x1)] 40).bind fun q212 => (bnd ((if (q212.2 != 0) then true else (if (((q212.1.length : Nat) : Int) != 40) then true else (SlicesContainsFuncLLint_v2 q212.1 q55.1))) : Bool) fun q226 => (if q226 then some (.ret false) else ((FishtopTopRounds.loop3 x1 q170 k196 q212 q55.1 0).bind fun q236 => match q236 with | .ret r => some (.ret r) | .next () => FishtopTopRounds.loop2 x0 x1 fu q55 q79 q170 rest198 (k196 + 1)))))
def FishtopTopRounds (fu : Nat) (x0 : PlanPeriodic) (x1 : Int) : Option Bool := ((FishtopawakeMend fu).bind fun q52 => (if !q52 then some false else ((PlanSolve fu x0).bind fun q55 => (if (q55.2 != 0) then some (((q55.1).length : Int) == 0) else (if ((Fishref2TimesFault x0 q55.1) != 0) then some false else ((FishtopTopRounds.loop1 x0 q55 x0.Rules 0 0 []).bind fun q68 => match q68 with | .ret r => some r | .next (q78, q79) => ((PlanCost x0 q55.1).bind fun q150 => (bnd ((if (q150.2 != 0) then true else (q150.1 != q78)) : Bool) fun q156 => (if q156 then some false else ((MendCheckRound fu (MendRound.mk x0.Period q55.1 q79)).bind fun q160 => (if (q160 != 0) then some (q160 == 5) else ((MendRoom fu (MendRound.mk x0.Period q55.1 q79)).bind fun q170 => (bnd ((if (q170.2 != 0) then true else (if decide (x1 < 0) then true else decide (x1 > 28800))) : Bool) fun q181 => (if q181 then some (q170.2 == 0) else (bnd ((if (((q170.1).length : Int) != ((q55.1).length : Int)) then true else (SlicesContainsFuncLLint_v1 q170.1 q55.1)) : Bool) fun q190 => (if q190 then some false else ((FishtopTopRounds.loop2 x0 x1 fu q55 q79 q170 q55.1 0).bind fun q195 => match q195 with | .ret r => some r | .next () => some true)))))))))))))))))
end Go.Fp
