/- The mirrors of the functions that MendBests reaches: plain Lean functions on data. No condition. -/
import Derived.Test.YtfioafdipipcaaaFpCopy
namespace Go.Fp
structure MendArc where
  From : Int
  To : Int
  Len : Int
  deriving DecidableEq, Inhabited
-- MendArc is of one size
def MendArc.cells (x : MendArc) : List Go.Value := [.int .i64 x.From, .int .i64 x.To, .int .i64 x.Len]
def RMendArc : Rd MendArc := fun _ cs x => cs = x.cells
theorem RMendArc.mono : Rmono RMendArc := fun _ _ _ _ _ h => h
theorem RMendArc.one : Rone RMendArc := by intro s cs x h; subst h; rfl

structure MendChoice where
  Ways : List (List MendArc)
  deriving DecidableEq, Inhabited
def szMendChoice (x : MendChoice) : Nat := (szL (szL sz1)) x.Ways + 1
def RMendChoice : Rd MendChoice := fun s cs x => ∃ a0 c0, cs = [.slice a0 x.Ways.length c0] ∧ Sl 1 (RL 3 RMendArc) s a0 c0 x.Ways
theorem RMendChoice.one : Rone RMendChoice := by rintro s cs x ⟨a0, c0, rfl, _⟩; rfl
theorem RMendChoice.mono : Rmono RMendChoice := fun _ _ h _ _ ⟨a0, c0, e, h0⟩ => ⟨a0, c0, e, h0.mono (RL.mono RMendArc.mono) h⟩

structure MendGraph where
  Ready : List Int
  Last : List Int
  Due : List Int
  Arcs : List MendArc
  Choices : List MendChoice
  deriving DecidableEq, Inhabited
def szMendGraph (x : MendGraph) : Nat := (szL sz1) x.Ready + (szL sz1) x.Last + (szL sz1) x.Due + (szL sz1) x.Arcs + (szL szMendChoice) x.Choices + 1
def RMendGraph : Rd MendGraph := fun s cs x => ∃ a0 c0 a1 c1 a2 c2 a3 c3 a4 c4, cs = [.slice a0 x.Ready.length c0, .slice a1 x.Last.length c1, .slice a2 x.Due.length c2, .slice a3 x.Arcs.length c3, .slice a4 x.Choices.length c4] ∧ Sl 1 (RI .i64) s a0 c0 x.Ready ∧ Sl 1 (RI .i64) s a1 c1 x.Last ∧ Sl 1 (RI .i64) s a2 c2 x.Due ∧ Sl 3 RMendArc s a3 c3 x.Arcs ∧ Sl 1 RMendChoice s a4 c4 x.Choices
theorem RMendGraph.one : Rone RMendGraph := by rintro s cs x ⟨a0, c0, a1, c1, a2, c2, a3, c3, a4, c4, rfl, _⟩; rfl
theorem RMendGraph.mono : Rmono RMendGraph := fun _ _ h _ _ ⟨a0, c0, a1, c1, a2, c2, a3, c3, a4, c4, e, h0, h1, h2, h3, h4⟩ => ⟨a0, c0, a1, c1, a2, c2, a3, c3, a4, c4, e, h0.mono RI.mono h, h1.mono RI.mono h, h2.mono RI.mono h, h3.mono RMendArc.mono h, h4.mono RMendChoice.mono h⟩

structure MendSolver where
  times : List Int
  last : List Int
  outs : List (List MendArc)
  deriving DecidableEq, Inhabited
def szMendSolver (x : MendSolver) : Nat := (szL sz1) x.times + (szL sz1) x.last + (szL (szL sz1)) x.outs + 1
def RMendSolver : Rd MendSolver := fun s cs x => ∃ a0 c0 a1 c1 a2 c2, cs = [.slice a0 x.times.length c0, .slice a1 x.last.length c1, .slice a2 x.outs.length c2] ∧ Sl 1 (RI .i64) s a0 c0 x.times ∧ Sl 1 (RI .i64) s a1 c1 x.last ∧ Sl 1 (RL 3 RMendArc) s a2 c2 x.outs
theorem RMendSolver.one : Rone RMendSolver := by rintro s cs x ⟨a0, c0, a1, c1, a2, c2, rfl, _⟩; rfl
theorem RMendSolver.mono : Rmono RMendSolver := fun _ _ h _ _ ⟨a0, c0, a1, c1, a2, c2, e, h0, h1, h2⟩ => ⟨a0, c0, a1, c1, a2, c2, e, h0.mono RI.mono h, h1.mono RI.mono h, h2.mono (RL.mono RMendArc.mono) h⟩
def Mendwithin (x0 : Int) (x1 : Int) (x2 : Int) : Bool := (bnd ((if decide (x0 ≥ x1) then decide (x0 ≤ x2) else false) : Bool) fun q55 => q55)
def MendcheckArcs.loop1 (x0 : MendGraph) : (List MendArc) → Out Int Unit
  | [] => (.next ())
  | x55 :: rest56 => (bnd ((if !(Mendwithin x55.From 0 (w64 (((x0.Ready).length : Int) - 1))) then true else !(Mendwithin x55.To 0 (w64 (((x0.Ready).length : Int) - 1)))) : Bool) fun q73 => (if q73 then (.ret 3) else (if (x55.From == x55.To) then (.ret 1) else (if !(Mendwithin x55.Len (-28800) 28800) then (.ret 2) else MendcheckArcs.loop1 x0 rest56))))
def MendcheckArcs (x0 : MendGraph) (x1 : List MendArc) : Int := (bnd (MendcheckArcs.loop1 x0 x1) fun q53 => match q53 with | .ret r => r | .next () => 0)
def MendCheckGraph.loop1 (x0 : MendGraph) : (List Int) → Nat → Option (Out Int Unit)
  | [], _ => some (.next ())
  | x72 :: rest73, k71 => (((if !(Mendwithin x72 0 28800) then some true else ((gx x0.Last ((k71 : Nat) : Int)).bind fun x92 => (if !(Mendwithin x92 (-1) 28800) then some true else ((gx x0.Due ((k71 : Nat) : Int)).bind fun x102 => some (!(Mendwithin x102 (-1) 28800)))))) : Option Bool).bind fun q85 => (if q85 then some (.ret 2) else MendCheckGraph.loop1 x0 rest73 (k71 + 1)))
def MendCheckGraph.loop3 (x0 : MendGraph) : (List (List MendArc)) → Out Int Unit
  | [] => (.next ())
  | x137 :: rest138 => (if decide (((x137).length : Int) > 4) then (.ret 4) else (if ((MendcheckArcs x0 x137) != 0) then (.ret (MendcheckArcs x0 x137)) else MendCheckGraph.loop3 x0 rest138))
def MendCheckGraph.loop2 (x0 : MendGraph) : (List MendChoice) → Out Int Unit
  | [] => (.next ())
  | x116 :: rest117 => (if decide (((x116.Ways).length : Int) > 3) then (.ret 4) else (bnd (MendCheckGraph.loop3 x0 x116.Ways) fun q135 => match q135 with | .ret r => (.ret r) | .next () => MendCheckGraph.loop2 x0 rest117))
def MendCheckGraph (x0 : MendGraph) : Option Int := (bnd ((if decide (((x0.Ready).length : Int) > 24) then true else (if decide (((x0.Arcs).length : Int) > 250) then true else decide (((x0.Choices).length : Int) > 300))) : Bool) fun q56 => (if q56 then some 4 else (bnd ((if (((x0.Last).length : Int) != ((x0.Ready).length : Int)) then true else (((x0.Due).length : Int) != ((x0.Ready).length : Int))) : Bool) fun q65 => (if q65 then some 1 else ((MendCheckGraph.loop1 x0 x0.Ready 0).bind fun q70 => match q70 with | .ret r => some r | .next () => (if ((MendcheckArcs x0 x0.Arcs) != 0) then some (MendcheckArcs x0 x0.Arcs) else (bnd (MendCheckGraph.loop2 x0 x0.Choices) fun q114 => match q114 with | .ret r => some r | .next () => some 0)))))))
def SlicesCloneLint (x0 : List Int) : Option (List Int) := ((apd [] x0).bind fun x56 => some x56)
def SlicesCloneLLmendArc_v1 (x0 : List (List MendArc)) : Option (List (List MendArc)) := ((apd [] x0).bind fun x56 => some x56)
def SlicesCloneLmendArc (x0 : List MendArc) : Option (List MendArc) := ((apd [] x0).bind fun x56 => some x56)
def MendSolverwith_1_v1 (x0 : MendArc) (y1 : List Int) (y2 : Bool) (y3 : List Bool) (y4 : List Int) (y5 : MendSolver) : Option ((List Int) × (List Bool) × (List Int) × Bool × (List Int)) := ((gx y5.times x0.From).bind fun x78 => ((gx y5.times x0.To).bind fun x88 => (if decide ((w64 (x78 + x0.Len)) ≤ x88) then some (y1, y3, y5.times, y2, y4) else ((ix y5.times x0.To).bind fun _ => ((sx y5.times x0.To (w64 (x78 + x0.Len))).bind fun x105 => ((gx y1 x0.To).bind fun x110 => ((ix y1 x0.To).bind fun _ => ((sx y1 x0.To (w64 (x110 + 1))).bind fun x125 => (((if y2 then ((gx y5.last x0.To).bind fun x138 => (if decide (x138 < 0) then (if decide ((w64 (x78 + x0.Len)) ≤ 1099511627776) then ((gx x125 x0.To).bind fun x149 => some (decide (x149 ≤ 65536))) else some false) else ((gx y5.last x0.To).bind fun x159 => (if decide ((w64 (x78 + x0.Len)) ≤ x159) then (if decide ((w64 (x78 + x0.Len)) ≤ 1099511627776) then ((gx x125 x0.To).bind fun x170 => some (decide (x170 ≤ 65536))) else some false) else some false)))) else some false) : Option Bool).bind fun q134 => ((gx y3 x0.To).bind fun x180 => (((if !x180 then ((ix y3 x0.To).bind fun _ => ((sx y3 x0.To true).bind fun x214 => ((apd y4 [x0.To]).bind fun x220 => some (x214, x220)))) else some (y3, y4)) : Option ((List Bool) × (List Int))).bind fun q191 => match q191 with | (q194, q200) => some (x125, q194, x105, q134, q200))))))))))))
def Mendgreatestint.loop1 : (List Int) → Int → Int
  | [], q62 => q62
  | x54 :: rest55, q62 => Mendgreatestint.loop1 rest55 (mx q62 x54)
def Mendgreatestint (x0 : Int) (x1 : List Int) : Int := (bnd (Mendgreatestint.loop1 x1 x0) fun q62 => q62)
def MendSolverbound_v1.loop2 : (List MendArc) → Int → Int
  | [], q93 => q93
  | x85 :: rest86, q93 => MendSolverbound_v1.loop2 rest86 (mx q93 x85.Len)
def MendSolverbound_v1.loop1 (y0 : MendSolver) : Nat → Nat → Int → Option Int
  | 0, _, q67 => some q67
  | rest59 + 1, k57, q67 => ((gx y0.outs ((k57 : Nat) : Int)).bind fun x69 => (bnd (MendSolverbound_v1.loop2 x69 0) fun q93 => MendSolverbound_v1.loop1 y0 rest59 (k57 + 1) (w64 (q67 + q93))))
def MendSolverbound_v1 (y0 : MendSolver) : Option Int := ((MendSolverbound_v1.loop1 y0 y0.outs.length 0 (Mendgreatestint 0 y0.times)).bind fun q67 => some q67)
def MendSolverwith_v1.loop1 : (List MendArc) → (List (List MendArc)) → Option (List (List MendArc))
  | [], q86 => some q86
  | x78 :: rest79, q86 => ((gx q86 x78.From).bind fun x99 => ((SlicesCloneLmendArc x99).bind fun q112 => ((apd q112 [x78]).bind fun x121 => ((ix q86 x78.From).bind fun _ => ((sx q86 x78.From x121).bind fun x135 => MendSolverwith_v1.loop1 rest79 x135)))))
def MendSolverwith_v1.loop2 (y0 : MendSolver) (q86 : List (List MendArc)) : (List MendArc) → (List Bool) → (List Int) → (List Int) → (List Int) → Bool → Option ((List Bool) × (List Int) × (List Int) × (List Int) × Bool)
  | [], q169, q175, q181, q187, q194 => some (q169, q175, q181, q187, q194)
  | x161 :: rest162, q169, q175, q181, q187, q194 => ((MendSolverwith_1_v1 x161 q175 q194 q169 q187 (MendSolver.mk q181 y0.last q86)).bind fun q201 => MendSolverwith_v1.loop2 y0 q86 rest162 q201.2.1 q201.1 q201.2.2.1 q201.2.2.2.2 q201.2.2.2.1)
def MendSolverwith_v1.loop4 (y0 : MendSolver) (q86 : List (List MendArc)) : (List MendArc) → (List Bool) → (List Int) → (List Int) → (List Int) → Bool → Option ((List Bool) × (List Int) × (List Int) × (List Int) × Bool)
  | [], q324, q330, q336, q342, q349 => some (q324, q330, q336, q342, q349)
  | x316 :: rest317, q324, q330, q336, q342, q349 => ((MendSolverwith_1_v1 x316 q330 q349 q324 q342 (MendSolver.mk q336 y0.last q86)).bind fun q356 => MendSolverwith_v1.loop4 y0 q86 rest317 q356.2.1 q356.1 q356.2.2.1 q356.2.2.2.2 q356.2.2.2.1)
def MendSolverwith_v1.loop3 (y0 : MendSolver) (q86 : List (List MendArc)) (q217 : Int) : Nat → (List Bool) → (List Int) → (List Int) → (List Int) → Bool → Option (Out ((Option MendSolver) × Bool) ((List Bool) × (List Int) × (List Int) × (List Int) × Bool))
  | 0, _, _, _, _, _ => none
  | n221 + 1, q225, q231, q237, q243, q250 => (bnd ((if decide (((q243.length : Nat) : Int) > 0) then q250 else false) : Bool) fun q256 => (if q256 then ((gx q243 0).bind fun x260 => ((cutl q243 1 ((q243.length : Nat) : Int)).bind fun x270 => ((ix q225 x260).bind fun _ => ((sx q225 x260 false).bind fun x284 => ((gx q237 x260).bind fun x289 => (if decide (x289 > q217) then some (.ret (none, false)) else ((gx q86 x260).bind fun x300 => ((MendSolverwith_v1.loop4 y0 q86 x300 x284 q231 q237 x270 q250).bind fun q314 => match q314 with | (q324, q330, q336, q342, q349) => MendSolverwith_v1.loop3 y0 q86 q217 n221 q324 q330 q336 q342 q349)))))))) else some (.next (q225, q231, q237, q243, q250))))
def MendSolverwith_v1 (fu : Nat) (x1 : List MendArc) (y0 : MendSolver) : Option ((Option MendSolver) × Bool) := ((SlicesCloneLint y0.times).bind fun q52 => ((SlicesCloneLLmendArc_v1 y0.outs).bind fun q64 => ((MendSolverwith_v1.loop1 x1 q64).bind fun q86 => ((mks ((q52.length : Nat) : Int) (false : Bool)).bind fun x141 => ((mks ((q52.length : Nat) : Int) (0 : Int)).bind fun x148 => ((MendSolverwith_v1.loop2 y0 q86 x1 x141 x148 q52 [] true).bind fun q159 => match q159 with | (q169, q175, q181, q187, q194) => ((MendSolverbound_v1 (MendSolver.mk q181 y0.last q86)).bind fun q217 => ((MendSolverwith_v1.loop3 y0 q86 q217 fu q169 q175 q181 q187 q194).bind fun q220 => match q220 with | .ret r => some r | .next (_, _, q237, _, q250) => some ((some (MendSolver.mk q237 y0.last q86)), q250)))))))))
def Mendstart.loop1 (x0 : MendGraph) (q53 : (List Int)) : Nat → Nat → Option (Out ((Option MendSolver) × Bool) Unit)
  | 0, _ => some (.next ())
  | rest73 + 1, k71 => ((gx q53 ((k71 : Nat) : Int)).bind fun x82 => ((((gx x0.Last ((k71 : Nat) : Int)).bind fun x98 => (if decide (x98 ≥ 0) then ((gx x0.Last ((k71 : Nat) : Int)).bind fun x108 => some (decide (x82 > x108))) else some false)) : Option Bool).bind fun q96 => (if q96 then some (.ret (none, false)) else Mendstart.loop1 x0 q53 rest73 (k71 + 1))))
def Mendstart (fu : Nat) (x0 : MendGraph) : Option ((Option MendSolver) × Bool) := ((SlicesCloneLint x0.Ready).bind fun q53 => ((mks ((x0.Ready).length : Int) ([] : List MendArc)).bind fun x61 => ((Mendstart.loop1 x0 q53 q53.length 0).bind fun q70 => match q70 with | .ret r => some r | .next () => ((MendSolverwith_v1 fu x0.Arcs (MendSolver.mk q53 x0.Last x61)).bind fun q118 => some (q118.1, q118.2)))))
def SlicesCloneLLmendArc (x0 : List (List MendArc)) : Option (List (List MendArc)) := ((apd [] x0).bind fun x56 => some x56)
def MendSolverwith.loop1 : (List MendArc) → (List (List MendArc)) → Option (List (List MendArc))
  | [], q99 => some q99
  | x91 :: rest92, q99 => ((gx q99 x91.From).bind fun x112 => ((SlicesCloneLmendArc x112).bind fun q125 => ((apd q125 [x91]).bind fun x134 => ((ix q99 x91.From).bind fun _ => ((sx q99 x91.From x134).bind fun x148 => MendSolverwith.loop1 rest92 x148)))))
def MendSolverwith.loop2 (x52 : MendSolver) (q99 : List (List MendArc)) : (List MendArc) → (List Bool) → (List Int) → (List Int) → (List Int) → Bool → Option ((List Bool) × (List Int) × (List Int) × (List Int) × Bool)
  | [], q182, q188, q194, q200, q207 => some (q182, q188, q194, q200, q207)
  | x174 :: rest175, q182, q188, q194, q200, q207 => ((MendSolverwith_1_v1 x174 q188 q207 q182 q200 (MendSolver.mk q194 x52.last q99)).bind fun q214 => MendSolverwith.loop2 x52 q99 rest175 q214.2.1 q214.1 q214.2.2.1 q214.2.2.2.2 q214.2.2.2.1)
def MendSolverwith.loop4 (x52 : MendSolver) (q99 : List (List MendArc)) : (List MendArc) → (List Bool) → (List Int) → (List Int) → (List Int) → Bool → Option ((List Bool) × (List Int) × (List Int) × (List Int) × Bool)
  | [], q337, q343, q349, q355, q362 => some (q337, q343, q349, q355, q362)
  | x329 :: rest330, q337, q343, q349, q355, q362 => ((MendSolverwith_1_v1 x329 q343 q362 q337 q355 (MendSolver.mk q349 x52.last q99)).bind fun q369 => MendSolverwith.loop4 x52 q99 rest330 q369.2.1 q369.1 q369.2.2.1 q369.2.2.2.2 q369.2.2.2.1)
def MendSolverwith.loop3 (x52 : MendSolver) (q99 : List (List MendArc)) (q230 : Int) : Nat → (List Bool) → (List Int) → (List Int) → (List Int) → Bool → Option (Out ((Option MendSolver) × Bool) ((List Bool) × (List Int) × (List Int) × (List Int) × Bool))
  | 0, _, _, _, _, _ => none
  | n234 + 1, q238, q244, q250, q256, q263 => (bnd ((if decide (((q256.length : Nat) : Int) > 0) then q263 else false) : Bool) fun q269 => (if q269 then ((gx q256 0).bind fun x273 => ((cutl q256 1 ((q256.length : Nat) : Int)).bind fun x283 => ((ix q238 x273).bind fun _ => ((sx q238 x273 false).bind fun x297 => ((gx q250 x273).bind fun x302 => (if decide (x302 > q230) then some (.ret (none, false)) else ((gx q99 x273).bind fun x313 => ((MendSolverwith.loop4 x52 q99 x313 x297 q244 q250 x283 q263).bind fun q327 => match q327 with | (q337, q343, q349, q355, q362) => MendSolverwith.loop3 x52 q99 q230 n234 q337 q343 q349 q355 q362)))))))) else some (.next (q238, q244, q250, q256, q263))))
def MendSolverwith (fu : Nat) (x0 : Option MendSolver) (x1 : List MendArc) : Option ((Option MendSolver) × Bool) := ((x0).bind fun x52 => ((SlicesCloneLint x52.times).bind fun q69 => ((SlicesCloneLLmendArc x52.outs).bind fun q77 => ((MendSolverwith.loop1 x1 q77).bind fun q99 => ((mks ((q69.length : Nat) : Int) (false : Bool)).bind fun x154 => ((mks ((q69.length : Nat) : Int) (0 : Int)).bind fun x161 => ((MendSolverwith.loop2 x52 q99 x1 x154 x161 q69 [] true).bind fun q172 => match q172 with | (q182, q188, q194, q200, q207) => ((MendSolverbound_v1 (MendSolver.mk q194 x52.last q99)).bind fun q230 => ((MendSolverwith.loop3 x52 q99 q230 fu q182 q188 q194 q200 q207).bind fun q233 => match q233 with | .ret r => some r | .next (_, _, q250, _, q263) => some ((some (MendSolver.mk q250 x52.last q99)), q263))))))))))
def Mendpicked.loop1 (x0 : MendGraph) (fu : Nat) : (List Int) → Nat → (Option MendSolver) → Bool → Option ((Option MendSolver) × Bool)
  | [], _, q69, q72 => some (q69, q72)
  | x61 :: rest62, k60, q69, q72 => (bnd ((if q72 then decide (x61 > 0) else false) : Bool) fun q82 => (((if q82 then ((gx x0.Choices ((k60 : Nat) : Int)).bind fun x95 => ((gx x95.Ways (w64 (x61 - 1))).bind fun x107 => ((MendSolverwith fu q69 x107).bind fun q119 => some (q119.1, q119.2)))) else some (q69, q72)) : Option ((Option MendSolver) × Bool)).bind fun q86 => match q86 with | (q89, q92) => Mendpicked.loop1 x0 fu rest62 (k60 + 1) q89 q92))
def Mendpicked (fu : Nat) (x0 : MendGraph) (x1 : List Int) : Option ((Option MendSolver) × Bool) := ((Mendstart fu x0).bind fun q52 => ((Mendpicked.loop1 x0 fu x1 0 q52.1 q52.2).bind fun q59 => match q59 with | (q69, q72) => some (q69, q72)))
def Mendforced.loop3 (fu : Nat) (q97 : Option MendSolver) : (List (List MendArc)) → Nat → Int → Int → (Option MendSolver) → Option (Int × Int × (Option MendSolver))
  | [], _, q138, q139, q140 => some (q138, q139, q140)
  | x130 :: rest131, k129, q138, q139, q140 => ((MendSolverwith fu q97 x130).bind fun q151 => (bnd ((if q151.2 then (((k129 + 1 : Nat) : Int), w64 (q139 + 1), q151.1) else (q138, q139, q140)) : Int × Int × (Option MendSolver)) fun q158 => match q158 with | (q161, q162, q163) => Mendforced.loop3 fu q97 rest131 (k129 + 1) q161 q162 q163))
def Mendforced.loop2 (fu : Nat) : (List MendChoice) → Nat → (Option MendSolver) → Bool → (List Int) → Option (Out ((List Int) × (Option MendSolver) × Bool) ((Option MendSolver) × Bool × (List Int)))
  | [], _, q97, q100, q101 => some (.next (q97, q100, q101))
  | x89 :: rest90, k88, q97, q100, q101 => ((gx q101 ((k88 : Nat) : Int)).bind fun x116 => (if decide (x116 > 0) then Mendforced.loop2 fu rest90 (k88 + 1) q97 q100 q101 else ((Mendforced.loop3 fu q97 x89.Ways 0 0 0 none).bind fun q128 => match q128 with | (q138, q139, q140) => (((if (q139 == 0) then some (.ret ([], none, false)) else (((if (q139 == 1) then ((ix q101 ((k88 : Nat) : Int)).bind fun _ => ((sx q101 ((k88 : Nat) : Int) q138).bind fun x206 => some (q140, true, x206))) else some (q97, q100, q101)) : Option ((Option MendSolver) × Bool × (List Int))).bind fun q186 => match q186 with | (q189, q192, q193) => some (.next (q189, q192, q193)))) : Option (Out ((List Int) × (Option MendSolver) × Bool) ((Option MendSolver) × Bool × (List Int)))).bind fun q169 => match q169 with | .ret r => some (.ret r) | .next (q172, q175, q176) => Mendforced.loop2 fu rest90 (k88 + 1) q172 q175 q176))))
def Mendforced.loop1 (x0 : MendGraph) (fu : Nat) : Nat → (Option MendSolver) → Bool → (List Int) → Option (Out ((List Int) × (Option MendSolver) × Bool) ((Option MendSolver) × Bool × (List Int)))
  | 0, _, _, _ => none
  | n70 + 1, q74, q77, q78 => (if q77 then ((Mendforced.loop2 fu x0.Choices 0 q74 false q78).bind fun q87 => match q87 with | .ret r => some (.ret r) | .next (q97, q100, q101) => Mendforced.loop1 x0 fu n70 q97 q100 q101) else some (.next (q74, q77, q78)))
def Mendforced (fu : Nat) (x0 : MendGraph) (x1 : List Int) : Option ((List Int) × (Option MendSolver) × Bool) := ((Mendpicked fu x0 x1).bind fun q52 => (if !q52.2 then some ([], none, false) else ((SlicesCloneLint x1).bind fun q60 => ((Mendforced.loop1 x0 fu fu q52.1 true q60).bind fun q69 => match q69 with | .ret r => some r | .next (q74, _, q78) => some (q78, q74, true)))))
def Menddelay.loop1 (x1 : List Int) : (List Int) → Nat → Int → Option Int
  | [], _, q63 => some q63
  | x55 :: rest56, k54, q63 => (((if decide (x55 ≥ 0) then ((gx x1 ((k54 : Nat) : Int)).bind fun x76 => some (w64 (q63 + (mx 0 (w64 (x76 - x55)))))) else some q63) : Option Int).bind fun q73 => Menddelay.loop1 x1 rest56 (k54 + 1) q73)
def Menddelay (x0 : MendGraph) (x1 : List Int) : Option Int := ((Menddelay.loop1 x1 x0.Due 0 0).bind fun q63 => some q63)
def MendBest_1_v1.loop1 (x0 : Int) (x1 : Option MendSolver) (y0 : MendGraph) (y2 : List Int) (fu : Nat) (self_MendBest_1_v1 : Int → (Option MendSolver) → MendGraph → Int → (List Int) → (List Int) → (List Int) → (List Int) → Option ((List Int) × Int × (List Int) × (List Int))) (x125 : Int) : (List (List MendArc)) → Nat → (List Int) → Int → (List Int) → (List Int) → Option ((List Int) × Int × (List Int) × (List Int))
  | [], _, q158, q164, q165, q169 => some (q158, q164, q165, q169)
  | x150 :: rest151, k149, q158, q164, q165, q169 => ((MendSolverwith fu x1 x150).bind fun q181 => (((if q181.2 then ((ix q158 x125).bind fun _ => ((sx q158 x125 ((k149 + 1 : Nat) : Int)).bind fun x213 => ((self_MendBest_1_v1 (w64 (x0 + 1)) q181.1 y0 q164 y2 x213 q165 q169).bind fun q218 => some (q218.1, q218.2.1, q218.2.2.1, q218.2.2.2)))) else some (q158, q164, q165, q169)) : Option ((List Int) × Int × (List Int) × (List Int))).bind fun q188 => match q188 with | (q191, q197, q198, q202) => MendBest_1_v1.loop1 x0 x1 y0 y2 fu self_MendBest_1_v1 x125 rest151 (k149 + 1) q191 q197 q198 q202))
def MendBest_1_v1 : Nat → Int → (Option MendSolver) → MendGraph → Int → (List Int) → (List Int) → (List Int) → (List Int) → Option ((List Int) × Int × (List Int) × (List Int))
  | 0, _, _, _, _, _, _, _, _ => none
  | fu + 1, x0, x1, y0, y1, y2, y3, y4, y5 => ((x1).bind fun x81 => ((Menddelay y0 x81.times).bind fun q98 => (bnd ((if decide (y1 ≥ 0) then decide (q98 ≥ y1) else false) : Bool) fun q104 => (if q104 then some (y3, y1, y4, y5) else (if (x0 == ((y2.length : Nat) : Int)) then ((SlicesCloneLint y3).bind fun q110 => some (y3, q98, q110, x81.times)) else ((gx y2 x0).bind fun x125 => ((gx y0.Choices x125).bind fun x135 => ((MendBest_1_v1.loop1 x0 x1 y0 y2 fu (MendBest_1_v1 fu) x125 x135.Ways 0 y3 y1 y4 y5).bind fun q148 => match q148 with | (q158, q164, q165, q169) => ((ix q158 x125).bind fun _ => ((sx q158 x125 0).bind fun x236 => some (x236, q164, q165, q169)))))))))))
def MendBest.loop1 (q65 : (List Int) × (Option MendSolver) × Bool) : Nat → Nat → (List Int) → Option (List Int)
  | 0, _, q94 => some q94
  | rest86 + 1, k84, q94 => ((gx q65.1 ((k84 : Nat) : Int)).bind fun x102 => (((if (x102 == 0) then ((apd q94 [((k84 : Nat) : Int)]).bind fun x126 => some x126) else some q94) : Option (List Int)).bind fun q116 => MendBest.loop1 q65 rest86 (k84 + 1) q116))
def MendBest (fu : Nat) (x0 : MendGraph) : Option ((List Int) × (List Int) × Int) := ((MendCheckGraph x0).bind fun q52 => (if (q52 != 0) then some ([], [], q52) else ((mks ((x0.Choices).length : Int) (0 : Int)).bind fun x56 => ((Mendforced fu x0 x56).bind fun q65 => (if !q65.2.2 then some ([], [], 9) else ((MendBest.loop1 q65 q65.1.length 0 []).bind fun q94 => (if decide (((q94.length : Nat) : Int) > 10) then some ([], [], 4) else ((MendBest_1_v1 fu 0 q65.2.1 x0 (-1) q94 q65.1 [] []).bind fun q137 => (if decide (q137.2.1 < 0) then some ([], [], 9) else some (q137.2.2.1, q137.2.2.2, 0))))))))))
def Fishref2within (x0 : Int) (x1 : Int) (x2 : Int) : Bool := (bnd ((if decide (x0 ≥ x1) then decide (x0 ≤ x2) else false) : Bool) fun q55 => q55)
def Fishref2arcFault (x0 : MendArc) (x1 : Int) : Int := (bnd ((if decide (x0.From < 0) then true else (if decide (x0.From ≥ x1) then true else (if decide (x0.To < 0) then true else decide (x0.To ≥ x1)))) : Bool) fun q56 => (if q56 then 3 else (if (x0.From == x0.To) then 1 else (if !(Fishref2within x0.Len (-28800) 28800) then 2 else 0))))
def Fishref2GraphFault.loop1 (x0 : MendGraph) : (List Int) → Nat → Option (Out Int Unit)
  | [], _ => some (.next ())
  | x72 :: rest73, k71 => (((if !(Fishref2within x72 0 28800) then some true else ((gx x0.Last ((k71 : Nat) : Int)).bind fun x92 => (if !(Fishref2within x92 (-1) 28800) then some true else ((gx x0.Due ((k71 : Nat) : Int)).bind fun x102 => some (!(Fishref2within x102 (-1) 28800)))))) : Option Bool).bind fun q85 => (if q85 then some (.ret 2) else Fishref2GraphFault.loop1 x0 rest73 (k71 + 1)))
def Fishref2GraphFault.loop2 (x0 : MendGraph) : (List MendArc) → Out Int Unit
  | [] => (.next ())
  | x115 :: rest116 => (if ((Fishref2arcFault x115 ((x0.Ready).length : Int)) != 0) then (.ret (Fishref2arcFault x115 ((x0.Ready).length : Int))) else Fishref2GraphFault.loop2 x0 rest116)
def Fishref2GraphFault.loop5 (x0 : MendGraph) : (List MendArc) → Out Int Unit
  | [] => (.next ())
  | x174 :: rest175 => (if ((Fishref2arcFault x174 ((x0.Ready).length : Int)) != 0) then (.ret (Fishref2arcFault x174 ((x0.Ready).length : Int))) else Fishref2GraphFault.loop5 x0 rest175)
def Fishref2GraphFault.loop4 (x0 : MendGraph) : (List (List MendArc)) → Out Int Unit
  | [] => (.next ())
  | x154 :: rest155 => (if decide (((x154).length : Int) > 4) then (.ret 4) else (bnd (Fishref2GraphFault.loop5 x0 x154) fun q172 => match q172 with | .ret r => (.ret r) | .next () => Fishref2GraphFault.loop4 x0 rest155))
def Fishref2GraphFault.loop3 (x0 : MendGraph) : (List MendChoice) → Out Int Unit
  | [] => (.next ())
  | x133 :: rest134 => (if decide (((x133.Ways).length : Int) > 3) then (.ret 4) else (bnd (Fishref2GraphFault.loop4 x0 x133.Ways) fun q152 => match q152 with | .ret r => (.ret r) | .next () => Fishref2GraphFault.loop3 x0 rest134))
def Fishref2GraphFault (x0 : MendGraph) : Option Int := (bnd ((if decide (((x0.Ready).length : Int) > 24) then true else (if decide (((x0.Arcs).length : Int) > 250) then true else decide (((x0.Choices).length : Int) > 300))) : Bool) fun q56 => (if q56 then some 4 else (bnd ((if (((x0.Last).length : Int) != ((x0.Ready).length : Int)) then true else (((x0.Due).length : Int) != ((x0.Ready).length : Int))) : Bool) fun q65 => (if q65 then some 1 else ((Fishref2GraphFault.loop1 x0 x0.Ready 0).bind fun q70 => match q70 with | .ret r => some r | .next () => (bnd (Fishref2GraphFault.loop2 x0 x0.Arcs) fun q113 => match q113 with | .ret r => some r | .next () => (bnd (Fishref2GraphFault.loop3 x0 x0.Choices) fun q131 => match q131 with | .ret r => some r | .next () => some 0)))))))
def SlicesEqualLint.loop1 (x1 : List Int) : (List Int) → Nat → Option (Out Bool Unit)
  | [], _ => some (.next ())
  | x55 :: rest56, k54 => ((gx x1 ((k54 : Nat) : Int)).bind fun x68 => (if (x55 != x68) then some (.ret false) else SlicesEqualLint.loop1 x1 rest56 (k54 + 1)))
def SlicesEqualLint (x0 : List Int) (x1 : List Int) : Option Bool := (if (((x0).length : Int) != ((x1).length : Int)) then some false else ((SlicesEqualLint.loop1 x1 x0 0).bind fun q53 => match q53 with | .ret r => some r | .next () => some true))
def Fishlaw2graphs (fu : Nat) : Option Bool := ((MendBest fu (MendGraph.mk [0, 10] [(-1), (-1)] [0, 10] [] [(MendChoice.mk [[(MendArc.mk 0 1 20)], [(MendArc.mk 1 0 5)]])])).bind fun q94 => (((if (q94.2.2 == 0) then ((SlicesEqualLint q94.1 [1]).bind fun q117 => (if q117 then ((SlicesEqualLint q94.2.1 [0, 20]).bind fun q126 => some q126) else some false)) else some false) : Option Bool).bind fun q108 => some q108))
def Fishref2TimesOf.loop1 (x0 : MendGraph) : (List Int) → Nat → (List MendArc) → Option (List MendArc)
  | [], _, q71 => some q71
  | x63 :: rest64, k62, q71 => (((if decide (x63 > 0) then ((gx x0.Choices ((k62 : Nat) : Int)).bind fun x96 => ((gx x96.Ways (w64 (x63 - 1))).bind fun x108 => ((apd q71 x108).bind fun x120 => some x120))) else some q71) : Option (List MendArc)).bind fun q87 => Fishref2TimesOf.loop1 x0 rest64 (k62 + 1) q87)
def Fishref2TimesOf.loop3 (q71 : List MendArc) : Nat → Nat → Bool → (List Int) → Option (Bool × (List Int))
  | 0, _, q160, q161 => some (q160, q161)
  | rest152 + 1, k150, q160, q161 => ((gx q71 ((k150 : Nat) : Int)).bind fun x168 => ((gx q161 x168.From).bind fun x179 => ((gx q161 x168.To).bind fun x189 => (((if decide ((w64 (x179 + x168.Len)) > x189) then ((ix q161 x168.To).bind fun _ => ((sx q161 x168.To (w64 (x179 + x168.Len))).bind fun x217 => some (true, x217))) else some (q160, q161)) : Option (Bool × (List Int))).bind fun q200 => match q200 with | (q203, q204) => Fishref2TimesOf.loop3 q71 rest152 (k150 + 1) q203 q204))))
def Fishref2TimesOf.loop2 (q71 : List MendArc) (q126 : (List Int)) : Nat → Int → (List Int) → Option (Out ((List Int) × Bool) (Int × (List Int)))
  | 0, _, _ => none
  | n136 + 1, q140, q141 => ((Fishref2TimesOf.loop3 q71 q71.length 0 false q141).bind fun q149 => match q149 with | (q160, q161) => (if !q160 then some (.next (q140, q161)) else (if decide (q140 > ((q126.length : Nat) : Int)) then some (.ret ([], false)) else Fishref2TimesOf.loop2 q71 q126 n136 (w64 (q140 + 1)) q161)))
def Fishref2TimesOf.loop4 (x0 : MendGraph) (q141 : List Int) : Nat → Nat → Option (Out ((List Int) × Bool) Unit)
  | 0, _ => some (.next ())
  | rest229 + 1, k227 => ((gx q141 ((k227 : Nat) : Int)).bind fun x238 => ((((gx x0.Last ((k227 : Nat) : Int)).bind fun x254 => (if decide (x254 ≥ 0) then ((gx x0.Last ((k227 : Nat) : Int)).bind fun x264 => some (decide (x238 > x264))) else some false)) : Option Bool).bind fun q252 => (if q252 then some (.ret ([], false)) else Fishref2TimesOf.loop4 x0 q141 rest229 (k227 + 1))))
def Fishref2TimesOf (fu : Nat) (x0 : MendGraph) (x1 : List Int) : Option ((List Int) × Bool) := ((SlicesCloneLmendArc x0.Arcs).bind fun q52 => ((Fishref2TimesOf.loop1 x0 x1 0 q52).bind fun q71 => ((SlicesCloneLint x0.Ready).bind fun q126 => ((Fishref2TimesOf.loop2 q71 q126 fu 0 q126).bind fun q135 => match q135 with | .ret r => some r | .next (_, q141) => ((Fishref2TimesOf.loop4 x0 q141 q126.length 0).bind fun q226 => match q226 with | .ret r => some r | .next () => some (q141, true))))))
def Fishref2ForcedOf.loop3 (x0 : MendGraph) (fu : Nat) (k91 : Nat) : (List (List MendArc)) → Nat → (List Int) → (List Int) → Option ((List Int) × (List Int))
  | [], _, q139, q146 => some (q139, q146)
  | _ :: rest132, k130, q139, q146 => ((ix q146 ((k91 : Nat) : Int)).bind fun _ => ((sx q146 ((k91 : Nat) : Int) ((k130 + 1 : Nat) : Int)).bind fun x158 => ((Fishref2TimesOf fu x0 x158).bind fun q163 => (((if q163.2 then ((apd q139 [((k130 + 1 : Nat) : Int)]).bind fun x189 => some x189) else some q139) : Option (List Int)).bind fun q179 => Fishref2ForcedOf.loop3 x0 fu k91 rest132 (k130 + 1) q179 x158))))
def Fishref2ForcedOf.loop2 (x0 : MendGraph) (fu : Nat) : (List MendChoice) → Nat → Bool → (List Int) → Option (Out ((List Int) × Bool) (Bool × (List Int)))
  | [], _, q100, q101 => some (.next (q100, q101))
  | x92 :: rest93, k91, q100, q101 => ((gx q101 ((k91 : Nat) : Int)).bind fun x116 => (if decide (x116 > 0) then Fishref2ForcedOf.loop2 x0 fu rest93 (k91 + 1) q100 q101 else ((Fishref2ForcedOf.loop3 x0 fu k91 x92.Ways 0 [] q101).bind fun q129 => match q129 with | (q139, q146) => ((ix q146 ((k91 : Nat) : Int)).bind fun _ => ((sx q146 ((k91 : Nat) : Int) 0).bind fun x200 => (if (((q139.length : Nat) : Int) == 0) then some (.ret ([], false)) else (if (((q139.length : Nat) : Int) == 1) then ((gx q139 0).bind fun x208 => ((ix x200 ((k91 : Nat) : Int)).bind fun _ => ((sx x200 ((k91 : Nat) : Int) x208).bind fun x223 => some (.next (true, x223))))) else Fishref2ForcedOf.loop2 x0 fu rest93 (k91 + 1) q100 x200)))))))
def Fishref2ForcedOf.loop1 (x0 : MendGraph) (fu : Nat) : Nat → Bool → (List Int) → Option (Out ((List Int) × Bool) (Bool × (List Int)))
  | 0, _, _ => none
  | n76 + 1, q80, q81 => (if q80 then ((Fishref2ForcedOf.loop2 x0 fu x0.Choices 0 false q81).bind fun q90 => match q90 with | .ret r => some (.ret r) | .next (q100, q101) => Fishref2ForcedOf.loop1 x0 fu n76 q100 q101) else some (.next (q80, q81)))
def Fishref2ForcedOf (fu : Nat) (x0 : MendGraph) (x1 : List Int) : Option ((List Int) × Bool) := ((SlicesCloneLint x1).bind fun q52 => ((Fishref2TimesOf fu x0 q52).bind fun q60 => (if !q60.2 then some ([], false) else ((Fishref2ForcedOf.loop1 x0 fu fu true q52).bind fun q75 => match q75 with | .ret r => some r | .next (_, q81) => some (q81, true)))))
def Fishref2DelayOf.loop1 (x0 : MendGraph) : (List Int) → Nat → Int → Option Int
  | [], _, q63 => some q63
  | x55 :: rest56, k54, q63 => ((gx x0.Due ((k54 : Nat) : Int)).bind fun x69 => (((if decide (x69 ≥ 0) then ((gx x0.Due ((k54 : Nat) : Int)).bind fun x85 => some (w64 (q63 + (mx 0 (w64 (x55 - x85)))))) else some q63) : Option Int).bind fun q82 => Fishref2DelayOf.loop1 x0 rest56 (k54 + 1) q82))
def Fishref2DelayOf (x0 : MendGraph) (x1 : List Int) : Option Int := ((Fishref2DelayOf.loop1 x0 x1 0 0).bind fun q63 => some q63)
def Fishref2BestOf_1_v1.loop1 (x0 : Int) (y0 : MendGraph) (y2 : List Int) (self_Fishref2BestOf_1_v1 : Int → MendGraph → (List Int) → (List Int) → (List Int) → (List Int) → Option ((List Int) × (List Int) × (List Int))) : (List (List MendArc)) → Nat → (List Int) → (List Int) → (List Int) → Option ((List Int) × (List Int) × (List Int))
  | [], _, q173, q179, q184 => some (q173, q179, q184)
  | _ :: rest166, k164, q173, q179, q184 => ((gx y2 x0).bind fun x190 => ((ix q173 x190).bind fun _ => ((sx q173 x190 ((k164 + 1 : Nat) : Int)).bind fun x205 => ((self_Fishref2BestOf_1_v1 (w64 (x0 + 1)) y0 x205 y2 q179 q184).bind fun q210 => Fishref2BestOf_1_v1.loop1 x0 y0 y2 self_Fishref2BestOf_1_v1 rest166 (k164 + 1) q210.1 q210.2.1 q210.2.2))))
def Fishref2BestOf_1_v1 : Nat → Int → MendGraph → (List Int) → (List Int) → (List Int) → (List Int) → Option ((List Int) × (List Int) × (List Int))
  | 0, _, _, _, _, _, _ => none
  | fu + 1, x0, y0, y1, y2, y3, y4 => ((Fishref2TimesOf fu y0 y1).bind fun q81 => (if !q81.2 then some (y1, y3, y4) else (if (x0 == ((y2.length : Nat) : Int)) then (((if y3.isEmpty then some true else ((Fishref2DelayOf y0 q81.1).bind fun q102 => ((Fishref2DelayOf y0 y4).bind fun q104 => some (decide (q102 < q104))))) : Option Bool).bind fun q99 => (((if q99 then ((SlicesCloneLint y1).bind fun q121 => ((nz q121).bind fun _ => some (q121, q81.1))) else some (y3, y4)) : Option ((List Int) × (List Int))).bind fun q107 => match q107 with | (q110, q115) => some (y1, q110, q115))) else ((gx y2 x0).bind fun x140 => ((gx y0.Choices x140).bind fun x150 => ((Fishref2BestOf_1_v1.loop1 x0 y0 y2 (Fishref2BestOf_1_v1 fu) x150.Ways 0 y1 y3 y4).bind fun q163 => match q163 with | (q173, q179, q184) => ((gx y2 x0).bind fun x225 => ((ix q173 x225).bind fun _ => ((sx q173 x225 0).bind fun x240 => some (x240, q179, q184))))))))))
def Fishref2BestOf.loop1 (q59 : (List Int) × Bool) : Nat → Nat → (List Int) → Option (List Int)
  | 0, _, q86 => some q86
  | rest78 + 1, k76, q86 => ((gx q59.1 ((k76 : Nat) : Int)).bind fun x94 => (((if (x94 == 0) then ((apd q86 [((k76 : Nat) : Int)]).bind fun x118 => some x118) else some q86) : Option (List Int)).bind fun q108 => Fishref2BestOf.loop1 q59 rest78 (k76 + 1) q108))
def Fishref2BestOf (fu : Nat) (x0 : MendGraph) : Option ((List Int) × (List Int) × Int) := ((mks ((x0.Choices).length : Int) (0 : Int)).bind fun x53 => ((Fishref2ForcedOf fu x0 x53).bind fun q59 => (if !q59.2 then some ([], [], 9) else ((Fishref2BestOf.loop1 q59 q59.1.length 0 []).bind fun q86 => (if decide (((q86.length : Nat) : Int) > 10) then some ([], [], 4) else ((SlicesCloneLint q59.1).bind fun q127 => (if (((x0.Choices).length : Int) == 0) then ((Fishref2TimesOf fu x0 q59.1).bind fun q142 => some ([], q142.1, 0)) else ((Fishref2BestOf_1_v1 fu 0 x0 q127 q86 [] []).bind fun q157 => (if q157.2.1.isEmpty then some ([], [], 9) else some (q157.2.1, q157.2.2, 0))))))))))
def Fishlaw2MendBests (fu : Nat) (x0 : MendGraph) : Option Bool := ((MendBest fu x0).bind fun q52 => ((Fishref2GraphFault x0).bind fun q62 => (if (q62 != 0) then ((((Fishlaw2graphs fu).bind fun q71 => (if q71 then (if (q52.2.2 == q62) then some ((w64 (((q52.1).length : Int) + ((q52.2.1).length : Int))) == 0) else some false) else some false)) : Option Bool).bind fun q69 => some q69) else ((Fishref2BestOf fu x0).bind fun q75 => ((((Fishlaw2graphs fu).bind fun q91 => (if q91 then (if (q52.2.2 == q75.2.2) then ((SlicesEqualLint q52.1 q75.1).bind fun q95 => (if q95 then ((SlicesEqualLint q52.2.1 q75.2.1).bind fun q98 => some q98) else some false)) else some false) else some false)) : Option Bool).bind fun q89 => some q89)))))
end Go.Fp
