/- The mirrors of the functions that FleetShunts reaches: plain Lean functions on data. No condition. -/
import Derived.Test.YtfhkpdnohcidgaaDoorFpCopy
import Derived.Test.YtfhkpdnohcidgaaDoorFpMapG
namespace Go.Fp
structure FleetDepot where
  Room : List Int
  Tracks : List (List Int)
  deriving DecidableEq, Inhabited
def szFleetDepot (x : FleetDepot) : Nat := (szL sz1) x.Room + (szL (szL sz1)) x.Tracks + 1
def RFleetDepot : Rd FleetDepot := fun s cs x => ∃ a0 c0 a1 c1, cs = [.slice a0 x.Room.length c0, .slice a1 x.Tracks.length c1] ∧ Sl 1 (RI .i64) s a0 c0 x.Room ∧ Sl 1 (RL 1 (RI .i64)) s a1 c1 x.Tracks
theorem RFleetDepot.one : Rone RFleetDepot := by rintro s cs x ⟨a0, c0, a1, c1, rfl, _⟩; rfl
theorem RFleetDepot.mono : Rmono RFleetDepot := fun _ _ h _ _ ⟨a0, c0, a1, c1, e, h0, h1⟩ => ⟨a0, c0, a1, c1, e, h0.mono RI.mono h, h1.mono (RL.mono RI.mono) h⟩

structure FleetMove where
  From : Int
  To : Int
  deriving DecidableEq, Inhabited
-- FleetMove is of one size
def FleetMove.cells (x : FleetMove) : List Go.Value := [.int .i64 x.From, .int .i64 x.To]
def RFleetMove : Rd FleetMove := fun _ cs x => cs = x.cells
theorem RFleetMove.mono : Rmono RFleetMove := fun _ _ _ _ _ h => h
theorem RFleetMove.one : Rone RFleetMove := by intro s cs x h; subst h; rfl

structure Fishref2Yard where
  d : FleetDepot
  gone : Int
  moves : List FleetMove
  deriving DecidableEq, Inhabited
def szFishref2Yard (x : Fishref2Yard) : Nat := szFleetDepot x.d + (szL sz1) x.moves + 1
def RFishref2Yard : Rd Fishref2Yard := fun s cs x => ∃ a0 c0 a1 c1 a2 c2, cs = [.slice a0 x.d.Room.length c0, .slice a1 x.d.Tracks.length c1, .int .i64 x.gone, .slice a2 x.moves.length c2] ∧ Sl 1 (RI .i64) s a0 c0 x.d.Room ∧ Sl 1 (RL 1 (RI .i64)) s a1 c1 x.d.Tracks ∧ Sl 2 RFleetMove s a2 c2 x.moves
theorem RFishref2Yard.one : Rone RFishref2Yard := by rintro s cs x ⟨a0, c0, a1, c1, a2, c2, rfl, _⟩; rfl
theorem RFishref2Yard.mono : Rmono RFishref2Yard := fun _ _ h _ _ ⟨a0, c0, a1, c1, a2, c2, e, h0, h1, h2⟩ => ⟨a0, c0, a1, c1, a2, c2, e, h0.mono RI.mono h, h1.mono (RL.mono RI.mono) h, h2.mono RFleetMove.mono h⟩

structure FleetTry where
  depot : FleetDepot
  left : Int
  moves : List FleetMove
  deriving DecidableEq, Inhabited
def szFleetTry (x : FleetTry) : Nat := szFleetDepot x.depot + (szL sz1) x.moves + 1
def RFleetTry : Rd FleetTry := fun s cs x => ∃ a0 c0 a1 c1 a2 c2, cs = [.slice a0 x.depot.Room.length c0, .slice a1 x.depot.Tracks.length c1, .int .i64 x.left, .slice a2 x.moves.length c2] ∧ Sl 1 (RI .i64) s a0 c0 x.depot.Room ∧ Sl 1 (RL 1 (RI .i64)) s a1 c1 x.depot.Tracks ∧ Sl 2 RFleetMove s a2 c2 x.moves
theorem RFleetTry.one : Rone RFleetTry := by rintro s cs x ⟨a0, c0, a1, c1, a2, c2, rfl, _⟩; rfl
theorem RFleetTry.mono : Rmono RFleetTry := fun _ _ h _ _ ⟨a0, c0, a1, c1, a2, c2, e, h0, h1, h2⟩ => ⟨a0, c0, a1, c1, a2, c2, e, h0.mono RI.mono h, h1.mono (RL.mono RI.mono) h, h2.mono RFleetMove.mono h⟩

structure FleetQueueTry where
  list : List FleetTry
  deriving DecidableEq, Inhabited
def szFleetQueueTry (x : FleetQueueTry) : Nat := (szL szFleetTry) x.list + 1
def RFleetQueueTry : Rd FleetQueueTry := fun s cs x => ∃ a0 c0, cs = [.slice a0 x.list.length c0] ∧ Sl 4 RFleetTry s a0 c0 x.list
theorem RFleetQueueTry.one : Rone RFleetQueueTry := by rintro s cs x ⟨a0, c0, rfl, _⟩; rfl
theorem RFleetQueueTry.mono : Rmono RFleetQueueTry := fun _ _ h _ _ ⟨a0, c0, e, h0⟩ => ⟨a0, c0, e, h0.mono RFleetTry.mono h⟩
def Fleetwithin (x0 : Int) (x1 : Int) (x2 : Int) : Bool := (bnd ((if decide (x0 ≥ x1) then decide (x0 ≤ x2) else false) : Bool) fun q55 => q55)
def FleetCheckDepot.loop2 : (List Int) → (List (Int × Bool)) → Out Int (List (Int × Bool))
  | [], q106 => (.next q106)
  | x98 :: rest99, q106 => (if !(Fleetwithin x98 0 99) then (.ret 2) else (if ((mget q106 x98).getD false) then (.ret 6) else FleetCheckDepot.loop2 rest99 (mput q106 x98 true)))
def FleetCheckDepot.loop1 (x0 : FleetDepot) : (List (List Int)) → Nat → (List (Int × Bool)) → Option (Out Int (List (Int × Bool)))
  | [], _, q66 => some (.next q66)
  | x58 :: rest59, k57, q66 => ((gx x0.Room ((k57 : Nat) : Int)).bind fun x75 => (if !(Fleetwithin x75 1 4) then some (.ret 2) else ((gx x0.Room ((k57 : Nat) : Int)).bind fun x85 => (if decide (((x58).length : Int) > x85) then some (.ret 14) else (bnd (FleetCheckDepot.loop2 x58 q66) fun q96 => match q96 with | .ret r => some (.ret r) | .next q106 => FleetCheckDepot.loop1 x0 rest59 (k57 + 1) q106)))))
def FleetCheckDepot (x0 : FleetDepot) : Option Int := (if !(Fleetwithin ((x0.Room).length : Int) 1 4) then some 4 else (if (((x0.Tracks).length : Int) != ((x0.Room).length : Int)) then some 1 else ((FleetCheckDepot.loop1 x0 x0.Tracks 0 []).bind fun q56 => match q56 with | .ret r => some r | .next _ => some 0)))
def FleetShunt_1_v1 (x0 : Int) (y0 : List Int) : Bool := decide (x0 ≥ ((y0).length : Int))
def SlicesIndexFuncLint_v1.loop1 (y0 : List Int) : (List Int) → Nat → Out Int Unit
  | [], _ => (.next ())
  | x54 :: rest55, k53 => (if (FleetShunt_1_v1 x54 y0) then (.ret ((k53 : Nat) : Int)) else SlicesIndexFuncLint_v1.loop1 y0 rest55 (k53 + 1))
def SlicesIndexFuncLint_v1 (x0 : List Int) (y0 : List Int) : Int := (bnd (SlicesIndexFuncLint_v1.loop1 y0 x0 0) fun q52 => match q52 with | .ret r => r | .next () => (-1))
def SlicesContainsFuncLint_v1 (x0 : List Int) (y0 : List Int) : Bool := decide ((SlicesIndexFuncLint_v1 x0 y0) ≥ 0)
def FleetstateOf.loop2 (k60 : Nat) : (List Int) → Nat → (List Int) → Option (List Int)
  | [], _, q94 => some q94
  | x86 :: rest87, k85, q94 => ((bx 4 ((k60 : Nat) : Int)).bind fun _ => ((bx 4 ((k85 : Nat) : Int)).bind fun _ => ((sx q94 (((k60 : Nat) : Int) * 4 + ((k85 : Nat) : Int)) (w64 (x86 + 1))).bind fun x111 => FleetstateOf.loop2 k60 rest87 (k85 + 1) x111)))
def FleetstateOf.loop1 : (List (List Int)) → Nat → (List Int) → Option (List Int)
  | [], _, q69 => some q69
  | x61 :: rest62, k60, q69 => ((FleetstateOf.loop2 k60 x61 0 q69).bind fun q94 => FleetstateOf.loop1 rest62 (k60 + 1) q94)
def FleetstateOf (x0 : FleetDepot) : Option (List Int) := ((FleetstateOf.loop1 x0.Tracks 0 [0, 0, 0, 0, 0, 0, 0, 0, 0, 0, 0, 0, 0, 0, 0, 0]).bind fun q69 => some q69)
def FleetQueueputfleettry_v1 (x1 : FleetTry) (y0 : FleetQueueTry) : Option (List FleetTry) := ((apd y0.list [x1]).bind fun x61 => some x61)
def FleetQueuetakefleettry_v1 (y0 : FleetQueueTry) : Option (FleetTry × Bool × (List FleetTry)) := (if (((y0.list.length : Nat) : Int) == 0) then some ((FleetTry.mk (FleetDepot.mk [] []) 0 []), false, y0.list) else ((gx y0.list 0).bind fun x68 => ((cutl y0.list 1 ((y0.list.length : Nat) : Int)).bind fun x88 => some (x68, true, x88))))
def Fleetdo_1_v1 (x0 : Int) (y0 : FleetDepot) : Bool := (Fleetwithin x0 0 (w64 (((y0.Tracks).length : Int) - 1)))
def SlicesCloneLint (x0 : List Int) : Option (List Int) := ((apd [] x0).bind fun x56 => some x56)
def Fleetdo.loop1 : (List (List Int)) → (List (List Int)) → Option (List (List Int))
  | [], q127 => some q127
  | x119 :: rest120, q127 => ((SlicesCloneLint x119).bind fun q143 => ((apd q127 [q143]).bind fun x152 => Fleetdo.loop1 rest120 x152))
def Fleetdo (x0 : FleetDepot) (x1 : FleetMove) : Option (FleetDepot × Int × Int) := (bnd ((if !(Fleetdo_1_v1 x1.From x0) then true else (if !(Fleetdo_1_v1 x1.To x0) then (x1.To != (-1)) else false)) : Bool) fun q58 => (if q58 then some ((FleetDepot.mk [] []), 0, 2) else (if (x1.From == x1.To) then some ((FleetDepot.mk [] []), 0, 1) else ((gx x0.Tracks x1.From).bind fun x64 => (if (((x64).length : Int) == 0) then some ((FleetDepot.mk [] []), 0, 9) else (((if decide (x1.To ≥ 0) then ((gx x0.Tracks x1.To).bind fun x84 => ((gx x0.Room x1.To).bind fun x96 => some (decide (((x84).length : Int) ≥ x96)))) else some false) : Option Bool).bind fun q81 => (if q81 then some ((FleetDepot.mk [] []), 0, 14) else ((SlicesCloneLint x0.Room).bind fun q106 => ((Fleetdo.loop1 x0.Tracks []).bind fun q127 => ((gx q127 x1.From).bind fun x158 => ((gx x158 (w64 (((x158).length : Int) - 1))).bind fun x168 => ((cutl x158 0 (w64 (((x158).length : Int) - 1))).bind fun x180 => ((ix q127 x1.From).bind fun _ => ((sx q127 x1.From x180).bind fun x192 => (((if decide (x1.To ≥ 0) then ((gx x192 x1.To).bind fun x211 => ((apd x211 [x168]).bind fun x223 => ((ix x192 x1.To).bind fun _ => ((sx x192 x1.To x223).bind fun x232 => some x232)))) else some x192) : Option (List (List Int))).bind fun q201 => some ((FleetDepot.mk q106 q201), x168, 0))))))))))))))))
def SlicesCloneLfleetMove (x0 : List FleetMove) : Option (List FleetMove) := ((apd [] x0).bind fun x56 => some x56)
def FleetShunt.loop1 : (List (List Int)) → Int → Int
  | [], q67 => q67
  | x59 :: rest60, q67 => FleetShunt.loop1 rest60 (w64 (q67 + ((x59).length : Int)))
def FleetShunt.loop2 (x1 : List Int) : (List (List Int)) → Out ((List FleetMove) × Int) Unit
  | [] => (.next ())
  | x80 :: rest81 => (if (SlicesContainsFuncLint_v1 x80 x1) then (.ret ([], 2)) else FleetShunt.loop2 x1 rest81)
def FleetShunt.loop5 (x0 : FleetDepot) (x1 : List Int) (x2 : List Int) (q127 : FleetTry × Bool × (List FleetTry)) (k152 : Nat) : Nat → Int → (List FleetTry) → (List (PadK (4 * 4) × Bool)) → Option (Int × (List FleetTry) × (List (PadK (4 * 4) × Bool)))
  | 0, _, _, _ => none
  | n172 + 1, q176, q177, q184 => (if decide (q176 < ((x0.Tracks).length : Int)) then ((Fleetdo q127.1.depot (FleetMove.mk ((k152 : Nat) : Int) q176)).bind fun q188 => (((if (q188.2.2 != 0) then some true else (if decide (q176 < 0) then ((gx x1 q188.2.1).bind fun x209 => ((gx x2 q127.1.left).bind fun x218 => some (x209 != x218))) else some false)) : Option Bool).bind fun q205 => (if q205 then FleetShunt.loop5 x0 x1 x2 q127 k152 n172 (w64 (q176 + 1)) q177 q184 else ((SlicesCloneLfleetMove q127.1.moves).bind fun q229 => ((apd q229 [(FleetMove.mk ((k152 : Nat) : Int) q176)]).bind fun x238 => (bnd ((if decide (q176 < 0) then w64 (q127.1.left + 1) else q127.1.left) : Int) fun q250 => ((FleetstateOf q188.1).bind fun q253 => (if !((mget q184 (PadK.mk q253 : PadK (4 * 4))).getD false) then ((FleetQueueputfleettry_v1 (FleetTry.mk q188.1 q250 x238) (FleetQueueTry.mk q177)).bind fun q266 => FleetShunt.loop5 x0 x1 x2 q127 k152 n172 (w64 (q176 + 1)) q266 (mput q184 (PadK.mk q253 : PadK (4 * 4)) true)) else FleetShunt.loop5 x0 x1 x2 q127 k152 n172 (w64 (q176 + 1)) q177 q184)))))))) else some (q176, q177, q184))
def FleetShunt.loop4 (x0 : FleetDepot) (x1 : List Int) (x2 : List Int) (fu : Nat) (q127 : FleetTry × Bool × (List FleetTry)) : (List (List Int)) → Nat → (List FleetTry) → (List (PadK (4 * 4) × Bool)) → Option ((List FleetTry) × (List (PadK (4 * 4) × Bool)))
  | [], _, q161, q168 => some (q161, q168)
  | _ :: rest154, k152, q161, q168 => ((FleetShunt.loop5 x0 x1 x2 q127 k152 fu (-1) q161 q168).bind fun q171 => match q171 with | (_, q177, q184) => FleetShunt.loop4 x0 x1 x2 fu q127 rest154 (k152 + 1) q177 q184)
def FleetShunt.loop3 (x0 : FleetDepot) (x1 : List Int) (x2 : List Int) (fu : Nat) : Nat → (List FleetTry) → (List (PadK (4 * 4) × Bool)) → Option (Out ((List FleetMove) × Int) ((List FleetTry) × (List (PadK (4 * 4) × Bool))))
  | 0, _, _ => none
  | n114 + 1, q118, q125 => ((FleetQueuetakefleettry_v1 (FleetQueueTry.mk q118)).bind fun q127 => (if !q127.2.1 then some (.ret ([], 9)) else (if (q127.1.left == ((x2).length : Int)) then some (.ret (q127.1.moves, 0)) else ((FleetShunt.loop4 x0 x1 x2 fu q127 x0.Tracks 0 q127.2.2 q125).bind fun q151 => match q151 with | (q161, q168) => FleetShunt.loop3 x0 x1 x2 fu n114 q161 q168))))
def FleetShunt (fu : Nat) (x0 : FleetDepot) (x1 : List Int) (x2 : List Int) : Option ((List FleetMove) × Int) := ((FleetCheckDepot x0).bind fun q53 => (if (q53 != 0) then some ([], q53) else (bnd (FleetShunt.loop1 x0.Tracks 0) fun q67 => (if decide (q67 > 6) then some ([], 4) else (bnd (FleetShunt.loop2 x1 x0.Tracks) fun q78 => match q78 with | .ret r => some r | .next () => (if decide (((x2).length : Int) > q67) then some ([], 9) else ((FleetstateOf x0).bind fun q99 => ((FleetQueueputfleettry_v1 (FleetTry.mk x0 0 []) (FleetQueueTry.mk [])).bind fun q105 => ((FleetShunt.loop3 x0 x1 x2 fu fu q105 (mput [] (PadK.mk q99 : PadK (4 * 4)) true)).bind fun q113 => match q113 with | .ret r => some r | .next _ => none)))))))))
def Fishref2within (x0 : Int) (x1 : Int) (x2 : Int) : Bool := (bnd ((if decide (x0 ≥ x1) then decide (x0 ≤ x2) else false) : Bool) fun q55 => q55)
def SlicesIndexLint.loop1 (x1 : Int) : (List Int) → Nat → Out Int Unit
  | [], _ => (.next ())
  | x54 :: rest55, k53 => (if (x1 == x54) then (.ret ((k53 : Nat) : Int)) else SlicesIndexLint.loop1 x1 rest55 (k53 + 1))
def SlicesIndexLint (x0 : List Int) (x1 : Int) : Int := (bnd (SlicesIndexLint.loop1 x1 x0 0) fun q52 => match q52 with | .ret r => r | .next () => (-1))
def SlicesContainsLint (x0 : List Int) (x1 : Int) : Bool := decide ((SlicesIndexLint x0 x1) ≥ 0)
def Fishref2DepotFault.loop2 : (List Int) → (List Int) → Option (Out Int (List Int))
  | [], q115 => some (.next q115)
  | x107 :: rest108, q115 => (if !(Fishref2within x107 0 99) then some (.ret 2) else (if (SlicesContainsLint q115 x107) then some (.ret 6) else ((apd q115 [x107]).bind fun x134 => Fishref2DepotFault.loop2 rest108 x134)))
def Fishref2DepotFault.loop1 (x0 : FleetDepot) : (List Int) → Nat → (List Int) → Option (Out Int (List Int))
  | [], _, q66 => some (.next q66)
  | x58 :: rest59, k57, q66 => (if !(Fishref2within x58 1 4) then some (.ret 2) else ((gx x0.Tracks ((k57 : Nat) : Int)).bind fun x79 => (if decide (((x79).length : Int) > x58) then some (.ret 14) else ((gx x0.Tracks ((k57 : Nat) : Int)).bind fun x92 => ((Fishref2DepotFault.loop2 x92 q66).bind fun q105 => match q105 with | .ret r => some (.ret r) | .next q115 => Fishref2DepotFault.loop1 x0 rest59 (k57 + 1) q115)))))
def Fishref2DepotFault (x0 : FleetDepot) : Option Int := (if !(Fishref2within ((x0.Room).length : Int) 1 4) then some 4 else (if (((x0.Tracks).length : Int) != ((x0.Room).length : Int)) then some 1 else ((Fishref2DepotFault.loop1 x0 x0.Room 0 []).bind fun q56 => match q56 with | .ret r => some r | .next _ => some 0)))
def Fishref2ShuntFault.loop1 : (List (List Int)) → Int → Int
  | [], q66 => q66
  | x58 :: rest59, q66 => Fishref2ShuntFault.loop1 rest59 (w64 (q66 + ((x58).length : Int)))
def Fishref2ShuntFault.loop3 (x1 : List Int) : (List Int) → Out Int Unit
  | [] => (.next ())
  | x98 :: rest99 => (if decide (x98 ≥ ((x1).length : Int)) then (.ret 2) else Fishref2ShuntFault.loop3 x1 rest99)
def Fishref2ShuntFault.loop2 (x1 : List Int) : (List (List Int)) → Out Int Unit
  | [] => (.next ())
  | x79 :: rest80 => (bnd (Fishref2ShuntFault.loop3 x1 x79) fun q96 => match q96 with | .ret r => (.ret r) | .next () => Fishref2ShuntFault.loop2 x1 rest80)
def Fishref2ShuntFault (x0 : FleetDepot) (x1 : List Int) : Option Int := ((Fishref2DepotFault x0).bind fun q52 => (if (q52 != 0) then some q52 else (bnd (Fishref2ShuntFault.loop1 x0.Tracks 0) fun q66 => (if decide (q66 > 6) then some 4 else (bnd (Fishref2ShuntFault.loop2 x1 x0.Tracks) fun q77 => match q77 with | .ret r => some r | .next () => some 0)))))
def FleetBehind.loop1 (x1 : Int) : (List (List Int)) → Out (Int × Int) Unit
  | [] => (.next ())
  | x58 :: rest59 => (if decide ((SlicesIndexLint x58 x1) ≥ 0) then (.ret (w64 ((w64 (((x58).length : Int) - 1)) - (SlicesIndexLint x58 x1)), 0)) else FleetBehind.loop1 x1 rest59)
def FleetBehind (x0 : FleetDepot) (x1 : Int) : Option (Int × Int) := ((FleetCheckDepot x0).bind fun q52 => (if (q52 != 0) then some (0, q52) else (bnd (FleetBehind.loop1 x1 x0.Tracks) fun q56 => match q56 with | .ret r => some r | .next () => some (0, 9))))
def Fishlaw2yards : Option Bool := ((FleetBehind (FleetDepot.mk [3, 1] [[0, 1], []]) 0).bind fun q76 => (bnd ((if (q76.2 == 0) then (q76.1 == 1) else false) : Bool) fun q82 => some q82))
def InternalStrconvsmall (x0 : Int) : Option ByteArray := (if decide (x0 < 10) then ((scut (str [48, 49, 50, 51, 52, 53, 54, 55, 56, 57, 97, 98, 99, 100, 101, 102, 103, 104, 105, 106, 107, 108, 109, 110, 111, 112, 113, 114, 115, 116, 117, 118, 119, 120, 121, 122]) x0 (w64 (x0 + 1))).bind fun x52 => some x52) else ((scut (str [48, 48, 48, 49, 48, 50, 48, 51, 48, 52, 48, 53, 48, 54, 48, 55, 48, 56, 48, 57, 49, 48, 49, 49, 49, 50, 49, 51, 49, 52, 49, 53, 49, 54, 49, 55, 49, 56, 49, 57, 50, 48, 50, 49, 50, 50, 50, 51, 50, 52, 50, 53, 50, 54, 50, 55, 50, 56, 50, 57, 51, 48, 51, 49, 51, 50, 51, 51, 51, 52, 51, 53, 51, 54, 51, 55, 51, 56, 51, 57, 52, 48, 52, 49, 52, 50, 52, 51, 52, 52, 52, 53, 52, 54, 52, 55, 52, 56, 52, 57, 53, 48, 53, 49, 53, 50, 53, 51, 53, 52, 53, 53, 53, 54, 53, 55, 53, 56, 53, 57, 54, 48, 54, 49, 54, 50, 54, 51, 54, 52, 54, 53, 54, 54, 54, 55, 54, 56, 54, 57, 55, 48, 55, 49, 55, 50, 55, 51, 55, 52, 55, 53, 55, 54, 55, 55, 55, 56, 55, 57, 56, 48, 56, 49, 56, 50, 56, 51, 56, 52, 56, 53, 56, 54, 56, 55, 56, 56, 56, 57, 57, 48, 57, 49, 57, 50, 57, 51, 57, 52, 57, 53, 57, 54, 57, 55, 57, 56, 57, 57]) (w64 (x0 * 2)) (w64 ((w64 (x0 * 2)) + 2))).bind fun x54 => some x54))
def MathBitsLen64 (x0 : Int) : Option Int := (bnd ((if decide (x0 ≥ 4294967296) then (Int.fdiv x0 (2 ^ (min (Int.toNat 32) (IntKind.bits .u64))), 32) else (x0, 0)) : Int × Int) fun q52 => match q52 with | (q55, q56) => (bnd ((if decide (q55 ≥ 65536) then (Int.fdiv q55 (2 ^ (min (Int.toNat 16) (IntKind.bits .u64))), w64 (q56 + 16)) else (q55, q56)) : Int × Int) fun q60 => match q60 with | (q63, q64) => (bnd ((if decide (q63 ≥ 256) then (Int.fdiv q63 (2 ^ (min (Int.toNat 8) (IntKind.bits .u64))), w64 (q64 + 8)) else (q63, q64)) : Int × Int) fun q68 => match q68 with | (q71, q72) => ((sgx (str [0, 1, 2, 2, 3, 3, 3, 3, 4, 4, 4, 4, 4, 4, 4, 4, 5, 5, 5, 5, 5, 5, 5, 5, 5, 5, 5, 5, 5, 5, 5, 5, 6, 6, 6, 6, 6, 6, 6, 6, 6, 6, 6, 6, 6, 6, 6, 6, 6, 6, 6, 6, 6, 6, 6, 6, 6, 6, 6, 6, 6, 6, 6, 6, 7, 7, 7, 7, 7, 7, 7, 7, 7, 7, 7, 7, 7, 7, 7, 7, 7, 7, 7, 7, 7, 7, 7, 7, 7, 7, 7, 7, 7, 7, 7, 7, 7, 7, 7, 7, 7, 7, 7, 7, 7, 7, 7, 7, 7, 7, 7, 7, 7, 7, 7, 7, 7, 7, 7, 7, 7, 7, 7, 7, 7, 7, 7, 7, 8, 8, 8, 8, 8, 8, 8, 8, 8, 8, 8, 8, 8, 8, 8, 8, 8, 8, 8, 8, 8, 8, 8, 8, 8, 8, 8, 8, 8, 8, 8, 8, 8, 8, 8, 8, 8, 8, 8, 8, 8, 8, 8, 8, 8, 8, 8, 8, 8, 8, 8, 8, 8, 8, 8, 8, 8, 8, 8, 8, 8, 8, 8, 8, 8, 8, 8, 8, 8, 8, 8, 8, 8, 8, 8, 8, 8, 8, 8, 8, 8, 8, 8, 8, 8, 8, 8, 8, 8, 8, 8, 8, 8, 8, 8, 8, 8, 8, 8, 8, 8, 8, 8, 8, 8, 8, 8, 8, 8, 8, 8, 8, 8, 8, 8, 8, 8, 8, 8, 8, 8, 8, 8, 8, 8, 8, 8, 8]) (IntKind.wrap .u8 q71)).bind fun x75 => some (w64 (q72 + (w64 x75)))))))
def InternalStrconvlog10Pow2 (x0 : Int) : Int := Int.fdiv (w64 (x0 * 78913)) (2 ^ (min (Int.toNat 18) (IntKind.bits .i64)))
def InternalStrconvisPowerOfTwo (x0 : Int) : Bool := ((IntKind.wrap .i64 ((BitVec.ofInt (IntKind.bits .i64) x0 &&& BitVec.ofInt (IntKind.bits .i64) (w64 (x0 - 1))).toNat : Int)) == 0)
def MathBitsTrailingZeros (_x0 : Int) : Option Int := none
def InternalStrconvFormatInt (x0 : Int) (x1 : Int) : Option ByteArray := (if (x1 == 10) then (bnd ((if decide (0 ≤ x0) then decide (x0 < 100) else false) : Bool) fun q56 => (if q56 then ((InternalStrconvsmall x0).bind fun q60 => some q60) else (bnd ((if decide (x0 < 0) then IntKind.wrap .u64 (0 - (IntKind.wrap .u64 x0)) else IntKind.wrap .u64 x0) : Int) fun _ => none))) else none)
def InternalStrconvItoa (x0 : Int) : Option ByteArray := ((InternalStrconvFormatInt x0 10).bind fun q51 => some q51)
def StrconvItoa (x0 : Int) : Option ByteArray := ((InternalStrconvItoa x0).bind fun q51 => some q51)
def Fishref2Yardname.loop2 : (List Int) → ByteArray → Option ByteArray
  | [], q87 => some q87
  | x79 :: rest80, q87 => ((StrconvItoa x79).bind fun q93 => ((scat q93 (str [44])).bind fun x95 => ((scat q87 x95).bind fun x97 => Fishref2Yardname.loop2 rest80 x97)))
def Fishref2Yardname.loop1 : (List (List Int)) → ByteArray → Option ByteArray
  | [], q65 => some q65
  | x57 :: rest58, q65 => ((scat q65 (str [124])).bind fun x74 => ((Fishref2Yardname.loop2 x57 x74).bind fun q87 => Fishref2Yardname.loop1 rest58 q87))
def Fishref2Yardname (x0 : Fishref2Yard) : Option ByteArray := ((StrconvItoa x0.gone).bind fun q52 => ((Fishref2Yardname.loop1 x0.d.Tracks q52).bind fun q65 => some q65))
def Fishref2Moved.loop1 : (List (List Int)) → (List (List Int)) → Option (List (List Int))
  | [], q128 => some q128
  | x120 :: rest121, q128 => ((SlicesCloneLint x120).bind fun q144 => ((apd q128 [q144]).bind fun x153 => Fishref2Moved.loop1 rest121 x153))
def Fishref2Moved (x0 : FleetDepot) (x1 : FleetMove) : Option (FleetDepot × Int × Int) := (bnd ((if decide (x1.From < 0) then true else (if decide (x1.From ≥ ((x0.Room).length : Int)) then true else (if decide (x1.To < (-1)) then true else decide (x1.To ≥ ((x0.Room).length : Int))))) : Bool) fun q58 => (if q58 then some ((FleetDepot.mk [] []), (-1), 2) else (if (x1.From == x1.To) then some ((FleetDepot.mk [] []), (-1), 1) else ((gx x0.Tracks x1.From).bind fun x65 => (if (((x65).length : Int) == 0) then some ((FleetDepot.mk [] []), (-1), 9) else (((if decide (x1.To ≥ 0) then ((gx x0.Tracks x1.To).bind fun x85 => ((gx x0.Room x1.To).bind fun x97 => some (decide (((x85).length : Int) ≥ x97)))) else some false) : Option Bool).bind fun q82 => (if q82 then some ((FleetDepot.mk [] []), (-1), 14) else ((SlicesCloneLint x0.Room).bind fun q107 => ((Fishref2Moved.loop1 x0.Tracks []).bind fun q128 => ((gx q128 x1.From).bind fun x159 => ((gx x159 (w64 (((x159).length : Int) - 1))).bind fun x169 => ((cutl x159 0 (w64 (((x159).length : Int) - 1))).bind fun x181 => ((ix q128 x1.From).bind fun _ => ((sx q128 x1.From x181).bind fun x193 => (if decide (x1.To < 0) then some ((FleetDepot.mk q107 x193), x169, 0) else ((gx x193 x1.To).bind fun x206 => ((apd x206 [x169]).bind fun x218 => ((ix x193 x1.To).bind fun _ => ((sx x193 x1.To x218).bind fun x227 => some ((FleetDepot.mk q107 x227), (-1), 0))))))))))))))))))))
def Fishref2ShuntOf.loop2 (x2 : List Int) : (List Fishref2Yard) → Out ((List FleetMove) × Int) Unit
  | [] => (.next ())
  | x98 :: rest99 => (if (x98.gone == ((x2).length : Int)) then (.ret (x98.moves, 0)) else Fishref2ShuntOf.loop2 x2 rest99)
def Fishref2ShuntOf.loop5 (x0 : FleetDepot) (x1 : List Int) (x2 : List Int) (x126 : Fishref2Yard) (k159 : Nat) : Nat → (List Fishref2Yard) → Int → (List (ByteArray × Bool)) → Option ((List Fishref2Yard) × Int × (List (ByteArray × Bool)))
  | 0, _, _, _ => none
  | n179 + 1, q183, q190, q191 => (if decide (q190 < ((x0.Room).length : Int)) then ((Fishref2Moved x126.d (FleetMove.mk ((k159 : Nat) : Int) q190)).bind fun q194 => (((if (q194.2.2 != 0) then some true else (if decide (q194.2.1 ≥ 0) then (if decide (x126.gone ≥ ((x2).length : Int)) then some true else ((gx x1 q194.2.1).bind fun x216 => ((gx x2 x126.gone).bind fun x225 => some (x216 != x225)))) else some false)) : Option Bool).bind fun q211 => (if q211 then Fishref2ShuntOf.loop5 x0 x1 x2 x126 k159 n179 q183 (w64 (q190 + 1)) q191 else ((SlicesCloneLfleetMove x126.moves).bind fun q236 => ((apd q236 [(FleetMove.mk ((k159 : Nat) : Int) q190)]).bind fun x245 => (bnd ((if decide (q194.2.1 ≥ 0) then w64 (x126.gone + 1) else x126.gone) : Int) fun q257 => ((Fishref2Yardname (Fishref2Yard.mk q194.1 q257 x245)).bind fun q260 => (((if !((mget q191 q260).getD false) then ((apd q183 [(Fishref2Yard.mk q194.1 q257 x245)]).bind fun x284 => some (x284, (mput q191 q260 true))) else some (q183, q191)) : Option ((List Fishref2Yard) × (List (ByteArray × Bool)))).bind fun q270 => match q270 with | (q273, q280) => Fishref2ShuntOf.loop5 x0 x1 x2 x126 k159 n179 q273 (w64 (q190 + 1)) q280)))))))) else some (q183, q190, q191))
def Fishref2ShuntOf.loop4 (x0 : FleetDepot) (x1 : List Int) (x2 : List Int) (fu : Nat) (x126 : Fishref2Yard) : (List Int) → Nat → (List Fishref2Yard) → (List (ByteArray × Bool)) → Option ((List Fishref2Yard) × (List (ByteArray × Bool)))
  | [], _, q168, q175 => some (q168, q175)
  | _ :: rest161, k159, q168, q175 => ((Fishref2ShuntOf.loop5 x0 x1 x2 x126 k159 fu q168 (-1) q175).bind fun q178 => match q178 with | (q183, _, q191) => Fishref2ShuntOf.loop4 x0 x1 x2 fu x126 rest161 (k159 + 1) q183 q191)
def Fishref2ShuntOf.loop3 (x0 : FleetDepot) (x1 : List Int) (x2 : List Int) (fu : Nat) : (List Fishref2Yard) → (List Fishref2Yard) → (List (ByteArray × Bool)) → Option ((List Fishref2Yard) × (List (ByteArray × Bool)))
  | [], q134, q141 => some (q134, q141)
  | x126 :: rest127, q134, q141 => ((Fishref2ShuntOf.loop4 x0 x1 x2 fu x126 x0.Room 0 q134 q141).bind fun q158 => match q158 with | (q168, q175) => Fishref2ShuntOf.loop3 x0 x1 x2 fu rest127 q168 q175)
def Fishref2ShuntOf.loop1 (x0 : FleetDepot) (x1 : List Int) (x2 : List Int) (fu : Nat) : Nat → (List Fishref2Yard) → (List (ByteArray × Bool)) → Option (Out ((List FleetMove) × Int) ((List Fishref2Yard) × (List (ByteArray × Bool))))
  | 0, _, _ => none
  | n84 + 1, q88, q92 => (if decide (((q88).length : Int) > 0) then (bnd (Fishref2ShuntOf.loop2 x2 q88) fun q96 => match q96 with | .ret r => some (.ret r) | .next () => ((Fishref2ShuntOf.loop3 x0 x1 x2 fu q88 [] q92).bind fun q124 => match q124 with | (q134, q141) => Fishref2ShuntOf.loop1 x0 x1 x2 fu n84 q134 q141)) else some (.next (q88, q92)))
def Fishref2ShuntOf (fu : Nat) (x0 : FleetDepot) (x1 : List Int) (x2 : List Int) : Option ((List FleetMove) × Int) := ((Fishref2ShuntFault x0 x1).bind fun q52 => (if (q52 != 0) then some ([], q52) else ((gx [(Fishref2Yard.mk x0 0 [])] 0).bind fun x62 => ((Fishref2Yardname x62).bind fun q80 => ((Fishref2ShuntOf.loop1 x0 x1 x2 fu fu [(Fishref2Yard.mk x0 0 [])] (mput [] q80 true)).bind fun q83 => match q83 with | .ret r => some r | .next (_, _) => some ([], 9))))))
def SlicesEqualLfleetMove.loop1 (x1 : List FleetMove) : (List FleetMove) → Nat → Option (Out Bool Unit)
  | [], _ => some (.next ())
  | x55 :: rest56, k54 => ((gx x1 ((k54 : Nat) : Int)).bind fun x68 => (if !((x55.From == x68.From) && (x55.To == x68.To)) then some (.ret false) else SlicesEqualLfleetMove.loop1 x1 rest56 (k54 + 1)))
def SlicesEqualLfleetMove (x0 : List FleetMove) (x1 : List FleetMove) : Option Bool := (if (((x0).length : Int) != ((x1).length : Int)) then some false else ((SlicesEqualLfleetMove.loop1 x1 x0 0).bind fun q53 => match q53 with | .ret r => some r | .next () => some true))
def Fishlaw2FleetShunts (fu : Nat) (x0 : FleetDepot) (x1 : List Int) (x2 : List Int) : Option Bool := ((FleetShunt fu x0 x1 x2).bind fun q52 => (((if decide (((x2).length : Int) > 6) then ((Fishref2ShuntFault x0 x1).bind fun q66 => some (q66 == 0)) else some false) : Option Bool).bind fun q63 => (if q63 then ((((Fishlaw2yards).bind fun q75 => (if q75 then (if (q52.2 == 9) then some (((q52.1).length : Int) == 0) else some false) else some false)) : Option Bool).bind fun q73 => some q73) else ((Fishref2ShuntOf fu x0 x1 x2).bind fun q79 => ((((Fishlaw2yards).bind fun q92 => (if q92 then (if (q52.2 == q79.2) then ((SlicesEqualLfleetMove q52.1 q79.1).bind fun q96 => some q96) else some false) else some false)) : Option Bool).bind fun q90 => some q90)))))
end Go.Fp
