/- The mirrors of the functions that FleetMoves reaches: plain Lean functions on data. No condition. -/
import Derived.Test.YtpoooohaoekbaaaFpMap
namespace Go.Fp
structure FleetDepot where
  Room : List Int
  Tracks : List (List Int)
  deriving DecidableEq, Inhabited
def RFleetDepot : Rd FleetDepot := fun s cs x => ∃ a0 c0 a1 c1, cs = [.slice a0 x.Room.length c0, .slice a1 x.Tracks.length c1] ∧ Sl 1 (RI .i64) s a0 c0 x.Room ∧ Sl 1 (RL 1 (RI .i64)) s a1 c1 x.Tracks
theorem RFleetDepot.one : Rone RFleetDepot := by rintro s cs x ⟨a0, c0, a1, c1, rfl, _⟩; rfl
theorem RFleetDepot.mono : Rmono RFleetDepot := fun _ _ h _ _ ⟨a0, c0, a1, c1, e, h0, h1⟩ => ⟨a0, c0, a1, c1, e, h0.mono RI.mono h, h1.mono (RL.mono RI.mono) h⟩

structure FleetMove where
  From : Int
  To : Int
  deriving DecidableEq, Inhabited
def FleetMove.cells (x : FleetMove) : List Value := [.int .i64 x.From, .int .i64 x.To]
def RFleetMove : Rd FleetMove := fun _ cs x => cs = x.cells
theorem RFleetMove.mono : Rmono RFleetMove := fun _ _ _ _ _ h => h
theorem RFleetMove.one : Rone RFleetMove := by intro s cs x h; subst h; rfl
def Fleetwithin (x0 : Int) (x1 : Int) (x2 : Int) : Bool := (bnd ((if decide (x0 ≥ x1) then decide (x0 ≤ x2) else false) : Bool) fun q55 => q55)
def FleetCheckDepot.loop2 : (List Int) → (List (Int × Bool)) → Out Int (List (Int × Bool))
  | [], q106 => (.next q106)
  | x98 :: rest99, q106 => (if !(Fleetwithin x98 0 99) then (.ret 2) else (if ((mget q106 x98).getD false) then (.ret 6) else FleetCheckDepot.loop2 rest99 (mput q106 x98 true)))
def FleetCheckDepot.loop1 (x0 : FleetDepot) : (List (List Int)) → Nat → (List (Int × Bool)) → Option (Out Int (List (Int × Bool)))
  | [], _, q66 => some (.next q66)
  | x58 :: rest59, k57, q66 => ((gx x0.Room ((k57 : Nat) : Int)).bind fun x75 => (if !(Fleetwithin x75 1 4) then some (.ret 2) else ((gx x0.Room ((k57 : Nat) : Int)).bind fun x85 => (if decide (((x58).length : Int) > x85) then some (.ret 14) else (bnd (FleetCheckDepot.loop2 x58 q66) fun q96 => match q96 with | .ret r => some (.ret r) | .next q106 => FleetCheckDepot.loop1 x0 rest59 (k57 + 1) q106)))))
def FleetCheckDepot (x0 : FleetDepot) : Option Int := (if !(Fleetwithin ((x0.Room).length : Int) 1 4) then some 4 else (if (((x0.Tracks).length : Int) != ((x0.Room).length : Int)) then some 1 else ((FleetCheckDepot.loop1 x0 x0.Tracks 0 []).bind fun q56 => match q56 with | .ret r => some r | .next _ => some 0)))
def SlicesCloneLint (x0 : List Int) : Option (List Int) := ((apd [] x0).bind fun x56 => some x56)
def Fleetdo_1_v1 (x0 : Int) (y0 : FleetDepot) : Bool := (Fleetwithin x0 0 (w64 (((y0.Tracks).length : Int) - 1)))
def Fleetdo.loop1 : (List (List Int)) → (List (List Int)) → Option (List (List Int))
  | [], q127 => some q127
  | x119 :: rest120, q127 => ((SlicesCloneLint x119).bind fun q143 => ((apd q127 [q143]).bind fun x152 => Fleetdo.loop1 rest120 x152))
def Fleetdo (x0 : FleetDepot) (x1 : FleetMove) : Option (FleetDepot × Int × Int) := (bnd ((if !(Fleetdo_1_v1 x1.From x0) then true else (if !(Fleetdo_1_v1 x1.To x0) then (x1.To != (-1)) else false)) : Bool) fun q58 => (if q58 then some ((FleetDepot.mk [] []), 0, 2) else (if (x1.From == x1.To) then some ((FleetDepot.mk [] []), 0, 1) else ((gx x0.Tracks x1.From).bind fun x64 => (if (((x64).length : Int) == 0) then some ((FleetDepot.mk [] []), 0, 9) else (((if decide (x1.To ≥ 0) then ((gx x0.Tracks x1.To).bind fun x84 => ((gx x0.Room x1.To).bind fun x96 => some (decide (((x84).length : Int) ≥ x96)))) else some false) : Option Bool).bind fun q81 => (if q81 then some ((FleetDepot.mk [] []), 0, 14) else ((SlicesCloneLint x0.Room).bind fun q106 => ((Fleetdo.loop1 x0.Tracks []).bind fun q127 => ((gx q127 x1.From).bind fun x158 => ((gx x158 (w64 (((x158).length : Int) - 1))).bind fun x168 => ((cutl x158 0 (w64 (((x158).length : Int) - 1))).bind fun x180 => ((ix q127 x1.From).bind fun _ => ((sx q127 x1.From x180).bind fun x192 => (((if decide (x1.To ≥ 0) then ((gx x192 x1.To).bind fun x211 => ((apd x211 [x168]).bind fun x223 => ((ix x192 x1.To).bind fun _ => ((sx x192 x1.To x223).bind fun x232 => some x232)))) else some x192) : Option (List (List Int))).bind fun q201 => some ((FleetDepot.mk q106 q201), x168, 0))))))))))))))))
def FleetPlay.loop1 : (List (List Int)) → (List (List Int)) → Option (List (List Int))
  | [], q78 => some q78
  | x70 :: rest71, q78 => ((SlicesCloneLint x70).bind fun q94 => ((apd q78 [q94]).bind fun x106 => FleetPlay.loop1 rest71 x106))
def FleetPlay.loop2 : (List FleetMove) → (List Int) → (List Int) → (List (List Int)) → (List Int) → (List (List Int)) → Option (Out (FleetDepot × (List Int) × Int) ((List Int) × (List Int) × (List (List Int)) × (List Int) × (List (List Int))))
  | [], q130, q137, q141, q145, q149 => some (.next (q130, q137, q141, q145, q149))
  | x122 :: rest123, q130, q137, q141, q145, q149 => ((Fleetdo (FleetDepot.mk q145 q149) x122).bind fun q159 => (if (q159.2.2 != 0) then some (.ret ((FleetDepot.mk [] []), [], q159.2.2)) else (((if decide (x122.To < 0) then ((apd q130 [q159.2.1]).bind fun x188 => some x188) else some q130) : Option (List Int)).bind fun q178 => FleetPlay.loop2 rest123 q178 q137 q141 q159.1.Room q159.1.Tracks)))
def FleetPlay (x0 : FleetDepot) (x1 : List FleetMove) : Option (FleetDepot × (List Int) × Int) := ((FleetCheckDepot x0).bind fun q53 => (if (q53 != 0) then some ((FleetDepot.mk [] []), [], q53) else ((SlicesCloneLint x0.Room).bind fun q57 => ((FleetPlay.loop1 x0.Tracks []).bind fun q78 => ((FleetPlay.loop2 x1 [] [] [] q57 q78).bind fun q120 => match q120 with | .ret r => some r | .next (q130, _, _, q145, q149) => some ((FleetDepot.mk q145 q149), q130, 0))))))
def Fishref2within (x0 : Int) (x1 : Int) (x2 : Int) : Bool := (bnd ((if decide (x0 ≥ x1) then decide (x0 ≤ x2) else false) : Bool) fun q55 => q55)
def SlicesIndexLint.loop1 (x1 : Int) : (List Int) → Nat → Out Int Unit
  | [], _ => (.next ())
  | x54 :: rest55, k53 => (if (x1 == x54) then (.ret ((k53 : Nat) : Int)) else SlicesIndexLint.loop1 x1 rest55 (k53 + 1))
def SlicesIndexLint (x0 : List Int) (x1 : Int) : Int := (bnd (SlicesIndexLint.loop1 x1 x0 0) fun q52 => match q52 with | .ret r => r | .next () => (-1))
def SlicesContainsLint (x0 : List Int) (x1 : Int) : Bool := decide ((SlicesIndexLint x0 x1) ≥ 0)
def Fishref2DepotFault.loop2 : (List Int) → (List Int) → Option (Out Int (List Int))
  | [], q115 => some (.next q115)
  | x107 :: rest108, q115 => (if !(Fishref2within x107 0 99) then some (.ret 2) else (if (SlicesContainsLint q115 x107) then some (.ret 6) else ((apd q115 [x107]).bind fun x134 => Fishref2DepotFault.loop2 rest108 x134)))
def Fishref2DepotFault.loop1 (x0 : FleetDepot) : (List Int) → Nat → (List Int) → Option (Out Int (List Int))
  | [], _, q66 => some (.next q66)
  | x58 :: rest59, k57, q66 => (if !(Fishref2within x58 1 4) then some (.ret 2) else ((gx x0.Tracks ((k57 : Nat) : Int)).bind fun x79 => (if decide (((x79).length : Int) > x58) then some (.ret 14) else ((gx x0.Tracks ((k57 : Nat) : Int)).bind fun x92 => ((Fishref2DepotFault.loop2 x92 q66).bind fun q105 => match q105 with | .ret r => some (.ret r) | .next q115 => Fishref2DepotFault.loop1 x0 rest59 (k57 + 1) q115)))))
def Fishref2DepotFault (x0 : FleetDepot) : Option Int := (if !(Fishref2within ((x0.Room).length : Int) 1 4) then some 4 else (if (((x0.Tracks).length : Int) != ((x0.Room).length : Int)) then some 1 else ((Fishref2DepotFault.loop1 x0 x0.Room 0 []).bind fun q56 => match q56 with | .ret r => some r | .next _ => some 0)))
def FleetDo (x0 : FleetDepot) (x1 : FleetMove) : Option (FleetDepot × Int) := ((FleetCheckDepot x0).bind fun q54 => (if (q54 != 0) then some ((FleetDepot.mk [] []), q54) else ((Fleetdo x0 x1).bind fun q57 => some (q57.1, q57.2.2))))
def FleetBehind.loop1 (x1 : Int) : (List (List Int)) → Out (Int × Int) Unit
  | [] => (.next ())
  | x58 :: rest59 => (if decide ((SlicesIndexLint x58 x1) ≥ 0) then (.ret (w64 ((w64 (((x58).length : Int) - 1)) - (SlicesIndexLint x58 x1)), 0)) else FleetBehind.loop1 x1 rest59)
def FleetBehind (x0 : FleetDepot) (x1 : Int) : Option (Int × Int) := ((FleetCheckDepot x0).bind fun q52 => (if (q52 != 0) then some (0, q52) else (bnd (FleetBehind.loop1 x1 x0.Tracks) fun q56 => match q56 with | .ret r => some r | .next () => some (0, 9))))
def Fishlaw2yards : Option Bool := ((FleetBehind (FleetDepot.mk [3, 1] [[0, 1], []]) 0).bind fun q76 => (bnd ((if (q76.2 == 0) then (q76.1 == 1) else false) : Bool) fun q82 => some q82))
def SlicesEqualLint.loop1 (x1 : List Int) : (List Int) → Nat → Option (Out Bool Unit)
  | [], _ => some (.next ())
  | x55 :: rest56, k54 => ((gx x1 ((k54 : Nat) : Int)).bind fun x68 => (if (x55 != x68) then some (.ret false) else SlicesEqualLint.loop1 x1 rest56 (k54 + 1)))
def SlicesEqualLint (x0 : List Int) (x1 : List Int) : Option Bool := (if (((x0).length : Int) != ((x1).length : Int)) then some false else ((SlicesEqualLint.loop1 x1 x0 0).bind fun q53 => match q53 with | .ret r => some r | .next () => some true))
def SlicesEqualFuncLLint_v1.loop1 (x1 : List (List Int)) : (List (List Int)) → Nat → Option (Out Bool Unit)
  | [], _ => some (.next ())
  | x55 :: rest56, k54 => ((gx x1 ((k54 : Nat) : Int)).bind fun x71 => ((SlicesEqualLint x55 x71).bind fun q83 => (if !q83 then some (.ret false) else SlicesEqualFuncLLint_v1.loop1 x1 rest56 (k54 + 1))))
def SlicesEqualFuncLLint_v1 (x0 : List (List Int)) (x1 : List (List Int)) : Option Bool := (if (((x0).length : Int) != ((x1).length : Int)) then some false else ((SlicesEqualFuncLLint_v1.loop1 x1 x0 0).bind fun q53 => match q53 with | .ret r => some r | .next () => some true))
def Fishref2SameDepot (x0 : FleetDepot) (x1 : FleetDepot) : Option Bool := ((((SlicesEqualLint x0.Room x1.Room).bind fun q59 => (if q59 then ((SlicesEqualFuncLLint_v1 x0.Tracks x1.Tracks).bind fun q62 => some q62) else some false)) : Option Bool).bind fun q57 => some q57)
def Fishref2Moved.loop1 : (List (List Int)) → (List (List Int)) → Option (List (List Int))
  | [], q128 => some q128
  | x120 :: rest121, q128 => ((SlicesCloneLint x120).bind fun q144 => ((apd q128 [q144]).bind fun x153 => Fishref2Moved.loop1 rest121 x153))
def Fishref2Moved (x0 : FleetDepot) (x1 : FleetMove) : Option (FleetDepot × Int × Int) := (bnd ((if decide (x1.From < 0) then true else (if decide (x1.From ≥ ((x0.Room).length : Int)) then true else (if decide (x1.To < (-1)) then true else decide (x1.To ≥ ((x0.Room).length : Int))))) : Bool) fun q58 => (if q58 then some ((FleetDepot.mk [] []), (-1), 2) else (if (x1.From == x1.To) then some ((FleetDepot.mk [] []), (-1), 1) else ((gx x0.Tracks x1.From).bind fun x65 => (if (((x65).length : Int) == 0) then some ((FleetDepot.mk [] []), (-1), 9) else (((if decide (x1.To ≥ 0) then ((gx x0.Tracks x1.To).bind fun x85 => ((gx x0.Room x1.To).bind fun x97 => some (decide (((x85).length : Int) ≥ x97)))) else some false) : Option Bool).bind fun q82 => (if q82 then some ((FleetDepot.mk [] []), (-1), 14) else ((SlicesCloneLint x0.Room).bind fun q107 => ((Fishref2Moved.loop1 x0.Tracks []).bind fun q128 => ((gx q128 x1.From).bind fun x159 => ((gx x159 (w64 (((x159).length : Int) - 1))).bind fun x169 => ((cutl x159 0 (w64 (((x159).length : Int) - 1))).bind fun x181 => ((ix q128 x1.From).bind fun _ => ((sx q128 x1.From x181).bind fun x193 => (if decide (x1.To < 0) then some ((FleetDepot.mk q107 x193), x169, 0) else ((gx x193 x1.To).bind fun x206 => ((apd x206 [x169]).bind fun x218 => ((ix x193 x1.To).bind fun _ => ((sx x193 x1.To x218).bind fun x227 => some ((FleetDepot.mk q107 x227), (-1), 0))))))))))))))))))))
def Fishref2PlayOf.loop1 : (List FleetMove) → (List Int) → (List Int) → (List (List Int)) → (List Int) → (List (List Int)) → Option (Out (FleetDepot × (List Int) × Int) ((List Int) × (List Int) × (List (List Int)) × (List Int) × (List (List Int))))
  | [], q65, q72, q76, q80, q84 => some (.next (q65, q72, q76, q80, q84))
  | x57 :: rest58, q65, q72, q76, q80, q84 => ((Fishref2Moved (FleetDepot.mk q72 q76) x57).bind fun q94 => (if (q94.2.2 != 0) then some (.ret ((FleetDepot.mk [] []), [], q94.2.2)) else (((if decide (q94.2.1 ≥ 0) then ((apd q65 [q94.2.1]).bind fun x123 => some x123) else some q65) : Option (List Int)).bind fun q113 => Fishref2PlayOf.loop1 rest58 q113 q94.1.Room q94.1.Tracks q80 q84)))
def Fishref2PlayOf (x0 : FleetDepot) (x1 : List FleetMove) : Option (FleetDepot × (List Int) × Int) := ((Fishref2PlayOf.loop1 x1 [] x0.Room x0.Tracks [] []).bind fun q55 => match q55 with | .ret r => some r | .next (q65, q72, q76, _, _) => some ((FleetDepot.mk q72 q76), q65, 0))
def Fishlaw2FleetMoves.loop1 : (List FleetMove) → (List Int) → (List (List Int)) → Option (Out Bool ((List Int) × (List (List Int))))
  | [], q156, q160 => some (.next (q156, q160))
  | x148 :: rest149, q156, q160 => ((FleetDo (FleetDepot.mk q156 q160) x148).bind fun q170 => ((Fishref2Moved (FleetDepot.mk q156 q160) x148).bind fun q183 => (((if (q170.2 != q183.2.2) then some true else ((Fishref2SameDepot q170.1 q183.1).bind fun q203 => some !q203)) : Option Bool).bind fun q200 => (if q200 then some (.ret false) else (if (q183.2.2 != 0) then some (.next (q156, q160)) else Fishlaw2FleetMoves.loop1 rest149 q183.1.Room q183.1.Tracks)))))
def Fishlaw2FleetMoves (x0 : FleetDepot) (x1 : List FleetMove) : Option Bool := ((FleetPlay x0 x1).bind fun q52 => ((Fishref2DepotFault x0).bind fun q71 => (if (q71 != 0) then ((FleetDo x0 (FleetMove.mk 0 (-1))).bind fun q74 => ((((Fishlaw2yards).bind fun q93 => (if q93 then (if (q52.2.2 == q71) then (if (q74.2 == q71) then (if (((q52.2.1.length : Nat) : Int) == 0) then ((Fishref2SameDepot q52.1 (FleetDepot.mk [] [])).bind fun q99 => some q99) else some false) else some false) else some false) else some false)) : Option Bool).bind fun q91 => some q91)) else ((Fishref2PlayOf x0 x1).bind fun q101 => ((((Fishlaw2yards).bind fun q126 => (if !q126 then some true else (if (q52.2.2 != q101.2.2) then some true else ((SlicesEqualLint q52.2.1 q101.2.1).bind fun q130 => (if !q130 then some true else ((Fishref2SameDepot q52.1 q101.1).bind fun q141 => some !q141)))))) : Option Bool).bind fun q124 => (if q124 then some false else ((Fishlaw2FleetMoves.loop1 x1 x0.Room x0.Tracks).bind fun q146 => match q146 with | .ret r => some r | .next (_, _) => some true)))))))
end Go.Fp
