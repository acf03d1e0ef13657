/- The mirrors of the functions that FleetDepots reaches: plain Lean functions on data. No condition. -/
import Derived.Test.YtpoooohaoekbaaaFpMap
namespace Go.Fp
structure FleetDepot where
  Room : List Int
  Tracks : List (List Int)
  deriving DecidableEq, Inhabited
def RFleetDepot : Rd FleetDepot := fun s cs x => ∃ a0 c0 a1 c1, cs = [.slice a0 x.Room.length c0, .slice a1 x.Tracks.length c1] ∧ Sl 1 (RI .i64) s a0 c0 x.Room ∧ Sl 1 (RL 1 (RI .i64)) s a1 c1 x.Tracks
theorem RFleetDepot.one : Rone RFleetDepot := by rintro s cs x ⟨a0, c0, a1, c1, rfl, _⟩; rfl
theorem RFleetDepot.mono : Rmono RFleetDepot := fun _ _ h _ _ ⟨a0, c0, a1, c1, e, h0, h1⟩ => ⟨a0, c0, a1, c1, e, h0.mono RI.mono h, h1.mono (RL.mono RI.mono) h⟩
def Fleetwithin (x0 : Int) (x1 : Int) (x2 : Int) : Bool := (bnd ((if decide (x0 ≥ x1) then decide (x0 ≤ x2) else false) : Bool) fun q55 => q55)
def FleetCheckDepot.loop2 : (List Int) → (List (Int × Bool)) → Out Int (List (Int × Bool))
  | [], q106 => (.next q106)
  | x98 :: rest99, q106 => (if !(Fleetwithin x98 0 99) then (.ret 2) else (if ((mget q106 x98).getD false) then (.ret 6) else FleetCheckDepot.loop2 rest99 (mput q106 x98 true)))
def FleetCheckDepot.loop1 (x0 : FleetDepot) : (List (List Int)) → Nat → (List (Int × Bool)) → Option (Out Int (List (Int × Bool)))
  | [], _, q66 => some (.next q66)
  | x58 :: rest59, k57, q66 => ((gx x0.Room ((k57 : Nat) : Int)).bind fun x75 => (if !(Fleetwithin x75 1 4) then some (.ret 2) else ((gx x0.Room ((k57 : Nat) : Int)).bind fun x85 => (if decide (((x58).length : Int) > x85) then some (.ret 14) else (bnd (FleetCheckDepot.loop2 x58 q66) fun q96 => match q96 with | .ret r => some (.ret r) | .next q106 => FleetCheckDepot.loop1 x0 rest59 (k57 + 1) q106)))))
def FleetCheckDepot (x0 : FleetDepot) : Option Int := (if !(Fleetwithin ((x0.Room).length : Int) 1 4) then some 4 else (if (((x0.Tracks).length : Int) != ((x0.Room).length : Int)) then some 1 else ((FleetCheckDepot.loop1 x0 x0.Tracks 0 []).bind fun q56 => match q56 with | .ret r => some r | .next _ => some 0)))
def SlicesIndexLint.loop1 (x1 : Int) : (List Int) → Nat → Out Int Unit
  | [], _ => (.next ())
  | x54 :: rest55, k53 => (if (x1 == x54) then (.ret ((k53 : Nat) : Int)) else SlicesIndexLint.loop1 x1 rest55 (k53 + 1))
def SlicesIndexLint (x0 : List Int) (x1 : Int) : Int := (bnd (SlicesIndexLint.loop1 x1 x0 0) fun q52 => match q52 with | .ret r => r | .next () => (-1))
def FleetBehind.loop1 (x1 : Int) : (List (List Int)) → Out (Int × Int) Unit
  | [] => (.next ())
  | x58 :: rest59 => (if decide ((SlicesIndexLint x58 x1) ≥ 0) then (.ret (w64 ((w64 (((x58).length : Int) - 1)) - (SlicesIndexLint x58 x1)), 0)) else FleetBehind.loop1 x1 rest59)
def FleetBehind (x0 : FleetDepot) (x1 : Int) : Option (Int × Int) := ((FleetCheckDepot x0).bind fun q52 => (if (q52 != 0) then some (0, q52) else (bnd (FleetBehind.loop1 x1 x0.Tracks) fun q56 => match q56 with | .ret r => some r | .next () => some (0, 9))))
def Fishref2within (x0 : Int) (x1 : Int) (x2 : Int) : Bool := (bnd ((if decide (x0 ≥ x1) then decide (x0 ≤ x2) else false) : Bool) fun q55 => q55)
def SlicesContainsLint (x0 : List Int) (x1 : Int) : Bool := decide ((SlicesIndexLint x0 x1) ≥ 0)
def Fishref2DepotFault.loop2 : (List Int) → (List Int) → Option (Out Int (List Int))
  | [], q115 => some (.next q115)
  | x107 :: rest108, q115 => (if !(Fishref2within x107 0 99) then some (.ret 2) else (if (SlicesContainsLint q115 x107) then some (.ret 6) else ((apd q115 [x107]).bind fun x134 => Fishref2DepotFault.loop2 rest108 x134)))
def Fishref2DepotFault.loop1 (x0 : FleetDepot) : (List Int) → Nat → (List Int) → Option (Out Int (List Int))
  | [], _, q66 => some (.next q66)
  | x58 :: rest59, k57, q66 => (if !(Fishref2within x58 1 4) then some (.ret 2) else ((gx x0.Tracks ((k57 : Nat) : Int)).bind fun x79 => (if decide (((x79).length : Int) > x58) then some (.ret 14) else ((gx x0.Tracks ((k57 : Nat) : Int)).bind fun x92 => ((Fishref2DepotFault.loop2 x92 q66).bind fun q105 => match q105 with | .ret r => some (.ret r) | .next q115 => Fishref2DepotFault.loop1 x0 rest59 (k57 + 1) q115)))))
def Fishref2DepotFault (x0 : FleetDepot) : Option Int := (if !(Fishref2within ((x0.Room).length : Int) 1 4) then some 4 else (if (((x0.Tracks).length : Int) != ((x0.Room).length : Int)) then some 1 else ((Fishref2DepotFault.loop1 x0 x0.Room 0 []).bind fun q56 => match q56 with | .ret r => some r | .next _ => some 0)))
def Fishlaw2yards : Option Bool := ((FleetBehind (FleetDepot.mk [3, 1] [[0, 1], []]) 0).bind fun q76 => (bnd ((if (q76.2 == 0) then (q76.1 == 1) else false) : Bool) fun q82 => some q82))
def Fishlaw2FleetDepots.loop1 (x1 : Int) (q52 : Int × Int) : (List (List Int)) → Out Bool Unit
  | [] => (.next ())
  | x79 :: rest80 => (if decide ((SlicesIndexLint x79 x1) ≥ 0) then (bnd ((if (q52.2 == 0) then (q52.1 == (w64 ((w64 (((x79).length : Int) - 1)) - (SlicesIndexLint x79 x1)))) else false) : Bool) fun q100 => (.ret q100)) else Fishlaw2FleetDepots.loop1 x1 q52 rest80)
def Fishlaw2FleetDepots (x0 : FleetDepot) (x1 : Int) : Option Bool := ((FleetBehind x0 x1).bind fun q52 => ((Fishref2DepotFault x0).bind fun q54 => ((((Fishlaw2yards).bind fun q62 => (if !q62 then some true else ((FleetCheckDepot x0).bind fun q65 => some (q65 != q54)))) : Option Bool).bind fun q60 => (if q60 then some false else (if (q54 != 0) then (bnd ((if (q52.2 == q54) then (q52.1 == 0) else false) : Bool) fun q73 => some q73) else (bnd (Fishlaw2FleetDepots.loop1 x1 q52 x0.Tracks) fun q77 => match q77 with | .ret r => some r | .next () => (bnd ((if (q52.2 == 9) then (q52.1 == 0) else false) : Bool) fun q107 => some q107)))))))
end Go.Fp
