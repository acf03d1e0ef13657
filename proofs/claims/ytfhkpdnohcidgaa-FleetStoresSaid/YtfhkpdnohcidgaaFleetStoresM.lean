/- The mirrors of the functions that FleetStores reaches: plain Lean functions on data. No condition. -/
import Derived.Test.YtfhkpdnohcidgaaFpAllF
namespace Go.Fp
structure Fishref2Event where
  at_ : Int
  set_ : Int
  in_ : Bool
  deriving DecidableEq, Inhabited
-- Fishref2Event is of one size
def Fishref2Event.cells (x : Fishref2Event) : List Go.Value := [.int .i64 x.at_, .int .i64 x.set_, .bool x.in_]
def RFishref2Event : Rd Fishref2Event := fun _ cs x => cs = x.cells
theorem RFishref2Event.mono : Rmono RFishref2Event := fun _ _ _ _ _ h => h
theorem RFishref2Event.one : Rone RFishref2Event := by intro s cs x h; subst h; rfl

structure FleetDepot where
  Room : List Int
  Tracks : List (List Int)
  deriving DecidableEq, Inhabited
def szFleetDepot (x : FleetDepot) : Nat := (szL sz1) x.Room + (szL (szL sz1)) x.Tracks + 1
def RFleetDepot : Rd FleetDepot := fun s cs x => ∃ a0 c0 a1 c1, cs = [.slice a0 x.Room.length c0, .slice a1 x.Tracks.length c1] ∧ Sl 1 (RI .i64) s a0 c0 x.Room ∧ Sl 1 (RL 1 (RI .i64)) s a1 c1 x.Tracks
theorem RFleetDepot.one : Rone RFleetDepot := by rintro s cs x ⟨a0, c0, a1, c1, rfl, _⟩; rfl
theorem RFleetDepot.mono : Rmono RFleetDepot := fun _ _ h _ _ ⟨a0, c0, a1, c1, e, h0, h1⟩ => ⟨a0, c0, a1, c1, e, h0.mono RI.mono h, h1.mono (RL.mono RI.mono) h⟩

structure FleetEvent where
  at_ : Int
  set_ : Int
  in_ : Bool
  deriving DecidableEq, Inhabited
-- FleetEvent is of one size
def FleetEvent.cells (x : FleetEvent) : List Go.Value := [.int .i64 x.at_, .int .i64 x.set_, .bool x.in_]
def RFleetEvent : Rd FleetEvent := fun _ cs x => cs = x.cells
theorem RFleetEvent.mono : Rmono RFleetEvent := fun _ _ _ _ _ h => h
theorem RFleetEvent.one : Rone RFleetEvent := by intro s cs x h; subst h; rfl

structure FleetStay where
  In : Int
  Out : Int
  deriving DecidableEq, Inhabited
-- FleetStay is of one size
def FleetStay.cells (x : FleetStay) : List Go.Value := [.int .i64 x.In, .int .i64 x.Out]
def RFleetStay : Rd FleetStay := fun _ cs x => cs = x.cells
theorem RFleetStay.mono : Rmono RFleetStay := fun _ _ _ _ _ h => h
theorem RFleetStay.one : Rone RFleetStay := by intro s cs x h; subst h; rfl
def Fleetwithin (x0 : Int) (x1 : Int) (x2 : Int) : Bool := (bnd ((if decide (x0 ≥ x1) then decide (x0 ≤ x2) else false) : Bool) fun q55 => q55)
def CmpisNaNint (x0 : Int) : Bool := (x0 != x0)
def CmpCompareint (x0 : Int) (x1 : Int) : Int := (if (CmpisNaNint x0) then (if (CmpisNaNint x1) then 0 else (-1)) else (if (CmpisNaNint x1) then 1 else (if decide (x0 < x1) then (-1) else (if decide (x0 > x1) then 1 else 0))))
def Fleetstored_1 (x0 : FleetEvent) (x1 : FleetEvent) : Int := (CmpCompareint x0.at_ x1.at_)
def Fleetstored.loop1 (x1 : List FleetStay) : (List Int) → Nat → (List FleetEvent) → Option (List FleetEvent)
  | [], _, q63 => some q63
  | _ :: rest56, k54, q63 => ((gx x1 ((k54 : Nat) : Int)).bind fun x72 => ((gx x1 ((k54 : Nat) : Int)).bind fun x81 => ((apd q63 [(FleetEvent.mk x72.In ((k54 : Nat) : Int) true), (FleetEvent.mk x81.Out ((k54 : Nat) : Int) false)]).bind fun x91 => Fleetstored.loop1 x1 rest56 (k54 + 1) x91)))
def Fleetstored.loop2 (x0 : List Int) (x2 : List Int) (q100 : List FleetEvent) : Nat → Nat → (List (List Int)) → Option (Out Bool (List (List Int)))
  | 0, _, q121 => some (.next q121)
  | rest113 + 1, k111, q121 => ((gx q100 ((k111 : Nat) : Int)).bind fun x129 => ((gx x2 x129.set_).bind fun x140 => ((ix q121 x140).bind fun _ => (if x129.in_ then ((gx q121 x140).bind fun x153 => ((gx x2 x129.set_).bind fun x163 => ((gx x0 x163).bind fun x172 => (if (((x153).length : Int) == x172) then some (.ret false) else ((gx q121 x140).bind fun x183 => ((apd x183 [x129.set_]).bind fun x195 => ((sx q121 x140 x195).bind fun x201 => Fleetstored.loop2 x0 x2 q100 rest113 (k111 + 1) x201))))))) else ((gx q121 x140).bind fun x206 => ((gx q121 x140).bind fun x216 => ((gx x206 (w64 (((x216).length : Int) - 1))).bind fun x226 => (if (x226 != x129.set_) then some (.ret false) else ((gx q121 x140).bind fun x238 => ((gx q121 x140).bind fun x248 => ((cutl x238 0 (w64 (((x248).length : Int) - 1))).bind fun x259 => ((sx q121 x140 x259).bind fun x268 => Fleetstored.loop2 x0 x2 q100 rest113 (k111 + 1) x268))))))))))))
def Fleetstored (x0 : List Int) (x1 : List FleetStay) (x2 : List Int) : Option Bool := ((Fleetstored.loop1 x1 x2 0 []).bind fun q63 => ((srtF Fleetstored_1 q63).bind fun q100 => ((mks ((x0).length : Int) ([] : List Int)).bind fun x103 => ((Fleetstored.loop2 x0 x2 q100 q63.length 0 x103).bind fun q110 => match q110 with | .ret r => some r | .next _ => some true))))
def FleetStore_1_v1.loop1 (x0 : Int) (y0 : List FleetStay) (y1 : List Int) (self_FleetStore_1_v1 : Int → (List FleetStay) → (List Int) → (List Int) → Option (Bool × (List Int))) : (List Int) → Nat → (List Int) → Option (Out (Bool × (List Int)) (List Int))
  | [], _, q69 => some (.next q69)
  | _ :: rest62, k60, q69 => ((ix q69 x0).bind fun _ => ((sx q69 x0 ((k60 : Nat) : Int)).bind fun x81 => ((((cutl x81 0 (w64 (x0 + 1))).bind fun x99 => ((Fleetstored y1 y0 x99).bind fun q108 => (if q108 then ((self_FleetStore_1_v1 (w64 (x0 + 1)) y0 y1 x81).bind fun q115 => some (q115.1, q115.2)) else some (false, x81)))) : Option (Bool × (List Int))).bind fun q87 => match q87 with | (q90, q91) => (if q90 then some (.ret (true, q91)) else FleetStore_1_v1.loop1 x0 y0 y1 self_FleetStore_1_v1 rest62 (k60 + 1) q91))))
def FleetStore_1_v1 : Nat → Int → (List FleetStay) → (List Int) → (List Int) → Option (Bool × (List Int))
  | 0, _, _, _, _ => none
  | fu + 1, x0, y0, y1, y2 => (if (x0 == ((y0).length : Int)) then some (true, y2) else ((FleetStore_1_v1.loop1 x0 y0 y1 (FleetStore_1_v1 fu) y1 0 y2).bind fun q59 => match q59 with | .ret r => some r | .next q69 => some (false, q69)))
def FleetStore.loop1 : (List Int) → Out ((List Int) × Int) Unit
  | [] => (.next ())
  | x65 :: rest66 => (if !(Fleetwithin x65 1 4) then (.ret ([], 2)) else FleetStore.loop1 rest66)
def FleetStore.loop3 (x83 : FleetStay) : (List FleetStay) → Out ((List Int) × Int) Unit
  | [] => (.next ())
  | x120 :: rest121 => (bnd ((if (x83.In == x120.In) then true else (if (x83.In == x120.Out) then true else (if (x83.Out == x120.In) then true else (x83.Out == x120.Out)))) : Bool) fun q138 => (if q138 then (.ret ([], 6)) else FleetStore.loop3 x83 rest121))
def FleetStore.loop2 (x1 : List FleetStay) : (List FleetStay) → Nat → Option (Out ((List Int) × Int) Unit)
  | [], _ => some (.next ())
  | x83 :: rest84, k82 => (bnd ((if !(Fleetwithin x83.In 0 28800) then true else !(Fleetwithin x83.Out 0 28800)) : Bool) fun q101 => (if q101 then some (.ret ([], 2)) else (if decide (x83.Out ≤ x83.In) then some (.ret ([], 13)) else ((cutl x1 0 ((k82 : Nat) : Int)).bind fun x108 => (bnd (FleetStore.loop3 x83 x108) fun q118 => match q118 with | .ret r => some (.ret r) | .next () => FleetStore.loop2 x1 rest84 (k82 + 1))))))
def FleetStore (fu : Nat) (x0 : List Int) (x1 : List FleetStay) : Option ((List Int) × Int) := (bnd ((if !(Fleetwithin ((x0).length : Int) 1 4) then true else decide (((x1).length : Int) > 8)) : Bool) fun q57 => (if q57 then some ([], 4) else (bnd (FleetStore.loop1 x0) fun q63 => match q63 with | .ret r => some r | .next () => ((FleetStore.loop2 x1 x1 0).bind fun q81 => match q81 with | .ret r => some r | .next () => ((mks ((x1).length : Int) (0 : Int)).bind fun x145 => ((FleetStore_1_v1 fu 0 x1 x0 x145).bind fun q153 => (if !q153.1 then some ([], 9) else some (q153.2, 0))))))))
def Fishref2within (x0 : Int) (x1 : Int) (x2 : Int) : Bool := (bnd ((if decide (x0 ≥ x1) then decide (x0 ≤ x2) else false) : Bool) fun q55 => q55)
def SlicesIndexLint.loop1 (x1 : Int) : (List Int) → Nat → Out Int Unit
  | [], _ => (.next ())
  | x54 :: rest55, k53 => (if (x1 == x54) then (.ret ((k53 : Nat) : Int)) else SlicesIndexLint.loop1 x1 rest55 (k53 + 1))
def SlicesIndexLint (x0 : List Int) (x1 : Int) : Int := (bnd (SlicesIndexLint.loop1 x1 x0 0) fun q52 => match q52 with | .ret r => r | .next () => (-1))
def SlicesContainsLint (x0 : List Int) (x1 : Int) : Bool := decide ((SlicesIndexLint x0 x1) ≥ 0)
def Fishref2StoreFault.loop1 : (List Int) → Out Int Unit
  | [] => (.next ())
  | x62 :: rest63 => (if !(Fishref2within x62 1 4) then (.ret 2) else Fishref2StoreFault.loop1 rest63)
def Fishref2StoreFault.loop2 : (List FleetStay) → (List Int) → Option (Out Int (List Int))
  | [], q88 => some (.next q88)
  | x80 :: rest81, q88 => (bnd ((if !(Fishref2within x80.In 0 28800) then true else !(Fishref2within x80.Out 0 28800)) : Bool) fun q105 => (if q105 then some (.ret 2) else (if decide (x80.Out ≤ x80.In) then some (.ret 13) else (bnd ((if (SlicesContainsLint q88 x80.In) then true else (SlicesContainsLint q88 x80.Out)) : Bool) fun q114 => (if q114 then some (.ret 6) else ((apd q88 [x80.In, x80.Out]).bind fun x127 => Fishref2StoreFault.loop2 rest81 x127))))))
def Fishref2StoreFault (x0 : List Int) (x1 : List FleetStay) : Option Int := (bnd ((if !(Fishref2within ((x0).length : Int) 1 4) then true else decide (((x1).length : Int) > 8)) : Bool) fun q55 => (if q55 then some 4 else (bnd (Fishref2StoreFault.loop1 x0) fun q60 => match q60 with | .ret r => some r | .next () => ((Fishref2StoreFault.loop2 x1 []).bind fun q78 => match q78 with | .ret r => some r | .next _ => some 0))))
def Fishref2Stands_1 (x0 : Fishref2Event) (x1 : Fishref2Event) : Int := w64 (x0.at_ - x1.at_)
def Fishref2Stands.loop1 : (List FleetStay) → Nat → (List Fishref2Event) → Option (List Fishref2Event)
  | [], _, q63 => some q63
  | x55 :: rest56, k54, q63 => ((apd q63 [(Fishref2Event.mk x55.In ((k54 : Nat) : Int) true), (Fishref2Event.mk x55.Out ((k54 : Nat) : Int) false)]).bind fun x77 => Fishref2Stands.loop1 rest56 (k54 + 1) x77)
def Fishref2Stands.loop2 (x0 : List Int) (x2 : List Int) (q86 : List Fishref2Event) : Nat → Nat → (List (List Int)) → Option (Out Bool (List (List Int)))
  | 0, _, q107 => some (.next q107)
  | rest99 + 1, k97, q107 => ((gx q86 ((k97 : Nat) : Int)).bind fun x115 => ((gx x2 x115.set_).bind fun x126 => (bnd ((if decide (x126 < 0) then true else decide (x126 ≥ ((x0).length : Int))) : Bool) fun q139 => (if q139 then some (.ret false) else (if x115.in_ then ((gx q107 x126).bind fun x145 => ((apd x145 [x115.set_]).bind fun x157 => ((ix q107 x126).bind fun _ => ((sx q107 x126 x157).bind fun x166 => ((gx x166 x126).bind fun x171 => ((gx x0 x126).bind fun x181 => (if decide (((x171).length : Int) > x181) then some (.ret false) else Fishref2Stands.loop2 x0 x2 q86 rest99 (k97 + 1) x166))))))) else ((gx q107 x126).bind fun x191 => (((if decide ((w64 (((x191).length : Int) - 1)) < 0) then some true else ((gx q107 x126).bind fun x208 => ((gx x208 (w64 (((x191).length : Int) - 1))).bind fun x218 => some (x218 != x115.set_)))) : Option Bool).bind fun q205 => (if q205 then some (.ret false) else ((gx q107 x126).bind fun x229 => ((cutl x229 0 (w64 (((x191).length : Int) - 1))).bind fun x240 => ((ix q107 x126).bind fun _ => ((sx q107 x126 x240).bind fun x252 => Fishref2Stands.loop2 x0 x2 q86 rest99 (k97 + 1) x252))))))))))))
def Fishref2Stands (x0 : List Int) (x1 : List FleetStay) (x2 : List Int) : Option Bool := ((Fishref2Stands.loop1 x1 0 []).bind fun q63 => ((srtF Fishref2Stands_1 q63).bind fun q86 => ((mks ((x0).length : Int) ([] : List Int)).bind fun x89 => ((Fishref2Stands.loop2 x0 x2 q86 q63.length 0 x89).bind fun q96 => match q96 with | .ret r => some r | .next _ => some true))))
def SlicesCloneLint (x0 : List Int) : Option (List Int) := ((apd [] x0).bind fun x56 => some x56)
def Fishref2StoreOf_1_v1 (x0 : List Int) (y0 : List Int) (y1 : List FleetStay) (y2 : List Int) : Option (Bool × (List Int)) := ((Fishref2Stands y0 y1 x0).bind fun q59 => (if !q59 then some (false, y2) else ((SlicesCloneLint x0).bind fun q62 => some (true, q62))))
def Fishref2StoreOf_1_v2 (x0 : List Int) (y0 : List Int) (y1 : List FleetStay) (y2 : List Int) : Option (Bool × (List Int)) := ((Fishref2Stands y0 y1 x0).bind fun q59 => (if !q59 then some (false, y2) else ((SlicesCloneLint x0).bind fun q66 => some (true, q66))))
def Fishref2counts_v1.loop2 (x1 : Int) : Nat → Int → (List Int) → Option (Int × (List Int))
  | 0, _, _ => none
  | n92 + 1, q96, q97 => (((if decide (q96 ≥ 0) then ((gx q97 q96).bind fun x111 => some (x111 == (w64 (x1 - 1)))) else some false) : Option Bool).bind fun q108 => (if q108 then ((ix q97 q96).bind fun _ => ((sx q97 q96 0).bind fun x127 => Fishref2counts_v1.loop2 x1 n92 (w64 (q96 - 1)) x127)) else some (q96, q97)))
def Fishref2counts_v1.loop1 (x0 : Int) (x1 : Int) (y0 : List Int) (y1 : List FleetStay) (fu : Nat) : Nat → (List Int) → (List Int) → Option (Out (Bool × (List Int)) ((List Int) × (List Int)))
  | 0, _, _ => none
  | n67 + 1, q71, q77 => ((Fishref2StoreOf_1_v2 q71 y0 y1 q77).bind fun q82 => (if q82.1 then some (.ret (true, q82.2)) else ((Fishref2counts_v1.loop2 x1 fu (w64 (x0 - 1)) q71).bind fun q91 => match q91 with | (q96, q97) => (if decide (q96 < 0) then some (.ret (false, q82.2)) else ((gx q97 q96).bind fun x133 => ((ix q97 q96).bind fun _ => ((sx q97 q96 (w64 (x133 + 1))).bind fun x148 => Fishref2counts_v1.loop1 x0 x1 y0 y1 fu n67 x148 q82.2)))))))
def Fishref2counts_v1 (fu : Nat) (x0 : Int) (x1 : Int) (y0 : List Int) (y1 : List FleetStay) (y2 : List Int) : Option (Bool × (List Int)) := ((mks x0 (0 : Int)).bind fun x59 => ((Fishref2counts_v1.loop1 x0 x1 y0 y1 fu fu x59 y2).bind fun q66 => match q66 with | .ret r => some r | .next _ => none))
def Fishref2StoreOf (fu : Nat) (x0 : List Int) (x1 : List FleetStay) : Option ((List Int) × Int) := ((Fishref2StoreFault x0 x1).bind fun q53 => (if (q53 != 0) then some ([], q53) else ((Fishref2counts_v1 fu ((x1).length : Int) ((x0).length : Int) x0 x1 []).bind fun q57 => (if !q57.1 then some ([], 9) else some (q57.2, 0)))))
def FleetCheckDepot.loop2 : (List Int) → (List (Int × Bool)) → Out Int (List (Int × Bool))
  | [], q106 => (.next q106)
  | x98 :: rest99, q106 => (if !(Fleetwithin x98 0 99) then (.ret 2) else (if ((mget q106 x98).getD false) then (.ret 6) else FleetCheckDepot.loop2 rest99 (mput q106 x98 true)))
def FleetCheckDepot.loop1 (x0 : FleetDepot) : (List (List Int)) → Nat → (List (Int × Bool)) → Option (Out Int (List (Int × Bool)))
  | [], _, q66 => some (.next q66)
  | x58 :: rest59, k57, q66 => ((gx x0.Room ((k57 : Nat) : Int)).bind fun x75 => (if !(Fleetwithin x75 1 4) then some (.ret 2) else ((gx x0.Room ((k57 : Nat) : Int)).bind fun x85 => (if decide (((x58).length : Int) > x85) then some (.ret 14) else (bnd (FleetCheckDepot.loop2 x58 q66) fun q96 => match q96 with | .ret r => some (.ret r) | .next q106 => FleetCheckDepot.loop1 x0 rest59 (k57 + 1) q106)))))
def FleetCheckDepot (x0 : FleetDepot) : Option Int := (if !(Fleetwithin ((x0.Room).length : Int) 1 4) then some 4 else (if (((x0.Tracks).length : Int) != ((x0.Room).length : Int)) then some 1 else ((FleetCheckDepot.loop1 x0 x0.Tracks 0 []).bind fun q56 => match q56 with | .ret r => some r | .next _ => some 0)))
def FleetBehind.loop1 (x1 : Int) : (List (List Int)) → Out (Int × Int) Unit
  | [] => (.next ())
  | x58 :: rest59 => (if decide ((SlicesIndexLint x58 x1) ≥ 0) then (.ret (w64 ((w64 (((x58).length : Int) - 1)) - (SlicesIndexLint x58 x1)), 0)) else FleetBehind.loop1 x1 rest59)
def FleetBehind (x0 : FleetDepot) (x1 : Int) : Option (Int × Int) := ((FleetCheckDepot x0).bind fun q52 => (if (q52 != 0) then some (0, q52) else (bnd (FleetBehind.loop1 x1 x0.Tracks) fun q56 => match q56 with | .ret r => some r | .next () => some (0, 9))))
def Fishlaw2yards : Option Bool := ((FleetBehind (FleetDepot.mk [3, 1] [[0, 1], []]) 0).bind fun q76 => (bnd ((if (q76.2 == 0) then (q76.1 == 1) else false) : Bool) fun q82 => some q82))
def SlicesEqualLint.loop1 (x1 : List Int) : (List Int) → Nat → Option (Out Bool Unit)
  | [], _ => some (.next ())
  | x55 :: rest56, k54 => ((gx x1 ((k54 : Nat) : Int)).bind fun x68 => (if (x55 != x68) then some (.ret false) else SlicesEqualLint.loop1 x1 rest56 (k54 + 1)))
def SlicesEqualLint (x0 : List Int) (x1 : List Int) : Option Bool := (if (((x0).length : Int) != ((x1).length : Int)) then some false else ((SlicesEqualLint.loop1 x1 x0 0).bind fun q53 => match q53 with | .ret r => some r | .next () => some true))
def Fishlaw2FleetStores (fu : Nat) (x0 : List Int) (x1 : List FleetStay) : Option Bool := ((FleetStore fu x0 x1).bind fun q51 => ((Fishref2StoreOf fu x0 x1).bind fun q59 => ((((Fishlaw2yards).bind fun q72 => (if q72 then (if (q51.2 == q59.2) then ((SlicesEqualLint q51.1 q59.1).bind fun q76 => some q76) else some false) else some false)) : Option Bool).bind fun q70 => some q70)))
end Go.Fp
