/- The mirrors of the functions that FareCopies reaches: plain Lean functions on data. No condition. -/
import Derived.Test.YtmgdigencbganaaFpStr
namespace Go.Fp
structure Ar2i64 where
  f0 : Int
  f1 : Int
  deriving DecidableEq, Inhabited
-- Ar2i64 is of one size
def Ar2i64.cells (x : Ar2i64) : List Go.Value := [.int .i64 x.f0, .int .i64 x.f1]
def RAr2i64 : Rd Ar2i64 := fun _ cs x => cs = x.cells
theorem RAr2i64.mono : Rmono RAr2i64 := fun _ _ _ _ _ h => h
theorem RAr2i64.one : Rone RAr2i64 := by intro s cs x h; subst h; rfl

structure FareBand where
  Upto : Int
  Price : Int
  deriving DecidableEq, Inhabited
-- FareBand is of one size
def FareBand.cells (x : FareBand) : List Go.Value := [.int .i64 x.Upto, .int .i64 x.Price]
def RFareBand : Rd FareBand := fun _ cs x => cs = x.cells
theorem RFareBand.mono : Rmono RFareBand := fun _ _ _ _ _ h => h
theorem RFareBand.one : Rone RFareBand := by intro s cs x h; subst h; rfl

structure FareCond where
  Kind : Int
  A : Int
  B : Int
  Kids : List FareCond
instance : Inhabited FareCond := ⟨⟨0, 0, 0, []⟩⟩
mutual
def szFareCond : FareCond → Nat
  | ⟨_, _, _, k⟩ => szsFareCond k + 1
def szsFareCond : List FareCond → Nat
  | [] => 1
  | x :: r => szFareCond x + szsFareCond r
end
theorem szsFareCond_eq : ∀ l, szsFareCond l = szL szFareCond l
  | [] => rfl
  | x :: r => by rw [szsFareCond, szsFareCond_eq r]; simp only [szL, List.map_cons, List.sum_cons]; omega
def RNFareCond : Nat → Rd FareCond
  | 0 => fun _ _ _ => False
  | n + 1 => fun s cs x => ∃ a0 c0, cs = [.int .i64 x.Kind, .int .i64 x.A, .int .i64 x.B, .slice a0 x.Kids.length c0] ∧ Sl 4 (RNFareCond n) s a0 c0 x.Kids
def RFareCond : Rd FareCond := fun s cs x => ∃ n, RNFareCond n s cs x
theorem RNFareCond.mono : ∀ n, Rmono (RNFareCond n)
  | 0 => fun _ _ _ _ _ h => h.elim
  | n + 1 => fun _ _ h _ _ ⟨a0, c0, e, h0⟩ => ⟨a0, c0, e, h0.mono (RNFareCond.mono n) h⟩
theorem RFareCond.mono : Rmono RFareCond := fun s t h cs x ⟨n, q⟩ => ⟨n, RNFareCond.mono n s t h cs x q⟩
theorem RNFareCond.up : ∀ n s cs x, RNFareCond n s cs x → RNFareCond (n + 1) s cs x
  | 0 => fun _ _ _ h => h.elim
  | n + 1 => fun _ _ _ ⟨a0, c0, e, h0⟩ => ⟨a0, c0, e, h0.impl (RNFareCond.up n)⟩
theorem RFareCond.unf {s : Sg} {cs : List Value} {x : FareCond} (h : RFareCond s cs x) : ∃ a0 c0, cs = [.int .i64 x.Kind, .int .i64 x.A, .int .i64 x.B, .slice a0 x.Kids.length c0] ∧ Sl 4 RFareCond s a0 c0 x.Kids := by
  obtain ⟨n, h⟩ := h
  cases n with
  | zero => exact h.elim
  | succ n => obtain ⟨a0, c0, e, h0⟩ := h; exact ⟨a0, c0, e, h0.impl (fun _ _ _ q => ⟨n, q⟩)⟩
theorem RFareCond.fold {s : Sg} {cs : List Value} {x : FareCond} (h : ∃ a0 c0, cs = [.int .i64 x.Kind, .int .i64 x.A, .int .i64 x.B, .slice a0 x.Kids.length c0] ∧ Sl 4 RFareCond s a0 c0 x.Kids) : RFareCond s cs x := by
  obtain ⟨a0, c0, e, h0⟩ := h
  obtain ⟨n, q⟩ := Sl.level RNFareCond.up h0
  exact ⟨n + 1, a0, c0, e, q⟩
theorem RFareCond.one : Rone RFareCond := by intro s cs x h; obtain ⟨a0, c0, rfl, _⟩ := h.unf; rfl

structure FareRule where
  If : FareCond
  Do : Int
  N : Int
  Stop : Bool
  deriving Inhabited
def szFareRule (x : FareRule) : Nat := szFareCond x.If + 1
def RFareRule : Rd FareRule := fun s cs x => ∃ a0 c0, cs = [.int .i64 x.If.Kind, .int .i64 x.If.A, .int .i64 x.If.B, .slice a0 x.If.Kids.length c0, .int .i64 x.Do, .int .i64 x.N, .bool x.Stop] ∧ Sl 4 RFareCond s a0 c0 x.If.Kids
theorem RFareRule.one : Rone RFareRule := by rintro s cs x ⟨a0, c0, rfl, _⟩; rfl
theorem RFareRule.mono : Rmono RFareRule := fun _ _ h _ _ ⟨a0, c0, e, h0⟩ => ⟨a0, c0, e, h0.mono RFareCond.mono h⟩

structure FareSeen where
  No : Int
  Zone : Int
  At : Int
  deriving DecidableEq, Inhabited
-- FareSeen is of one size
def FareSeen.cells (x : FareSeen) : List Go.Value := [.int .i64 x.No, .int .i64 x.Zone, .int .i64 x.At]
def RFareSeen : Rd FareSeen := fun _ cs x => cs = x.cells
theorem RFareSeen.mono : Rmono RFareSeen := fun _ _ _ _ _ h => h
theorem RFareSeen.one : Rone RFareSeen := by intro s cs x h; subst h; rfl

structure FareTariff where
  ByKm : Bool
  Bands : List FareBand
  Round : Int
  Rules : List FareRule
  deriving Inhabited
def szFareTariff (x : FareTariff) : Nat := (szL sz1) x.Bands + (szL szFareRule) x.Rules + 1
def RFareTariff : Rd FareTariff := fun s cs x => ∃ a0 c0 a1 c1, cs = [.bool x.ByKm, .slice a0 x.Bands.length c0, .int .i64 x.Round, .slice a1 x.Rules.length c1] ∧ Sl 2 RFareBand s a0 c0 x.Bands ∧ Sl 7 RFareRule s a1 c1 x.Rules
theorem RFareTariff.one : Rone RFareTariff := by rintro s cs x ⟨a0, c0, a1, c1, rfl, _⟩; rfl
theorem RFareTariff.mono : Rmono RFareTariff := fun _ _ h _ _ ⟨a0, c0, a1, c1, e, h0, h1⟩ => ⟨a0, c0, a1, c1, e, h0.mono RFareBand.mono h, h1.mono RFareRule.mono h⟩

structure FareTrip where
  Day : Int
  At : Int
  Km : Int
  Age : Int
  Card : Bool
  Zones : List Int
  deriving DecidableEq, Inhabited
def szFareTrip (x : FareTrip) : Nat := (szL sz1) x.Zones + 1
def RFareTrip : Rd FareTrip := fun s cs x => ∃ a0 c0, cs = [.int .i64 x.Day, .int .i64 x.At, .int .i64 x.Km, .int .i64 x.Age, .bool x.Card, .slice a0 x.Zones.length c0] ∧ Sl 1 (RI .i64) s a0 c0 x.Zones
theorem RFareTrip.one : Rone RFareTrip := by rintro s cs x ⟨a0, c0, rfl, _⟩; rfl
theorem RFareTrip.mono : Rmono RFareTrip := fun _ _ h _ _ ⟨a0, c0, e, h0⟩ => ⟨a0, c0, e, h0.mono RI.mono h⟩
def FareCopies_1 (x0 : List Int) : Bool := (((x0).length : Int) != 20)
def SlicesIndexFuncLLint_v1.loop1 : (List (List Int)) → Nat → Out Int Unit
  | [], _ => (.next ())
  | x54 :: rest55, k53 => (if (FareCopies_1 x54) then (.ret ((k53 : Nat) : Int)) else SlicesIndexFuncLLint_v1.loop1 rest55 (k53 + 1))
def SlicesIndexFuncLLint_v1 (x0 : List (List Int)) : Int := (bnd (SlicesIndexFuncLLint_v1.loop1 x0 0) fun q52 => match q52 with | .ret r => r | .next () => (-1))
def SlicesContainsFuncLLint_v1 (x0 : List (List Int)) : Bool := decide ((SlicesIndexFuncLLint_v1 x0) ≥ 0)
def Farewithin (x0 : Int) (x1 : Int) (x2 : Int) : Bool := (bnd ((if decide (x0 ≥ x1) then decide (x0 ≤ x2) else false) : Bool) fun q55 => q55)
def FareCopies_2 (x0 : Int) : Bool := !(Farewithin x0 0 28800)
def SlicesIndexFuncLint_v1.loop1 : (List Int) → Nat → Out Int Unit
  | [], _ => (.next ())
  | x54 :: rest55, k53 => (if (FareCopies_2 x54) then (.ret ((k53 : Nat) : Int)) else SlicesIndexFuncLint_v1.loop1 rest55 (k53 + 1))
def SlicesIndexFuncLint_v1 (x0 : List Int) : Int := (bnd (SlicesIndexFuncLint_v1.loop1 x0 0) fun q52 => match q52 with | .ret r => r | .next () => (-1))
def SlicesContainsFuncLint_v1 (x0 : List Int) : Bool := decide ((SlicesIndexFuncLint_v1 x0) ≥ 0)
def FareCopies.loop1 : (List (List Int)) → Out ((List Ar2i64) × Int) Unit
  | [] => (.next ())
  | x65 :: rest66 => (if (SlicesContainsFuncLint_v1 x65) then (.ret ([], 2)) else FareCopies.loop1 rest66)
def FareCopies.loop2 : (List FareSeen) → Out ((List Ar2i64) × Int) Unit
  | [] => (.next ())
  | x86 :: rest87 => (bnd ((if !(Farewithin x86.No 0 999999) then true else (if !(Farewithin x86.Zone 0 19) then true else !(Farewithin x86.At 0 28800))) : Bool) fun q104 => (if q104 then (.ret ([], 2)) else FareCopies.loop2 rest87))
def FareCopies.loop4 (x0 : List FareSeen) (x1 : List (List Int)) (x114 : FareSeen) (k113 : Nat) : Nat → (List Ar2i64) → Int → Option ((List Ar2i64) × Int)
  | 0, _, _ => none
  | n137 + 1, q141, q148 => (if decide (q148 < ((x0).length : Int)) then ((gx x0 q148).bind fun x151 => (((if (x114.No == x151.No) then ((gx x1 x114.Zone).bind fun x168 => ((gx x168 x151.Zone).bind fun x180 => some (decide ((mx (w64 (x114.At - x151.At)) (w64 (x151.At - x114.At))) < x180)))) else some false) : Option Bool).bind fun q165 => (((if q165 then ((apd q141 [(Ar2i64.mk ((k113 : Nat) : Int) q148)]).bind fun x203 => some x203) else some q141) : Option (List Ar2i64)).bind fun q193 => FareCopies.loop4 x0 x1 x114 k113 n137 q193 (w64 (q148 + 1))))) else some (q141, q148))
def FareCopies.loop3 (x0 : List FareSeen) (x1 : List (List Int)) (fu : Nat) : (List FareSeen) → Nat → (List Ar2i64) → Option (List Ar2i64)
  | [], _, q122 => some q122
  | x114 :: rest115, k113, q122 => ((FareCopies.loop4 x0 x1 x114 k113 fu q122 ((k113 + 1 : Nat) : Int)).bind fun q136 => match q136 with | (q141, _) => FareCopies.loop3 x0 x1 fu rest115 (k113 + 1) q141)
def FareCopies (fu : Nat) (x0 : List FareSeen) (x1 : List (List Int)) : Option ((List Ar2i64) × Int) := (if decide (((x0).length : Int) > 100) then some ([], 4) else (bnd ((if (((x1).length : Int) != 20) then true else (SlicesContainsFuncLLint_v1 x1)) : Bool) fun q57 => (if q57 then some ([], 1) else (bnd (FareCopies.loop1 x1) fun q63 => match q63 with | .ret r => some r | .next () => (bnd (FareCopies.loop2 x0) fun q84 => match q84 with | .ret r => some r | .next () => ((FareCopies.loop3 x0 x1 fu x0 0 []).bind fun q122 => some (q122, 0)))))))
def Fishref2CopiesOf_1 (x0 : List Int) : Bool := (((x0).length : Int) != 20)
def SlicesIndexFuncLLint_v2.loop1 : (List (List Int)) → Nat → Out Int Unit
  | [], _ => (.next ())
  | x54 :: rest55, k53 => (if (Fishref2CopiesOf_1 x54) then (.ret ((k53 : Nat) : Int)) else SlicesIndexFuncLLint_v2.loop1 rest55 (k53 + 1))
def SlicesIndexFuncLLint_v2 (x0 : List (List Int)) : Int := (bnd (SlicesIndexFuncLLint_v2.loop1 x0 0) fun q52 => match q52 with | .ret r => r | .next () => (-1))
def SlicesContainsFuncLLint_v2 (x0 : List (List Int)) : Bool := decide ((SlicesIndexFuncLLint_v2 x0) ≥ 0)
def Fishref2within (x0 : Int) (x1 : Int) (x2 : Int) : Bool := (bnd ((if decide (x0 ≥ x1) then decide (x0 ≤ x2) else false) : Bool) fun q55 => q55)
def Fishref2CopiesOf.loop2 : (List Int) → Out ((List Ar2i64) × Int) Unit
  | [] => (.next ())
  | x84 :: rest85 => (if !(Fishref2within x84 0 28800) then (.ret ([], 2)) else Fishref2CopiesOf.loop2 rest85)
def Fishref2CopiesOf.loop1 : (List (List Int)) → Out ((List Ar2i64) × Int) Unit
  | [] => (.next ())
  | x65 :: rest66 => (bnd (Fishref2CopiesOf.loop2 x65) fun q82 => match q82 with | .ret r => (.ret r) | .next () => Fishref2CopiesOf.loop1 rest66)
def Fishref2CopiesOf.loop3 : (List FareSeen) → Out ((List Ar2i64) × Int) Unit
  | [] => (.next ())
  | x102 :: rest103 => (bnd ((if !(Fishref2within x102.No 0 999999) then true else (if !(Fishref2within x102.Zone 0 19) then true else !(Fishref2within x102.At 0 28800))) : Bool) fun q120 => (if q120 then (.ret ([], 2)) else Fishref2CopiesOf.loop3 rest103))
def Fishref2CopiesOf.loop5 (x0 : List FareSeen) (x1 : List (List Int)) (x130 : FareSeen) (k129 : Nat) : Nat → (List Ar2i64) → Int → Option ((List Ar2i64) × Int)
  | 0, _, _ => none
  | n153 + 1, q157, q164 => (if decide (q164 < ((x0).length : Int)) then ((gx x0 q164).bind fun x167 => (((if (x130.No == x167.No) then ((gx x1 x130.Zone).bind fun x184 => ((gx x184 x167.Zone).bind fun x196 => some (decide ((mx (w64 (x130.At - x167.At)) (w64 (x167.At - x130.At))) < x196)))) else some false) : Option Bool).bind fun q181 => (((if q181 then ((apd q157 [(Ar2i64.mk ((k129 : Nat) : Int) q164)]).bind fun x219 => some x219) else some q157) : Option (List Ar2i64)).bind fun q209 => Fishref2CopiesOf.loop5 x0 x1 x130 k129 n153 q209 (w64 (q164 + 1))))) else some (q157, q164))
def Fishref2CopiesOf.loop4 (x0 : List FareSeen) (x1 : List (List Int)) (fu : Nat) : (List FareSeen) → Nat → (List Ar2i64) → Option (List Ar2i64)
  | [], _, q138 => some q138
  | x130 :: rest131, k129, q138 => ((Fishref2CopiesOf.loop5 x0 x1 x130 k129 fu q138 ((k129 + 1 : Nat) : Int)).bind fun q152 => match q152 with | (q157, _) => Fishref2CopiesOf.loop4 x0 x1 fu rest131 (k129 + 1) q157)
def Fishref2CopiesOf (fu : Nat) (x0 : List FareSeen) (x1 : List (List Int)) : Option ((List Ar2i64) × Int) := (if decide (((x0).length : Int) > 100) then some ([], 4) else (bnd ((if (((x1).length : Int) != 20) then true else (SlicesContainsFuncLLint_v2 x1)) : Bool) fun q57 => (if q57 then some ([], 1) else (bnd (Fishref2CopiesOf.loop1 x1) fun q63 => match q63 with | .ret r => some r | .next () => (bnd (Fishref2CopiesOf.loop3 x0) fun q100 => match q100 with | .ret r => some r | .next () => ((Fishref2CopiesOf.loop4 x0 x1 fu x0 0 []).bind fun q138 => some (q138, 0)))))))
def FareCondsize.loop1 (self_FareCondsize : FareCond → Option (Int × Int)) : (List FareCond) → Int → Int → Option (Int × Int)
  | [], q63, q64 => some (q63, q64)
  | x55 :: rest56, q63, q64 => ((self_FareCondsize x55).bind fun q74 => FareCondsize.loop1 self_FareCondsize rest56 (w64 (q63 + q74.1)) (mx q64 q74.2))
def FareCondsize : Nat → FareCond → Option (Int × Int)
  | 0, _ => none
  | fu + 1, x0 => ((FareCondsize.loop1 (FareCondsize fu) x0.Kids 1 0).bind fun q53 => match q53 with | (q63, q64) => some (q63, w64 (q64 + 1)))
def Farenumbers (x0 : Int) : Int := (bnd ((if (x0 == 2) then (x0 == 2) else (bnd ((if (x0 == 3) then (x0 == 3) else (bnd ((if (x0 == 4) then (x0 == 4) else (x0 == 5)) : Bool) fun q69 => q69)) : Bool) fun q62 => q62)) : Bool) fun q55 => (if q55 then 2 else (bnd ((if (x0 == 6) then (x0 == 6) else (bnd ((if (x0 == 7) then (x0 == 7) else (x0 == 8)) : Bool) fun q84 => q84)) : Bool) fun q77 => (if q77 then 1 else 0))))
def FareCondnode.loop1 (self_FareCondnode : FareCond → Option Int) : (List FareCond) → Option (Out Int Unit)
  | [] => some (.next ())
  | x98 :: rest99 => ((self_FareCondnode x98).bind fun q115 => (if (q115 != 0) then some (.ret q115) else FareCondnode.loop1 self_FareCondnode rest99))
def FareCondnode : Nat → FareCond → Option Int
  | 0, _ => none
  | fu + 1, x0 => (if !(Farewithin x0.Kind 0 11) then some 15 else (bnd ((if !(Farewithin x0.A 0 28800) then true else !(Farewithin x0.B 0 28800)) : Bool) fun q57 => (if q57 then some 2 else (bnd ((if decide ((Farenumbers x0.Kind) < 1) then (if (x0.A != 0) then true else (if decide ((Farenumbers x0.Kind) < 2) then (if (x0.B != 0) then true else (if ((Farenumbers x0.Kind) == 2) then decide (x0.A > x0.B) else false)) else (if ((Farenumbers x0.Kind) == 2) then decide (x0.A > x0.B) else false))) else (if decide ((Farenumbers x0.Kind) < 2) then (if (x0.B != 0) then true else (if ((Farenumbers x0.Kind) == 2) then decide (x0.A > x0.B) else false)) else (if ((Farenumbers x0.Kind) == 2) then decide (x0.A > x0.B) else false))) : Bool) fun q65 => (if q65 then some 1 else (bnd ((if (x0.Kind == 9) then (if (((x0.Kids).length : Int) != 1) then true else (if decide (x0.Kind > 9) then (if decide (((x0.Kids).length : Int) < 2) then true else (if decide (x0.Kind < 9) then decide (((x0.Kids).length : Int) > 0) else false)) else (if decide (x0.Kind < 9) then decide (((x0.Kids).length : Int) > 0) else false))) else (if decide (x0.Kind > 9) then (if decide (((x0.Kids).length : Int) < 2) then true else (if decide (x0.Kind < 9) then decide (((x0.Kids).length : Int) > 0) else false)) else (if decide (x0.Kind < 9) then decide (((x0.Kids).length : Int) > 0) else false))) : Bool) fun q82 => (if q82 then some 1 else ((FareCondnode.loop1 (FareCondnode fu) x0.Kids).bind fun q96 => match q96 with | .ret r => some r | .next () => some 0))))))))
def FareCondcheck (fu : Nat) (x0 : FareCond) : Option Int := ((FareCondsize fu x0).bind fun q52 => (bnd ((if decide (q52.1 > 40) then true else decide (q52.2 > 6)) : Bool) fun q58 => (if q58 then some 4 else ((FareCondnode fu x0).bind fun q62 => some q62))))
def FareCheckTariff.loop1 (x0 : FareTariff) : (List FareBand) → Nat → Option (Out Int Unit)
  | [], _ => some (.next ())
  | x63 :: rest64, k62 => (bnd ((if !(Farewithin x63.Upto 1 1000) then true else !(Farewithin x63.Price 0 100000)) : Bool) fun q81 => (if q81 then some (.ret 2) else (((if decide (((k62 : Nat) : Int) > 0) then ((gx x0.Bands (w64 (((k62 : Nat) : Int) - 1))).bind fun x92 => (if decide (x63.Upto ≤ x92.Upto) then some true else ((gx x0.Bands (w64 (((k62 : Nat) : Int) - 1))).bind fun x102 => some (decide (x63.Price < x102.Price))))) else some false) : Option Bool).bind fun q89 => (if q89 then some (.ret 1) else FareCheckTariff.loop1 x0 rest64 (k62 + 1)))))
def FareCheckTariff.loop2 (fu : Nat) : (List FareRule) → Option (Out Int Unit)
  | [] => some (.next ())
  | x116 :: rest117 => ((FareCondcheck fu x116.If).bind fun q133 => (if (q133 != 0) then some (.ret q133) else (bnd ((if (x116.Do == 1) then 200 else 100000) : Int) fun q140 => (if !(Farewithin x116.Do 1 6) then some (.ret 15) else (if !(Farewithin x116.N 0 q140) then some (.ret 2) else FareCheckTariff.loop2 fu rest117)))))
def FareCheckTariff (fu : Nat) (x0 : FareTariff) : Option Int := (bnd ((if !(Farewithin ((x0.Bands).length : Int) 1 8) then true else decide (((x0.Rules).length : Int) > 20)) : Bool) fun q56 => (if q56 then some 4 else ((FareCheckTariff.loop1 x0 x0.Bands 0).bind fun q61 => match q61 with | .ret r => some r | .next () => (if !(Farewithin x0.Round 1 100) then some 2 else ((FareCheckTariff.loop2 fu x0.Rules).bind fun q114 => match q114 with | .ret r => some r | .next () => some 0)))))
def FarecheckZones.loop1 (x0 : List Int) (x1 : Bool) : (List Int) → Nat → Option (Out Int Unit)
  | [], _ => some (.next ())
  | x54 :: rest55, k53 => (if !(Farewithin x54 0 19) then some (.ret 2) else (((if decide (((k53 : Nat) : Int) > 0) then ((gx x0 (w64 (((k53 : Nat) : Int) - 1))).bind fun x75 => (if (x54 == x75) then some true else (if x1 then ((gx x0 (w64 (((k53 : Nat) : Int) - 1))).bind fun x86 => some (decide (x54 < x86))) else some false))) else some false) : Option Bool).bind fun q72 => (if q72 then some (.ret 1) else FarecheckZones.loop1 x0 x1 rest55 (k53 + 1))))
def FarecheckZones (x0 : List Int) (x1 : Bool) : Option Int := ((FarecheckZones.loop1 x0 x1 x0 0).bind fun q52 => match q52 with | .ret r => some r | .next () => some 0)
def FareCheckTrip (x0 : FareTrip) : Option Int := (bnd ((if !(Farewithin x0.Day 0 6) then true else (if !(Farewithin x0.At 0 28800) then true else (if !(Farewithin x0.Km 0 1000) then true else !(Farewithin x0.Age 0 120)))) : Bool) fun q56 => (if q56 then some 2 else (if !(Farewithin ((x0.Zones).length : Int) 1 10) then some 4 else ((FarecheckZones x0.Zones false).bind fun q63 => some q63))))
def FareTariffprice_1_v1 (x0 : FareBand) (y0 : Int) : Bool := decide (x0.Upto ≥ y0)
def SlicesIndexFuncLfareBand_v1.loop1 (y0 : Int) : (List FareBand) → Nat → Out Int Unit
  | [], _ => (.next ())
  | x54 :: rest55, k53 => (if (FareTariffprice_1_v1 x54 y0) then (.ret ((k53 : Nat) : Int)) else SlicesIndexFuncLfareBand_v1.loop1 y0 rest55 (k53 + 1))
def SlicesIndexFuncLfareBand_v1 (x0 : List FareBand) (y0 : Int) : Int := (bnd (SlicesIndexFuncLfareBand_v1.loop1 y0 x0 0) fun q52 => match q52 with | .ret r => r | .next () => (-1))
def FareCondholds_1_v1 (x0 : Int) (y0 : FareCond) : Bool := (Farewithin x0 y0.A y0.B)
def SlicesIndexLint.loop1 (x1 : Int) : (List Int) → Nat → Out Int Unit
  | [], _ => (.next ())
  | x54 :: rest55, k53 => (if (x1 == x54) then (.ret ((k53 : Nat) : Int)) else SlicesIndexLint.loop1 x1 rest55 (k53 + 1))
def SlicesIndexLint (x0 : List Int) (x1 : Int) : Int := (bnd (SlicesIndexLint.loop1 x1 x0 0) fun q52 => match q52 with | .ret r => r | .next () => (-1))
def SlicesContainsLint (x0 : List Int) (x1 : Int) : Bool := decide ((SlicesIndexLint x0 x1) ≥ 0)
def FareCondholds_2_v1 (self_FareCondholds : FareCond → FareTrip → Option Bool) (x0 : FareCond) (y0 : FareTrip) : Option Bool := ((self_FareCondholds x0 y0).bind fun q52 => some !q52)
def SlicesIndexFuncLfareCond_v1.loop1 (y0 : FareTrip) (self_FareCondholds : FareCond → FareTrip → Option Bool) : (List FareCond) → Nat → Option (Out Int Unit)
  | [], _ => some (.next ())
  | x54 :: rest55, k53 => ((FareCondholds_2_v1 self_FareCondholds x54 y0).bind fun q70 => (if q70 then some (.ret ((k53 : Nat) : Int)) else SlicesIndexFuncLfareCond_v1.loop1 y0 self_FareCondholds rest55 (k53 + 1)))
def SlicesIndexFuncLfareCond_v1 (self_FareCondholds : FareCond → FareTrip → Option Bool) (x0 : List FareCond) (y0 : FareTrip) : Option Int := ((SlicesIndexFuncLfareCond_v1.loop1 y0 self_FareCondholds x0 0).bind fun q52 => match q52 with | .ret r => some r | .next () => some (-1))
def SlicesContainsFuncLfareCond_v1 (self_FareCondholds : FareCond → FareTrip → Option Bool) (x0 : List FareCond) (y0 : FareTrip) : Option Bool := ((SlicesIndexFuncLfareCond_v1 self_FareCondholds x0 y0).bind fun q51 => some (decide (q51 ≥ 0)))
def FareCondholds_3_v1 (self_FareCondholds : FareCond → FareTrip → Option Bool) (x0 : FareCond) (y0 : FareTrip) : Option Bool := ((self_FareCondholds x0 y0).bind fun q52 => some q52)
def SlicesIndexFuncLfareCond_v2.loop1 (y0 : FareTrip) (self_FareCondholds : FareCond → FareTrip → Option Bool) : (List FareCond) → Nat → Option (Out Int Unit)
  | [], _ => some (.next ())
  | x54 :: rest55, k53 => ((FareCondholds_3_v1 self_FareCondholds x54 y0).bind fun q70 => (if q70 then some (.ret ((k53 : Nat) : Int)) else SlicesIndexFuncLfareCond_v2.loop1 y0 self_FareCondholds rest55 (k53 + 1)))
def SlicesIndexFuncLfareCond_v2 (self_FareCondholds : FareCond → FareTrip → Option Bool) (x0 : List FareCond) (y0 : FareTrip) : Option Int := ((SlicesIndexFuncLfareCond_v2.loop1 y0 self_FareCondholds x0 0).bind fun q52 => match q52 with | .ret r => some r | .next () => some (-1))
def SlicesContainsFuncLfareCond_v2 (self_FareCondholds : FareCond → FareTrip → Option Bool) (x0 : List FareCond) (y0 : FareTrip) : Option Bool := ((SlicesIndexFuncLfareCond_v2 self_FareCondholds x0 y0).bind fun q51 => some (decide (q51 ≥ 0)))
def FareCondholds : Nat → FareCond → FareTrip → Option Bool
  | 0, _, _ => none
  | fu + 1, x0, x1 => (if (x0.Kind == 1) then some x1.Card else (if (x0.Kind == 2) then some (FareCondholds_1_v1 x1.Age x0) else (if (x0.Kind == 3) then some (FareCondholds_1_v1 x1.At x0) else (if (x0.Kind == 4) then some (FareCondholds_1_v1 x1.Km x0) else (if (x0.Kind == 5) then some (FareCondholds_1_v1 ((x1.Zones).length : Int) x0) else (if (x0.Kind == 6) then some (SlicesContainsLint x1.Zones x0.A) else (if (x0.Kind == 7) then ((gx x1.Zones 0).bind fun x60 => some (x60 == x0.A)) else (if (x0.Kind == 8) then ((gx x1.Zones (w64 (((x1.Zones).length : Int) - 1))).bind fun x70 => some (x70 == x0.A)) else (if (x0.Kind == 9) then ((gx x0.Kids 0).bind fun x80 => (((FareCondholds fu) x80 x1).bind fun q92 => some !q92)) else (if (x0.Kind == 10) then ((SlicesContainsFuncLfareCond_v1 (FareCondholds fu) x0.Kids x1).bind fun q95 => some !q95) else (if (x0.Kind == 11) then ((SlicesContainsFuncLfareCond_v2 (FareCondholds fu) x0.Kids x1).bind fun q98 => some q98) else some true)))))))))))
def FareRulechange (x0 : FareRule) (x1 : Int) : Int := (if (x0.Do == 1) then mn 100000 (w64 (Int.tdiv (w64 (x1 * x0.N)) 100)) else (if (x0.Do == 2) then mx 0 (w64 (x1 - x0.N)) else (if (x0.Do == 3) then mn 100000 (w64 (x1 + x0.N)) else (if (x0.Do == 4) then x0.N else (if (x0.Do == 5) then mn x1 x0.N else mx x1 x0.N)))))
def FareTariffprice.loop1 (x1 : FareTrip) (fu : Nat) : (List FareRule) → Nat → Int → (List Int) → Option (Int × (List Int))
  | [], _, q89, q90 => some (q89, q90)
  | x81 :: rest82, k80, q89, q90 => ((FareCondholds fu x81.If x1).bind fun q106 => (if !q106 then FareTariffprice.loop1 x1 fu rest82 (k80 + 1) q89 q90 else ((apd q90 [((k80 : Nat) : Int)]).bind fun x110 => (if x81.Stop then some ((FareRulechange x81 q89), x110) else FareTariffprice.loop1 x1 fu rest82 (k80 + 1) (FareRulechange x81 q89) x110))))
def FareTariffprice (fu : Nat) (x0 : FareTariff) (x1 : FareTrip) : Option (Int × (List Int)) := (bnd ((if x0.ByKm then x1.Km else ((x1.Zones).length : Int)) : Int) fun q58 => (bnd ((if decide ((SlicesIndexFuncLfareBand_v1 x0.Bands q58) < 0) then w64 (((x0.Bands).length : Int) - 1) else (SlicesIndexFuncLfareBand_v1 x0.Bands q58)) : Int) fun q65 => ((gx x0.Bands q65).bind fun x68 => ((FareTariffprice.loop1 x1 fu x0.Rules 0 x68.Price []).bind fun q79 => match q79 with | (q89, q90) => ((dv (w64 ((w64 (q89 + x0.Round)) - 1)) x0.Round).bind fun x117 => some (w64 (x117 * x0.Round), q90))))))
def FarePrice (fu : Nat) (x0 : FareTariff) (x1 : FareTrip) : Option (Int × (List Int) × Int) := ((FareCheckTariff fu x0).bind fun q53 => (if (q53 != 0) then some (0, [], q53) else ((FareCheckTrip x1).bind fun q57 => (if (q57 != 0) then some (0, [], q57) else ((FareTariffprice fu x0 x1).bind fun q61 => some (q61.1, q61.2, 0))))))
def SlicesEqualLint.loop1 (x1 : List Int) : (List Int) → Nat → Option (Out Bool Unit)
  | [], _ => some (.next ())
  | x55 :: rest56, k54 => ((gx x1 ((k54 : Nat) : Int)).bind fun x68 => (if (x55 != x68) then some (.ret false) else SlicesEqualLint.loop1 x1 rest56 (k54 + 1)))
def SlicesEqualLint (x0 : List Int) (x1 : List Int) : Option Bool := (if (((x0).length : Int) != ((x1).length : Int)) then some false else ((SlicesEqualLint.loop1 x1 x0 0).bind fun q53 => match q53 with | .ret r => some r | .next () => some true))
def Fishlaw2fares (fu : Nat) : Option Bool := ((FarePrice fu (FareTariff.mk false [(FareBand.mk 3 500)] 50 [(FareRule.mk (FareCond.mk 2 0 14 []) 1 50 false)]) (FareTrip.mk 0 0 0 10 false [1, 2])).bind fun q70 => (((if (q70.2.2 == 0) then (if (q70.1 == 250) then ((SlicesEqualLint q70.2.1 [0]).bind fun q92 => some q92) else some false) else some false) : Option Bool).bind fun q82 => some q82))
def SlicesEqualL2int.loop1 (x1 : List Ar2i64) : (List Ar2i64) → Nat → Option (Out Bool Unit)
  | [], _ => some (.next ())
  | x55 :: rest56, k54 => ((gx x1 ((k54 : Nat) : Int)).bind fun x68 => (if !((x55.f0 == x68.f0) && (x55.f1 == x68.f1)) then some (.ret false) else SlicesEqualL2int.loop1 x1 rest56 (k54 + 1)))
def SlicesEqualL2int (x0 : List Ar2i64) (x1 : List Ar2i64) : Option Bool := (if (((x0).length : Int) != ((x1).length : Int)) then some false else ((SlicesEqualL2int.loop1 x1 x0 0).bind fun q53 => match q53 with | .ret r => some r | .next () => some true))
def Fishlaw2FareCopies (fu : Nat) (x0 : List FareSeen) (x1 : List (List Int)) : Option Bool := ((FareCopies fu x0 x1).bind fun q51 => ((Fishref2CopiesOf fu x0 x1).bind fun q59 => ((((Fishlaw2fares fu).bind fun q73 => (if q73 then (if (q51.2 == q59.2) then ((SlicesEqualL2int q51.1 q59.1).bind fun q77 => some q77) else some false) else some false)) : Option Bool).bind fun q71 => some q71)))
end Go.Fp
