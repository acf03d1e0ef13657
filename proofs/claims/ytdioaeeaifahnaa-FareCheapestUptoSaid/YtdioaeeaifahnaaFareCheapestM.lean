/- The mirrors of the functions that FareCheapest reaches: plain Lean functions on data. No condition. -/
import Derived.Test.YtdioaeeaifahnaaFpGrid
namespace Go.Fp
structure FareBand where
  Upto : Int
  Price : Int
  deriving DecidableEq, Inhabited
-- FareBand is of one size
def FareBand.cells (x : FareBand) : List Go.Value := [.int .i64 x.Upto, .int .i64 x.Price]
def RFareBand : Rd FareBand := fun _ cs x => cs = x.cells
theorem RFareBand.mono : Rmono RFareBand := fun _ _ _ _ _ h => h
theorem RFareBand.one : Rone RFareBand := by intro s cs x h; subst h; rfl

structure FareBuy where
  Day : Int
  Pass : Int
  deriving DecidableEq, Inhabited
-- FareBuy is of one size
def FareBuy.cells (x : FareBuy) : List Go.Value := [.int .i64 x.Day, .int .i64 x.Pass]
def RFareBuy : Rd FareBuy := fun _ cs x => cs = x.cells
theorem RFareBuy.mono : Rmono RFareBuy := fun _ _ _ _ _ h => h
theorem RFareBuy.one : Rone RFareBuy := by intro s cs x h; subst h; rfl

structure FareCond where
  Kind : Int
  A : Int
  B : Int
  Kids : List FareCond
instance : Inhabited FareCond := ⟨⟨0, 0, 0, []⟩⟩
mutual
def szFareCond : FareCond → Nat
  | ⟨_, _, _, k⟩ => szsFareCond k + 1
def szsFareCond : List FareCond → Nat
  | [] => 1
  | x :: r => szFareCond x + szsFareCond r
end
theorem szsFareCond_eq : ∀ l, szsFareCond l = szL szFareCond l
  | [] => rfl
  | x :: r => by rw [szsFareCond, szsFareCond_eq r]; simp only [szL, List.map_cons, List.sum_cons]; omega
def RNFareCond : Nat → Rd FareCond
  | 0 => fun _ _ _ => False
  | n + 1 => fun s cs x => ∃ a0 c0, cs = [.int .i64 x.Kind, .int .i64 x.A, .int .i64 x.B, .slice a0 x.Kids.length c0] ∧ Sl 4 (RNFareCond n) s a0 c0 x.Kids
def RFareCond : Rd FareCond := fun s cs x => ∃ n, RNFareCond n s cs x
theorem RNFareCond.mono : ∀ n, Rmono (RNFareCond n)
  | 0 => fun _ _ _ _ _ h => h.elim
  | n + 1 => fun _ _ h _ _ ⟨a0, c0, e, h0⟩ => ⟨a0, c0, e, h0.mono (RNFareCond.mono n) h⟩
theorem RFareCond.mono : Rmono RFareCond := fun s t h cs x ⟨n, q⟩ => ⟨n, RNFareCond.mono n s t h cs x q⟩
theorem RNFareCond.up : ∀ n s cs x, RNFareCond n s cs x → RNFareCond (n + 1) s cs x
  | 0 => fun _ _ _ h => h.elim
  | n + 1 => fun _ _ _ ⟨a0, c0, e, h0⟩ => ⟨a0, c0, e, h0.impl (RNFareCond.up n)⟩
theorem RFareCond.unf {s : Sg} {cs : List Value} {x : FareCond} (h : RFareCond s cs x) : ∃ a0 c0, cs = [.int .i64 x.Kind, .int .i64 x.A, .int .i64 x.B, .slice a0 x.Kids.length c0] ∧ Sl 4 RFareCond s a0 c0 x.Kids := by
  obtain ⟨n, h⟩ := h
  cases n with
  | zero => exact h.elim
  | succ n => obtain ⟨a0, c0, e, h0⟩ := h; exact ⟨a0, c0, e, h0.impl (fun _ _ _ q => ⟨n, q⟩)⟩
theorem RFareCond.fold {s : Sg} {cs : List Value} {x : FareCond} (h : ∃ a0 c0, cs = [.int .i64 x.Kind, .int .i64 x.A, .int .i64 x.B, .slice a0 x.Kids.length c0] ∧ Sl 4 RFareCond s a0 c0 x.Kids) : RFareCond s cs x := by
  obtain ⟨a0, c0, e, h0⟩ := h
  obtain ⟨n, q⟩ := Sl.level RNFareCond.up h0
  exact ⟨n + 1, a0, c0, e, q⟩
theorem RFareCond.one : Rone RFareCond := by intro s cs x h; obtain ⟨a0, c0, rfl, _⟩ := h.unf; rfl

structure FarePass where
  Days : Int
  Price : Int
  Zones : List Int
  deriving DecidableEq, Inhabited
def szFarePass (x : FarePass) : Nat := (szL sz1) x.Zones + 1
def RFarePass : Rd FarePass := fun s cs x => ∃ a0 c0, cs = [.int .i64 x.Days, .int .i64 x.Price, .slice a0 x.Zones.length c0] ∧ Sl 1 (RI .i64) s a0 c0 x.Zones
theorem RFarePass.one : Rone RFarePass := by rintro s cs x ⟨a0, c0, rfl, _⟩; rfl
theorem RFarePass.mono : Rmono RFarePass := fun _ _ h _ _ ⟨a0, c0, e, h0⟩ => ⟨a0, c0, e, h0.mono RI.mono h⟩

structure FareRule where
  If : FareCond
  Do : Int
  N : Int
  Stop : Bool
  deriving Inhabited
def szFareRule (x : FareRule) : Nat := szFareCond x.If + 1
def RFareRule : Rd FareRule := fun s cs x => ∃ a0 c0, cs = [.int .i64 x.If.Kind, .int .i64 x.If.A, .int .i64 x.If.B, .slice a0 x.If.Kids.length c0, .int .i64 x.Do, .int .i64 x.N, .bool x.Stop] ∧ Sl 4 RFareCond s a0 c0 x.If.Kids
theorem RFareRule.one : Rone RFareRule := by rintro s cs x ⟨a0, c0, rfl, _⟩; rfl
theorem RFareRule.mono : Rmono RFareRule := fun _ _ h _ _ ⟨a0, c0, e, h0⟩ => ⟨a0, c0, e, h0.mono RFareCond.mono h⟩

structure FareTariff where
  ByKm : Bool
  Bands : List FareBand
  Round : Int
  Rules : List FareRule
  deriving Inhabited
def szFareTariff (x : FareTariff) : Nat := (szL sz1) x.Bands + (szL szFareRule) x.Rules + 1
def RFareTariff : Rd FareTariff := fun s cs x => ∃ a0 c0 a1 c1, cs = [.bool x.ByKm, .slice a0 x.Bands.length c0, .int .i64 x.Round, .slice a1 x.Rules.length c1] ∧ Sl 2 RFareBand s a0 c0 x.Bands ∧ Sl 7 RFareRule s a1 c1 x.Rules
theorem RFareTariff.one : Rone RFareTariff := by rintro s cs x ⟨a0, c0, a1, c1, rfl, _⟩; rfl
theorem RFareTariff.mono : Rmono RFareTariff := fun _ _ h _ _ ⟨a0, c0, a1, c1, e, h0, h1⟩ => ⟨a0, c0, a1, c1, e, h0.mono RFareBand.mono h, h1.mono RFareRule.mono h⟩

structure FareTrip where
  Day : Int
  At : Int
  Km : Int
  Age : Int
  Card : Bool
  Zones : List Int
  deriving DecidableEq, Inhabited
def szFareTrip (x : FareTrip) : Nat := (szL sz1) x.Zones + 1
def RFareTrip : Rd FareTrip := fun s cs x => ∃ a0 c0, cs = [.int .i64 x.Day, .int .i64 x.At, .int .i64 x.Km, .int .i64 x.Age, .bool x.Card, .slice a0 x.Zones.length c0] ∧ Sl 1 (RI .i64) s a0 c0 x.Zones
theorem RFareTrip.one : Rone RFareTrip := by rintro s cs x ⟨a0, c0, rfl, _⟩; rfl
theorem RFareTrip.mono : Rmono RFareTrip := fun _ _ h _ _ ⟨a0, c0, e, h0⟩ => ⟨a0, c0, e, h0.mono RI.mono h⟩
def Farewithin (x0 : Int) (x1 : Int) (x2 : Int) : Bool := (bnd ((if decide (x0 ≥ x1) then decide (x0 ≤ x2) else false) : Bool) fun q55 => q55)
def FareCondsize.loop1 (self_FareCondsize : FareCond → Option (Int × Int)) : (List FareCond) → Int → Int → Option (Int × Int)
  | [], q63, q64 => some (q63, q64)
  | x55 :: rest56, q63, q64 => ((self_FareCondsize x55).bind fun q74 => FareCondsize.loop1 self_FareCondsize rest56 (w64 (q63 + q74.1)) (mx q64 q74.2))
def FareCondsize : Nat → FareCond → Option (Int × Int)
  | 0, _ => none
  | fu + 1, x0 => ((FareCondsize.loop1 (FareCondsize fu) x0.Kids 1 0).bind fun q53 => match q53 with | (q63, q64) => some (q63, w64 (q64 + 1)))
def Farenumbers (x0 : Int) : Int := (bnd ((if (x0 == 2) then (x0 == 2) else (bnd ((if (x0 == 3) then (x0 == 3) else (bnd ((if (x0 == 4) then (x0 == 4) else (x0 == 5)) : Bool) fun q69 => q69)) : Bool) fun q62 => q62)) : Bool) fun q55 => (if q55 then 2 else (bnd ((if (x0 == 6) then (x0 == 6) else (bnd ((if (x0 == 7) then (x0 == 7) else (x0 == 8)) : Bool) fun q84 => q84)) : Bool) fun q77 => (if q77 then 1 else 0))))
def FareCondnode.loop1 (self_FareCondnode : FareCond → Option Int) : (List FareCond) → Option (Out Int Unit)
  | [] => some (.next ())
  | x98 :: rest99 => ((self_FareCondnode x98).bind fun q115 => (if (q115 != 0) then some (.ret q115) else FareCondnode.loop1 self_FareCondnode rest99))
def FareCondnode : Nat → FareCond → Option Int
  | 0, _ => none
  | fu + 1, x0 => (if !(Farewithin x0.Kind 0 11) then some 15 else (bnd ((if !(Farewithin x0.A 0 28800) then true else !(Farewithin x0.B 0 28800)) : Bool) fun q57 => (if q57 then some 2 else (bnd ((if decide ((Farenumbers x0.Kind) < 1) then (if (x0.A != 0) then true else (if decide ((Farenumbers x0.Kind) < 2) then (if (x0.B != 0) then true else (if ((Farenumbers x0.Kind) == 2) then decide (x0.A > x0.B) else false)) else (if ((Farenumbers x0.Kind) == 2) then decide (x0.A > x0.B) else false))) else (if decide ((Farenumbers x0.Kind) < 2) then (if (x0.B != 0) then true else (if ((Farenumbers x0.Kind) == 2) then decide (x0.A > x0.B) else false)) else (if ((Farenumbers x0.Kind) == 2) then decide (x0.A > x0.B) else false))) : Bool) fun q65 => (if q65 then some 1 else (bnd ((if (x0.Kind == 9) then (if (((x0.Kids).length : Int) != 1) then true else (if decide (x0.Kind > 9) then (if decide (((x0.Kids).length : Int) < 2) then true else (if decide (x0.Kind < 9) then decide (((x0.Kids).length : Int) > 0) else false)) else (if decide (x0.Kind < 9) then decide (((x0.Kids).length : Int) > 0) else false))) else (if decide (x0.Kind > 9) then (if decide (((x0.Kids).length : Int) < 2) then true else (if decide (x0.Kind < 9) then decide (((x0.Kids).length : Int) > 0) else false)) else (if decide (x0.Kind < 9) then decide (((x0.Kids).length : Int) > 0) else false))) : Bool) fun q82 => (if q82 then some 1 else ((FareCondnode.loop1 (FareCondnode fu) x0.Kids).bind fun q96 => match q96 with | .ret r => some r | .next () => some 0))))))))
def FareCondcheck (fu : Nat) (x0 : FareCond) : Option Int := ((FareCondsize fu x0).bind fun q52 => (bnd ((if decide (q52.1 > 40) then true else decide (q52.2 > 6)) : Bool) fun q58 => (if q58 then some 4 else ((FareCondnode fu x0).bind fun q62 => some q62))))
def FareCheckTariff.loop1 (x0 : FareTariff) : (List FareBand) → Nat → Option (Out Int Unit)
  | [], _ => some (.next ())
  | x63 :: rest64, k62 => (bnd ((if !(Farewithin x63.Upto 1 1000) then true else !(Farewithin x63.Price 0 100000)) : Bool) fun q81 => (if q81 then some (.ret 2) else (((if decide (((k62 : Nat) : Int) > 0) then ((gx x0.Bands (w64 (((k62 : Nat) : Int) - 1))).bind fun x92 => (if decide (x63.Upto ≤ x92.Upto) then some true else ((gx x0.Bands (w64 (((k62 : Nat) : Int) - 1))).bind fun x102 => some (decide (x63.Price < x102.Price))))) else some false) : Option Bool).bind fun q89 => (if q89 then some (.ret 1) else FareCheckTariff.loop1 x0 rest64 (k62 + 1)))))
def FareCheckTariff.loop2 (fu : Nat) : (List FareRule) → Option (Out Int Unit)
  | [] => some (.next ())
  | x116 :: rest117 => ((FareCondcheck fu x116.If).bind fun q133 => (if (q133 != 0) then some (.ret q133) else (bnd ((if (x116.Do == 1) then 200 else 100000) : Int) fun q140 => (if !(Farewithin x116.Do 1 6) then some (.ret 15) else (if !(Farewithin x116.N 0 q140) then some (.ret 2) else FareCheckTariff.loop2 fu rest117)))))
def FareCheckTariff (fu : Nat) (x0 : FareTariff) : Option Int := (bnd ((if !(Farewithin ((x0.Bands).length : Int) 1 8) then true else decide (((x0.Rules).length : Int) > 20)) : Bool) fun q56 => (if q56 then some 4 else ((FareCheckTariff.loop1 x0 x0.Bands 0).bind fun q61 => match q61 with | .ret r => some r | .next () => (if !(Farewithin x0.Round 1 100) then some 2 else ((FareCheckTariff.loop2 fu x0.Rules).bind fun q114 => match q114 with | .ret r => some r | .next () => some 0)))))
def FarecheckZones.loop1 (x0 : List Int) (x1 : Bool) : (List Int) → Nat → Option (Out Int Unit)
  | [], _ => some (.next ())
  | x54 :: rest55, k53 => (if !(Farewithin x54 0 19) then some (.ret 2) else (((if decide (((k53 : Nat) : Int) > 0) then ((gx x0 (w64 (((k53 : Nat) : Int) - 1))).bind fun x75 => (if (x54 == x75) then some true else (if x1 then ((gx x0 (w64 (((k53 : Nat) : Int) - 1))).bind fun x86 => some (decide (x54 < x86))) else some false))) else some false) : Option Bool).bind fun q72 => (if q72 then some (.ret 1) else FarecheckZones.loop1 x0 x1 rest55 (k53 + 1))))
def FarecheckZones (x0 : List Int) (x1 : Bool) : Option Int := ((FarecheckZones.loop1 x0 x1 x0 0).bind fun q52 => match q52 with | .ret r => some r | .next () => some 0)
def FareCheckTrip (x0 : FareTrip) : Option Int := (bnd ((if !(Farewithin x0.Day 0 6) then true else (if !(Farewithin x0.At 0 28800) then true else (if !(Farewithin x0.Km 0 1000) then true else !(Farewithin x0.Age 0 120)))) : Bool) fun q56 => (if q56 then some 2 else (if !(Farewithin ((x0.Zones).length : Int) 1 10) then some 4 else ((FarecheckZones x0.Zones false).bind fun q63 => some q63))))
def FareTariffprice_1_v1 (x0 : FareBand) (y0 : Int) : Bool := decide (x0.Upto ≥ y0)
def SlicesIndexFuncLfareBand_v1.loop1 (y0 : Int) : (List FareBand) → Nat → Out Int Unit
  | [], _ => (.next ())
  | x54 :: rest55, k53 => (if (FareTariffprice_1_v1 x54 y0) then (.ret ((k53 : Nat) : Int)) else SlicesIndexFuncLfareBand_v1.loop1 y0 rest55 (k53 + 1))
def SlicesIndexFuncLfareBand_v1 (x0 : List FareBand) (y0 : Int) : Int := (bnd (SlicesIndexFuncLfareBand_v1.loop1 y0 x0 0) fun q52 => match q52 with | .ret r => r | .next () => (-1))
def FareCondholds_1_v1 (x0 : Int) (y0 : FareCond) : Bool := (Farewithin x0 y0.A y0.B)
def SlicesIndexLint.loop1 (x1 : Int) : (List Int) → Nat → Out Int Unit
  | [], _ => (.next ())
  | x54 :: rest55, k53 => (if (x1 == x54) then (.ret ((k53 : Nat) : Int)) else SlicesIndexLint.loop1 x1 rest55 (k53 + 1))
def SlicesIndexLint (x0 : List Int) (x1 : Int) : Int := (bnd (SlicesIndexLint.loop1 x1 x0 0) fun q52 => match q52 with | .ret r => r | .next () => (-1))
def SlicesContainsLint (x0 : List Int) (x1 : Int) : Bool := decide ((SlicesIndexLint x0 x1) ≥ 0)
def FareCondholds_2_v1 (self_FareCondholds : FareCond → FareTrip → Option Bool) (x0 : FareCond) (y0 : FareTrip) : Option Bool := ((self_FareCondholds x0 y0).bind fun q52 => some !q52)
def SlicesIndexFuncLfareCond_v1.loop1 (y0 : FareTrip) (self_FareCondholds : FareCond → FareTrip → Option Bool) : (List FareCond) → Nat → Option (Out Int Unit)
  | [], _ => some (.next ())
  | x54 :: rest55, k53 => ((FareCondholds_2_v1 self_FareCondholds x54 y0).bind fun q70 => (if q70 then some (.ret ((k53 : Nat) : Int)) else SlicesIndexFuncLfareCond_v1.loop1 y0 self_FareCondholds rest55 (k53 + 1)))
def SlicesIndexFuncLfareCond_v1 (self_FareCondholds : FareCond → FareTrip → Option Bool) (x0 : List FareCond) (y0 : FareTrip) : Option Int := ((SlicesIndexFuncLfareCond_v1.loop1 y0 self_FareCondholds x0 0).bind fun q52 => match q52 with | .ret r => some r | .next () => some (-1))
def SlicesContainsFuncLfareCond_v1 (self_FareCondholds : FareCond → FareTrip → Option Bool) (x0 : List FareCond) (y0 : FareTrip) : Option Bool := ((SlicesIndexFuncLfareCond_v1 self_FareCondholds x0 y0).bind fun q51 => some (decide (q51 ≥ 0)))
def FareCondholds_3_v1 (self_FareCondholds : FareCond → FareTrip → Option Bool) (x0 : FareCond) (y0 : FareTrip) : Option Bool := ((self_FareCondholds x0 y0).bind fun q52 => some q52)
def SlicesIndexFuncLfareCond_v2.loop1 (y0 : FareTrip) (self_FareCondholds : FareCond → FareTrip → Option Bool) : (List FareCond) → Nat → Option (Out Int Unit)
  | [], _ => some (.next ())
  | x54 :: rest55, k53 => ((FareCondholds_3_v1 self_FareCondholds x54 y0).bind fun q70 => (if q70 then some (.ret ((k53 : Nat) : Int)) else SlicesIndexFuncLfareCond_v2.loop1 y0 self_FareCondholds rest55 (k53 + 1)))
def SlicesIndexFuncLfareCond_v2 (self_FareCondholds : FareCond → FareTrip → Option Bool) (x0 : List FareCond) (y0 : FareTrip) : Option Int := ((SlicesIndexFuncLfareCond_v2.loop1 y0 self_FareCondholds x0 0).bind fun q52 => match q52 with | .ret r => some r | .next () => some (-1))
def SlicesContainsFuncLfareCond_v2 (self_FareCondholds : FareCond → FareTrip → Option Bool) (x0 : List FareCond) (y0 : FareTrip) : Option Bool := ((SlicesIndexFuncLfareCond_v2 self_FareCondholds x0 y0).bind fun q51 => some (decide (q51 ≥ 0)))
def FareCondholds : Nat → FareCond → FareTrip → Option Bool
  | 0, _, _ => none
  | fu + 1, x0, x1 => (if (x0.Kind == 1) then some x1.Card else (if (x0.Kind == 2) then some (FareCondholds_1_v1 x1.Age x0) else (if (x0.Kind == 3) then some (FareCondholds_1_v1 x1.At x0) else (if (x0.Kind == 4) then some (FareCondholds_1_v1 x1.Km x0) else (if (x0.Kind == 5) then some (FareCondholds_1_v1 ((x1.Zones).length : Int) x0) else (if (x0.Kind == 6) then some (SlicesContainsLint x1.Zones x0.A) else (if (x0.Kind == 7) then ((gx x1.Zones 0).bind fun x60 => some (x60 == x0.A)) else (if (x0.Kind == 8) then ((gx x1.Zones (w64 (((x1.Zones).length : Int) - 1))).bind fun x70 => some (x70 == x0.A)) else (if (x0.Kind == 9) then ((gx x0.Kids 0).bind fun x80 => (((FareCondholds fu) x80 x1).bind fun q92 => some !q92)) else (if (x0.Kind == 10) then ((SlicesContainsFuncLfareCond_v1 (FareCondholds fu) x0.Kids x1).bind fun q95 => some !q95) else (if (x0.Kind == 11) then ((SlicesContainsFuncLfareCond_v2 (FareCondholds fu) x0.Kids x1).bind fun q98 => some q98) else some true)))))))))))
def FareRulechange (x0 : FareRule) (x1 : Int) : Int := (if (x0.Do == 1) then mn 100000 (w64 (Int.tdiv (w64 (x1 * x0.N)) 100)) else (if (x0.Do == 2) then mx 0 (w64 (x1 - x0.N)) else (if (x0.Do == 3) then mn 100000 (w64 (x1 + x0.N)) else (if (x0.Do == 4) then x0.N else (if (x0.Do == 5) then mn x1 x0.N else mx x1 x0.N)))))
def FareTariffprice.loop1 (x1 : FareTrip) (fu : Nat) : (List FareRule) → Nat → Int → (List Int) → Option (Int × (List Int))
  | [], _, q89, q90 => some (q89, q90)
  | x81 :: rest82, k80, q89, q90 => ((FareCondholds fu x81.If x1).bind fun q106 => (if !q106 then FareTariffprice.loop1 x1 fu rest82 (k80 + 1) q89 q90 else ((apd q90 [((k80 : Nat) : Int)]).bind fun x110 => (if x81.Stop then some ((FareRulechange x81 q89), x110) else FareTariffprice.loop1 x1 fu rest82 (k80 + 1) (FareRulechange x81 q89) x110))))
def FareTariffprice (fu : Nat) (x0 : FareTariff) (x1 : FareTrip) : Option (Int × (List Int)) := (bnd ((if x0.ByKm then x1.Km else ((x1.Zones).length : Int)) : Int) fun q58 => (bnd ((if decide ((SlicesIndexFuncLfareBand_v1 x0.Bands q58) < 0) then w64 (((x0.Bands).length : Int) - 1) else (SlicesIndexFuncLfareBand_v1 x0.Bands q58)) : Int) fun q65 => ((gx x0.Bands q65).bind fun x68 => ((FareTariffprice.loop1 x1 fu x0.Rules 0 x68.Price []).bind fun q79 => match q79 with | (q89, q90) => ((dv (w64 ((w64 (q89 + x0.Round)) - 1)) x0.Round).bind fun x117 => some (w64 (x117 * x0.Round), q90))))))
def FarePasscovers_1_v1 (x0 : Int) (y0 : FarePass) : Bool := !(SlicesContainsLint y0.Zones x0)
def SlicesIndexFuncLint_v1.loop1 (y0 : FarePass) : (List Int) → Nat → Out Int Unit
  | [], _ => (.next ())
  | x54 :: rest55, k53 => (if (FarePasscovers_1_v1 x54 y0) then (.ret ((k53 : Nat) : Int)) else SlicesIndexFuncLint_v1.loop1 y0 rest55 (k53 + 1))
def SlicesIndexFuncLint_v1 (x0 : List Int) (y0 : FarePass) : Int := (bnd (SlicesIndexFuncLint_v1.loop1 y0 x0 0) fun q52 => match q52 with | .ret r => r | .next () => (-1))
def SlicesContainsFuncLint_v1 (x0 : List Int) (y0 : FarePass) : Bool := decide ((SlicesIndexFuncLint_v1 x0 y0) ≥ 0)
def FarePasscovers (x0 : FarePass) (x1 : Int) (x2 : FareTrip) : Bool := (bnd ((if (Farewithin x2.Day x1 (w64 ((w64 (x1 + x0.Days)) - 1))) then !(SlicesContainsFuncLint_v1 x2.Zones x0) else false) : Bool) fun q57 => q57)
def FareCheapest_1_v1 (x0 : FareBuy) (y0 : List FarePass) (y1 : FareTrip) : Option Bool := ((gx y0 x0.Pass).bind fun x52 => some (FarePasscovers x52 x0.Day y1))
def SlicesIndexFuncLfareBuy_v1.loop1 (y0 : List FarePass) (y1 : FareTrip) : (List FareBuy) → Nat → Option (Out Int Unit)
  | [], _ => some (.next ())
  | x54 :: rest55, k53 => ((FareCheapest_1_v1 x54 y0 y1).bind fun q67 => (if q67 then some (.ret ((k53 : Nat) : Int)) else SlicesIndexFuncLfareBuy_v1.loop1 y0 y1 rest55 (k53 + 1)))
def SlicesIndexFuncLfareBuy_v1 (x0 : List FareBuy) (y0 : List FarePass) (y1 : FareTrip) : Option Int := ((SlicesIndexFuncLfareBuy_v1.loop1 y0 y1 x0 0).bind fun q52 => match q52 with | .ret r => some r | .next () => some (-1))
def SlicesContainsFuncLfareBuy_v1 (x0 : List FareBuy) (y0 : List FarePass) (y1 : FareTrip) : Option Bool := ((SlicesIndexFuncLfareBuy_v1 x0 y0 y1).bind fun q51 => some (decide (q51 ≥ 0)))
def CmpisNaNint (x0 : Int) : Bool := (x0 != x0)
def CmpCompareint (x0 : Int) (x1 : Int) : Int := (if (CmpisNaNint x0) then (if (CmpisNaNint x1) then 0 else (-1)) else (if (CmpisNaNint x1) then 1 else (if decide (x0 < x1) then (-1) else (if decide (x0 > x1) then 1 else 0))))
def CmpOrint.loop1 : (List Int) → Out Int Unit
  | [] => (.next ())
  | x54 :: rest55 => (if (x54 != 0) then (.ret x54) else CmpOrint.loop1 rest55)
def CmpOrint (x0 : List Int) : Int := (bnd (CmpOrint.loop1 x0) fun q52 => match q52 with | .ret r => r | .next () => 0)
def FarecompareBuys (x0 : FareBuy) (x1 : FareBuy) : Int := (CmpOrint [(CmpCompareint x0.Day x1.Day), (CmpCompareint x0.Pass x1.Pass)])
def SlicesCompareFuncLfareBuy_v1.loop1 (x1 : List FareBuy) : (List FareBuy) → Nat → Option (Out Int Unit)
  | [], _ => some (.next ())
  | x54 :: rest55, k53 => (if decide (((k53 : Nat) : Int) ≥ ((x1).length : Int)) then some (.ret 1) else ((gx x1 ((k53 : Nat) : Int)).bind fun x69 => (if ((FarecompareBuys x54 x69) != 0) then some (.ret (FarecompareBuys x54 x69)) else SlicesCompareFuncLfareBuy_v1.loop1 x1 rest55 (k53 + 1))))
def SlicesCompareFuncLfareBuy_v1 (x0 : List FareBuy) (x1 : List FareBuy) : Option Int := ((SlicesCompareFuncLfareBuy_v1.loop1 x1 x0 0).bind fun q52 => match q52 with | .ret r => some r | .next () => (if decide (((x0).length : Int) < ((x1).length : Int)) then some (-1) else some 0))
def FareCheapest.loop1 (x0 : FareTariff) (fu : Nat) : (List FareTrip) → (List Int) → Option (Out (Int × (List FareBuy) × Int) (List Int))
  | [], q76 => some (.next q76)
  | x68 :: rest69, q76 => ((FareCheckTrip x68).bind fun q92 => (if (q92 != 0) then some (.ret (0, [], q92)) else ((FareTariffprice fu x0 x68).bind fun q95 => ((apd q76 [q95.1]).bind fun x104 => FareCheapest.loop1 x0 fu rest69 x104))))
def FareCheapest.loop2 : (List FarePass) → Option (Out (Int × (List FareBuy) × Int) Unit)
  | [] => some (.next ())
  | x113 :: rest114 => (bnd ((if !(Farewithin x113.Days 1 7) then true else !(Farewithin x113.Price 0 100000)) : Bool) fun q134 => (if q134 then some (.ret (0, [], 2)) else ((FarecheckZones x113.Zones true).bind fun q138 => (if (q138 != 0) then some (.ret (0, [], q138)) else FareCheapest.loop2 rest114))))
def FareCheapest.loop6 (x2 : List FarePass) (q164 : Int) : Nat → (List FareBuy) → Int → Option ((List FareBuy) × Int)
  | 0, _, _ => none
  | n181 + 1, q185, q192 => (if decide (q192 < (w64 (7 * ((x2).length : Int)))) then ((nn q192).bind fun _ => (((if ((IntKind.wrap .i64 ((BitVec.ofInt (IntKind.bits .i64) (Int.fdiv q164 (2 ^ (min (Int.toNat q192) (IntKind.bits .i64)))) &&& BitVec.ofInt (IntKind.bits .i64) 1).toNat : Int)) == 1) then ((dv q192 ((x2).length : Int)).bind fun x210 => ((rm q192 ((x2).length : Int)).bind fun x212 => ((apd q185 [(FareBuy.mk x210 x212)]).bind fun x215 => some x215))) else some q185) : Option (List FareBuy)).bind fun q200 => FareCheapest.loop6 x2 q164 n181 q200 (w64 (q192 + 1)))) else some (q185, q192))
def FareCheapest.loop7 (x2 : List FarePass) (q185 : List FareBuy) : Nat → Nat → Int → Option Int
  | 0, _, q233 => some q233
  | rest225 + 1, k223, q233 => ((gx q185 ((k223 : Nat) : Int)).bind fun x235 => ((gx x2 x235.Pass).bind fun x246 => FareCheapest.loop7 x2 q185 rest225 (k223 + 1) (w64 (q233 + x246.Price))))
def FareCheapest.loop8 (x2 : List FarePass) (q76 : List Int) (q185 : List FareBuy) : (List FareTrip) → Nat → Int → Option Int
  | [], _, q269 => some q269
  | x261 :: rest262, k260, q269 => ((SlicesContainsFuncLfareBuy_v1 q185 x2 x261).bind fun q279 => (((if !q279 then ((gx q76 ((k260 : Nat) : Int)).bind fun x292 => some (w64 (q269 + x292))) else some q269) : Option Int).bind fun q289 => FareCheapest.loop8 x2 q76 q185 rest262 (k260 + 1) q289))
def FareCheapest.loop4 (x1 : List FareTrip) (x2 : List FarePass) (fu : Nat) (q76 : List Int) : Nat → (List FareBuy) → Int → Int → Option ((List FareBuy) × Int × Int)
  | 0, _, _, _ => none
  | n155 + 1, q159, q163, q164 => (if decide (q164 < (IntKind.wrap .i64 (1 * (2 ^ (min (Int.toNat (w64 (7 * ((x2).length : Int)))) (IntKind.bits .i64)))))) then ((FareCheapest.loop6 x2 q164 fu [] 0).bind fun q180 => match q180 with | (q185, _) => ((FareCheapest.loop7 x2 q185 q185.length 0 0).bind fun q233 => ((FareCheapest.loop8 x2 q76 q185 x1 0 q233).bind fun q269 => (((if decide (q163 < 0) then some true else ((SlicesCompareFuncLfareBuy_v1 q185 q159).bind fun q309 => some (decide ((CmpOrint [(CmpCompareint q269 q163), (CmpCompareint ((q185.length : Nat) : Int) ((q159).length : Int)), q309]) < 0)))) : Option Bool).bind fun q306 => (bnd ((if q306 then (q185, q269) else (q159, q163)) : (List FareBuy) × Int) fun q322 => match q322 with | (q325, q329) => FareCheapest.loop4 x1 x2 fu q76 n155 q325 q329 (w64 (q164 + 1))))))) else some (q159, q163, q164))
def FareCheapest (fu : Nat) (x0 : FareTariff) (x1 : List FareTrip) (x2 : List FarePass) : Option (Int × (List FareBuy) × Int) := ((FareCheckTariff fu x0).bind fun q53 => (if (q53 != 0) then some (0, [], q53) else (bnd ((if decide (((x1).length : Int) > 12) then true else decide (((x2).length : Int) > 2)) : Bool) fun q60 => (if q60 then some (0, [], 4) else ((FareCheapest.loop1 x0 fu x1 []).bind fun q66 => match q66 with | .ret r => some r | .next q76 => ((FareCheapest.loop2 x2).bind fun q111 => match q111 with | .ret r => some r | .next () => ((nn (w64 (7 * ((x2).length : Int)))).bind fun _ => ((FareCheapest.loop4 x1 x2 fu q76 fu [] (-1) 0).bind fun q154 => match q154 with | (q159, q163, _) => some (q163, q159, 0)))))))))
def Fishref2within (x0 : Int) (x1 : Int) (x2 : Int) : Bool := (bnd ((if decide (x0 ≥ x1) then decide (x0 ≤ x2) else false) : Bool) fun q55 => q55)
def Fishref2shape_v1.loop1 (self_Fishref2shape_v1 : FareCond → Int → Option (Int × Int)) : (List FareCond) → Int → Int → Option (Int × Int)
  | [], q65, q66 => some (q65, q66)
  | x57 :: rest58, q65, q66 => ((self_Fishref2shape_v1 x57 q66).bind fun q76 => (if decide (q76.2 < 0) then some (mx q65 q76.1, q76.2) else Fishref2shape_v1.loop1 self_Fishref2shape_v1 rest58 (mx q65 q76.1) q76.2))
def Fishref2shape_v1 : Nat → FareCond → Int → Option (Int × Int)
  | 0, _, _ => none
  | fu + 1, x0, y0 => (if decide ((w64 (y0 - 1)) < 0) then some (1, w64 (y0 - 1)) else ((Fishref2shape_v1.loop1 (Fishref2shape_v1 fu) x0.Kids 0 (w64 (y0 - 1))).bind fun q55 => match q55 with | (q65, q66) => some (w64 (q65 + 1), q66)))
def Fishref2numbersOf (x0 : Int) : Int := (bnd ((if (x0 == 2) then (x0 == 2) else (bnd ((if (x0 == 3) then (x0 == 3) else (bnd ((if (x0 == 4) then (x0 == 4) else (x0 == 5)) : Bool) fun q69 => q69)) : Bool) fun q62 => q62)) : Bool) fun q55 => (if q55 then 2 else (bnd ((if (x0 == 6) then (x0 == 6) else (bnd ((if (x0 == 7) then (x0 == 7) else (x0 == 8)) : Bool) fun q84 => q84)) : Bool) fun q77 => (if q77 then 1 else 0))))
def Fishref2nodeFault.loop1 (self_Fishref2nodeFault : FareCond → Option Int) : (List FareCond) → Option (Out Int Unit)
  | [] => some (.next ())
  | x83 :: rest84 => ((self_Fishref2nodeFault x83).bind fun q100 => (if (q100 != 0) then some (.ret q100) else Fishref2nodeFault.loop1 self_Fishref2nodeFault rest84))
def Fishref2nodeFault.loop2 (self_Fishref2nodeFault : FareCond → Option Int) : (List FareCond) → Option (Out Int Unit)
  | [] => some (.next ())
  | x115 :: rest116 => ((self_Fishref2nodeFault x115).bind fun q132 => (if (q132 != 0) then some (.ret q132) else Fishref2nodeFault.loop2 self_Fishref2nodeFault rest116))
def Fishref2nodeFault.loop3 (self_Fishref2nodeFault : FareCond → Option Int) : (List FareCond) → Option (Out Int Unit)
  | [] => some (.next ())
  | x139 :: rest140 => ((self_Fishref2nodeFault x139).bind fun q156 => (if (q156 != 0) then some (.ret q156) else Fishref2nodeFault.loop3 self_Fishref2nodeFault rest140))
def Fishref2nodeFault : Nat → FareCond → Option Int
  | 0, _ => none
  | fu + 1, x0 => (if !(Fishref2within x0.Kind 0 11) then some 15 else (bnd ((if !(Fishref2within x0.A 0 28800) then true else !(Fishref2within x0.B 0 28800)) : Bool) fun q57 => (if q57 then some 2 else (bnd ((if decide ((Fishref2numbersOf x0.Kind) < 1) then (if (x0.A != 0) then true else (if decide ((Fishref2numbersOf x0.Kind) < 2) then (if (x0.B != 0) then true else (if ((Fishref2numbersOf x0.Kind) == 2) then decide (x0.A > x0.B) else false)) else (if ((Fishref2numbersOf x0.Kind) == 2) then decide (x0.A > x0.B) else false))) else (if decide ((Fishref2numbersOf x0.Kind) < 2) then (if (x0.B != 0) then true else (if ((Fishref2numbersOf x0.Kind) == 2) then decide (x0.A > x0.B) else false)) else (if ((Fishref2numbersOf x0.Kind) == 2) then decide (x0.A > x0.B) else false))) : Bool) fun q65 => (if q65 then some 1 else (if (x0.Kind == 9) then (if (((x0.Kids).length : Int) != 1) then some 1 else ((Fishref2nodeFault.loop1 (Fishref2nodeFault fu) x0.Kids).bind fun q81 => match q81 with | .ret r => some r | .next () => some 0)) else (bnd ((if (x0.Kind == 10) then (x0.Kind == 10) else (x0.Kind == 11)) : Bool) fun q107 => (if q107 then (if decide (((x0.Kids).length : Int) < 2) then some 1 else ((Fishref2nodeFault.loop2 (Fishref2nodeFault fu) x0.Kids).bind fun q113 => match q113 with | .ret r => some r | .next () => some 0)) else (if decide (((x0.Kids).length : Int) > 0) then some 1 else ((Fishref2nodeFault.loop3 (Fishref2nodeFault fu) x0.Kids).bind fun q137 => match q137 with | .ret r => some r | .next () => some 0))))))))))
def Fishref2CondFault (fu : Nat) (x0 : FareCond) : Option Int := ((Fishref2shape_v1 fu x0 40).bind fun q53 => (bnd ((if decide (q53.2 < 0) then true else decide (q53.1 > 6)) : Bool) fun q59 => (if q59 then some 4 else ((Fishref2nodeFault fu x0).bind fun q63 => some q63))))
def Fishref2TariffFault.loop1 (x0 : FareTariff) : (List FareBand) → Nat → Option (Out Int Unit)
  | [], _ => some (.next ())
  | x63 :: rest64, k62 => (bnd ((if !(Fishref2within x63.Upto 1 1000) then true else !(Fishref2within x63.Price 0 100000)) : Bool) fun q81 => (if q81 then some (.ret 2) else (((if decide (((k62 : Nat) : Int) > 0) then ((gx x0.Bands (w64 (((k62 : Nat) : Int) - 1))).bind fun x92 => (if decide (x63.Upto ≤ x92.Upto) then some true else ((gx x0.Bands (w64 (((k62 : Nat) : Int) - 1))).bind fun x102 => some (decide (x63.Price < x102.Price))))) else some false) : Option Bool).bind fun q89 => (if q89 then some (.ret 1) else Fishref2TariffFault.loop1 x0 rest64 (k62 + 1)))))
def Fishref2TariffFault.loop2 (fu : Nat) : (List FareRule) → Option (Out Int Unit)
  | [] => some (.next ())
  | x116 :: rest117 => ((Fishref2CondFault fu x116.If).bind fun q133 => (if (q133 != 0) then some (.ret q133) else (if !(Fishref2within x116.Do 1 6) then some (.ret 15) else (bnd ((if (x116.Do == 1) then 200 else 100000) : Int) fun q141 => (if !(Fishref2within x116.N 0 q141) then some (.ret 2) else Fishref2TariffFault.loop2 fu rest117)))))
def Fishref2TariffFault (fu : Nat) (x0 : FareTariff) : Option Int := (bnd ((if !(Fishref2within ((x0.Bands).length : Int) 1 8) then true else decide (((x0.Rules).length : Int) > 20)) : Bool) fun q56 => (if q56 then some 4 else ((Fishref2TariffFault.loop1 x0 x0.Bands 0).bind fun q61 => match q61 with | .ret r => some r | .next () => (if !(Fishref2within x0.Round 1 100) then some 2 else ((Fishref2TariffFault.loop2 fu x0.Rules).bind fun q114 => match q114 with | .ret r => some r | .next () => some 0)))))
def Fishref2TripFault.loop1 (x0 : FareTrip) : (List Int) → Nat → Option (Out Int Unit)
  | [], _ => some (.next ())
  | x66 :: rest67, k65 => (if !(Fishref2within x66 0 19) then some (.ret 2) else (((if decide (((k65 : Nat) : Int) > 0) then ((gx x0.Zones (w64 (((k65 : Nat) : Int) - 1))).bind fun x87 => some (x66 == x87)) else some false) : Option Bool).bind fun q84 => (if q84 then some (.ret 1) else Fishref2TripFault.loop1 x0 rest67 (k65 + 1))))
def Fishref2TripFault (x0 : FareTrip) : Option Int := (bnd ((if !(Fishref2within x0.Day 0 6) then true else (if !(Fishref2within x0.At 0 28800) then true else (if !(Fishref2within x0.Km 0 1000) then true else !(Fishref2within x0.Age 0 120)))) : Bool) fun q56 => (if q56 then some 2 else (if !(Fishref2within ((x0.Zones).length : Int) 1 10) then some 4 else ((Fishref2TripFault.loop1 x0 x0.Zones 0).bind fun q64 => match q64 with | .ret r => some r | .next () => some 0))))
def Fishref2CheapestFault.loop1 : (List FareTrip) → Option (Out Int Unit)
  | [] => some (.next ())
  | x66 :: rest67 => ((Fishref2TripFault x66).bind fun q83 => (if (q83 != 0) then some (.ret q83) else Fishref2CheapestFault.loop1 rest67))
def Fishref2CheapestFault.loop3 (x89 : FarePass) : (List Int) → Nat → Option (Out Int Unit)
  | [], _ => some (.next ())
  | x117 :: rest118, k116 => (if !(Fishref2within x117 0 19) then some (.ret 2) else (((if decide (((k116 : Nat) : Int) > 0) then ((gx x89.Zones (w64 (((k116 : Nat) : Int) - 1))).bind fun x138 => some (decide (x117 ≤ x138))) else some false) : Option Bool).bind fun q135 => (if q135 then some (.ret 1) else Fishref2CheapestFault.loop3 x89 rest118 (k116 + 1))))
def Fishref2CheapestFault.loop2 : (List FarePass) → Option (Out Int Unit)
  | [] => some (.next ())
  | x89 :: rest90 => (bnd ((if !(Fishref2within x89.Days 1 7) then true else !(Fishref2within x89.Price 0 100000)) : Bool) fun q110 => (if q110 then some (.ret 2) else ((Fishref2CheapestFault.loop3 x89 x89.Zones 0).bind fun q115 => match q115 with | .ret r => some (.ret r) | .next () => Fishref2CheapestFault.loop2 rest90)))
def Fishref2CheapestFault (fu : Nat) (x0 : FareTariff) (x1 : List FareTrip) (x2 : List FarePass) : Option Int := ((Fishref2TariffFault fu x0).bind fun q52 => (if (q52 != 0) then some q52 else (bnd ((if decide (((x1).length : Int) > 12) then true else decide (((x2).length : Int) > 2)) : Bool) fun q59 => (if q59 then some 4 else ((Fishref2CheapestFault.loop1 x1).bind fun q64 => match q64 with | .ret r => some r | .next () => ((Fishref2CheapestFault.loop2 x2).bind fun q87 => match q87 with | .ret r => some r | .next () => some 0))))))
def FarePrice (fu : Nat) (x0 : FareTariff) (x1 : FareTrip) : Option (Int × (List Int) × Int) := ((FareCheckTariff fu x0).bind fun q53 => (if (q53 != 0) then some (0, [], q53) else ((FareCheckTrip x1).bind fun q57 => (if (q57 != 0) then some (0, [], q57) else ((FareTariffprice fu x0 x1).bind fun q61 => some (q61.1, q61.2, 0))))))
def SlicesEqualLint.loop1 (x1 : List Int) : (List Int) → Nat → Option (Out Bool Unit)
  | [], _ => some (.next ())
  | x55 :: rest56, k54 => ((gx x1 ((k54 : Nat) : Int)).bind fun x68 => (if (x55 != x68) then some (.ret false) else SlicesEqualLint.loop1 x1 rest56 (k54 + 1)))
def SlicesEqualLint (x0 : List Int) (x1 : List Int) : Option Bool := (if (((x0).length : Int) != ((x1).length : Int)) then some false else ((SlicesEqualLint.loop1 x1 x0 0).bind fun q53 => match q53 with | .ret r => some r | .next () => some true))
def Fishlaw2fares (fu : Nat) : Option Bool := ((FarePrice fu (FareTariff.mk false [(FareBand.mk 3 500)] 50 [(FareRule.mk (FareCond.mk 2 0 14 []) 1 50 false)]) (FareTrip.mk 0 0 0 10 false [1, 2])).bind fun q70 => (((if (q70.2.2 == 0) then (if (q70.1 == 250) then ((SlicesEqualLint q70.2.1 [0]).bind fun q92 => some q92) else some false) else some false) : Option Bool).bind fun q82 => some q82))
def Fishref2Covered.loop1 (x0 : FarePass) : (List Int) → Out Bool Unit
  | [] => (.next ())
  | x64 :: rest65 => (if !(SlicesContainsLint x0.Zones x64) then (.ret false) else Fishref2Covered.loop1 x0 rest65)
def Fishref2Covered (x0 : FarePass) (x1 : Int) (x2 : FareTrip) : Bool := (bnd ((if decide (x2.Day < x1) then true else decide (x2.Day ≥ (w64 (x1 + x0.Days)))) : Bool) fun q57 => (if q57 then false else (bnd (Fishref2Covered.loop1 x0 x2.Zones) fun q62 => match q62 with | .ret r => r | .next () => true)))
def Fishref2HoldsOf.loop1 (x1 : FareTrip) (self_Fishref2HoldsOf : FareCond → FareTrip → Option Bool) : (List FareCond) → Int → Option Int
  | [], q106 => some q106
  | x98 :: rest99, q106 => ((self_Fishref2HoldsOf x98 x1).bind fun q116 => (bnd ((if q116 then w64 (q106 + 1) else q106) : Int) fun q122 => Fishref2HoldsOf.loop1 x1 self_Fishref2HoldsOf rest99 q122))
def Fishref2HoldsOf.loop2 (x1 : FareTrip) (self_Fishref2HoldsOf : FareCond → FareTrip → Option Bool) : (List FareCond) → Option (Out Bool Unit)
  | [] => some (.next ())
  | x129 :: rest130 => ((self_Fishref2HoldsOf x129 x1).bind fun q146 => (if q146 then some (.ret true) else Fishref2HoldsOf.loop2 x1 self_Fishref2HoldsOf rest130))
def Fishref2HoldsOf : Nat → FareCond → FareTrip → Option Bool
  | 0, _, _ => none
  | fu + 1, x0, x1 => (if (x0.Kind == 1) then some x1.Card else (if (x0.Kind == 2) then some (Fishref2within x1.Age x0.A x0.B) else (if (x0.Kind == 3) then some (Fishref2within x1.At x0.A x0.B) else (if (x0.Kind == 4) then some (Fishref2within x1.Km x0.A x0.B) else (if (x0.Kind == 5) then some (Fishref2within ((x1.Zones).length : Int) x0.A x0.B) else (if (x0.Kind == 6) then some (SlicesContainsLint x1.Zones x0.A) else (if (x0.Kind == 7) then ((gx x1.Zones 0).bind fun x60 => some (x60 == x0.A)) else (if (x0.Kind == 8) then ((gx x1.Zones (w64 (((x1.Zones).length : Int) - 1))).bind fun x70 => some (x70 == x0.A)) else (if (x0.Kind == 9) then ((gx x0.Kids 0).bind fun x80 => (((Fishref2HoldsOf fu) x80 x1).bind fun q92 => some !q92)) else (if (x0.Kind == 10) then ((Fishref2HoldsOf.loop1 x1 (Fishref2HoldsOf fu) x0.Kids 0).bind fun q106 => some (q106 == ((x0.Kids).length : Int))) else (if (x0.Kind == 11) then ((Fishref2HoldsOf.loop2 x1 (Fishref2HoldsOf fu) x0.Kids).bind fun q127 => match q127 with | .ret r => some r | .next () => some false) else some true)))))))))))
def Fishref2PriceOf.loop1 (x0 : FareTariff) (q57 : Int) : Nat → Int → Int → Option (Int × Int)
  | 0, _, _ => none
  | n71 + 1, q75, q76 => (if decide (q76 ≥ 0) then ((gx x0.Bands q76).bind fun x79 => (((if decide (q57 ≤ x79.Upto) then ((gx x0.Bands q76).bind fun x95 => some x95.Price) else some q75) : Option Int).bind fun q92 => Fishref2PriceOf.loop1 x0 q57 n71 q92 (w64 (q76 - 1)))) else some (q75, q76))
def Fishref2PriceOf.loop2 (x1 : FareTrip) (fu : Nat) : (List FareRule) → Nat → Int → (List Int) → Option (Int × (List Int))
  | [], _, q116, q117 => some (q116, q117)
  | x108 :: rest109, k107, q116, q117 => ((Fishref2HoldsOf fu x108.If x1).bind fun q133 => (if !q133 then Fishref2PriceOf.loop2 x1 fu rest109 (k107 + 1) q116 q117 else ((apd q117 [((k107 : Nat) : Int)]).bind fun x137 => (bnd ((if (x108.Do == 1) then mn (w64 (Int.tdiv (w64 (q116 * x108.N)) 100)) 100000 else (bnd ((if (x108.Do == 2) then mx (w64 (q116 - x108.N)) 0 else (bnd ((if (x108.Do == 3) then mn (w64 (q116 + x108.N)) 100000 else (bnd ((if (x108.Do == 4) then x108.N else (bnd ((if (x108.Do == 5) then mn q116 x108.N else (bnd ((if (x108.Do == 6) then mx q116 x108.N else q116) : Int) fun q182 => q182)) : Int) fun q175 => q175)) : Int) fun q168 => q168)) : Int) fun q161 => q161)) : Int) fun q154 => q154)) : Int) fun q147 => (if x108.Stop then some (q147, x137) else Fishref2PriceOf.loop2 x1 fu rest109 (k107 + 1) q147 x137)))))
def Fishref2PriceOf.loop3 (x0 : FareTariff) : Nat → Int → Option Int
  | 0, _ => none
  | n188 + 1, q192 => ((rm q192 x0.Round).bind fun x194 => (if (x194 != 0) then Fishref2PriceOf.loop3 x0 n188 (w64 (q192 + 1)) else some q192))
def Fishref2PriceOf (fu : Nat) (x0 : FareTariff) (x1 : FareTrip) : Option (Int × (List Int)) := (bnd ((if x0.ByKm then x1.Km else ((x1.Zones).length : Int)) : Int) fun q57 => ((gx x0.Bands (w64 (((x0.Bands).length : Int) - 1))).bind fun x60 => ((Fishref2PriceOf.loop1 x0 q57 fu x60.Price (w64 (((x0.Bands).length : Int) - 1))).bind fun q70 => match q70 with | (q75, _) => ((Fishref2PriceOf.loop2 x1 fu x0.Rules 0 q75 []).bind fun q106 => match q106 with | (q116, q117) => ((Fishref2PriceOf.loop3 x0 fu q116).bind fun q192 => some (q192, q117))))))
def Fishref2SumOf.loop1 (x2 : List FarePass) : (List FareBuy) → Int → Option Int
  | [], q63 => some q63
  | x55 :: rest56, q63 => ((gx x2 x55.Pass).bind fun x70 => Fishref2SumOf.loop1 x2 rest56 (w64 (q63 + x70.Price)))
def Fishref2SumOf.loop3 (x2 : List FarePass) (x85 : FareTrip) : (List FareBuy) → Bool → Option Bool
  | [], q114 => some q114
  | x106 :: rest107, q114 => (((if q114 then some true else ((gx x2 x106.Pass).bind fun x128 => some (Fishref2Covered x128 x106.Day x85))) : Option Bool).bind fun q125 => Fishref2SumOf.loop3 x2 x85 rest107 q125)
def Fishref2SumOf.loop2 (x0 : FareTariff) (x2 : List FarePass) (x3 : List FareBuy) (fu : Nat) : (List FareTrip) → Int → Option Int
  | [], q93 => some q93
  | x85 :: rest86, q93 => ((Fishref2SumOf.loop3 x2 x85 x3 false).bind fun q114 => (((if !q114 then ((Fishref2PriceOf fu x0 x85).bind fun q147 => some (w64 (q93 + q147.1))) else some q93) : Option Int).bind fun q144 => Fishref2SumOf.loop2 x0 x2 x3 fu rest86 q144))
def Fishref2SumOf (fu : Nat) (x0 : FareTariff) (x1 : List FareTrip) (x2 : List FarePass) (x3 : List FareBuy) : Option Int := ((Fishref2SumOf.loop1 x2 x3 0).bind fun q63 => ((Fishref2SumOf.loop2 x0 x2 x3 fu x1 q63).bind fun q93 => some q93))
def Fishref2compareBuys (x0 : FareBuy) (x1 : FareBuy) : Int := (if (x0.Day != x1.Day) then w64 (x0.Day - x1.Day) else w64 (x0.Pass - x1.Pass))
def SlicesCompareFuncLfareBuy_v2.loop1 (x1 : List FareBuy) : (List FareBuy) → Nat → Option (Out Int Unit)
  | [], _ => some (.next ())
  | x54 :: rest55, k53 => (if decide (((k53 : Nat) : Int) ≥ ((x1).length : Int)) then some (.ret 1) else ((gx x1 ((k53 : Nat) : Int)).bind fun x69 => (if ((Fishref2compareBuys x54 x69) != 0) then some (.ret (Fishref2compareBuys x54 x69)) else SlicesCompareFuncLfareBuy_v2.loop1 x1 rest55 (k53 + 1))))
def SlicesCompareFuncLfareBuy_v2 (x0 : List FareBuy) (x1 : List FareBuy) : Option Int := ((SlicesCompareFuncLfareBuy_v2.loop1 x1 x0 0).bind fun q52 => match q52 with | .ret r => some r | .next () => (if decide (((x0).length : Int) < ((x1).length : Int)) then some (-1) else some 0))
def Fishref2CheapestOf.loop4 (x2 : List FarePass) (q75 : Int) : Nat → (List FareBuy) → Int → Option ((List FareBuy) × Int)
  | 0, _, _ => none
  | n92 + 1, q96, q103 => (if decide (q103 < (w64 (7 * ((x2).length : Int)))) then ((nn q103).bind fun _ => (((if ((IntKind.wrap .i64 ((BitVec.ofInt (IntKind.bits .i64) (Int.fdiv q75 (2 ^ (min (Int.toNat q103) (IntKind.bits .i64)))) &&& BitVec.ofInt (IntKind.bits .i64) 1).toNat : Int)) == 1) then ((dv q103 ((x2).length : Int)).bind fun x121 => ((rm q103 ((x2).length : Int)).bind fun x123 => ((apd q96 [(FareBuy.mk x121 x123)]).bind fun x126 => some x126))) else some q96) : Option (List FareBuy)).bind fun q111 => Fishref2CheapestOf.loop4 x2 q75 n92 q111 (w64 (q103 + 1)))) else some (q96, q103))
def Fishref2CheapestOf.loop2 (x0 : FareTariff) (x1 : List FareTrip) (x2 : List FarePass) (fu : Nat) : Nat → (List FareBuy) → Int → Int → Option ((List FareBuy) × Int × Int)
  | 0, _, _, _ => none
  | n66 + 1, q70, q74, q75 => (if decide (q75 < (IntKind.wrap .i64 (1 * (2 ^ (min (Int.toNat (w64 (7 * ((x2).length : Int)))) (IntKind.bits .i64)))))) then ((Fishref2CheapestOf.loop4 x2 q75 fu [] 0).bind fun q91 => match q91 with | (q96, _) => ((Fishref2SumOf fu x0 x1 x2 q96).bind fun q132 => (((if decide (q74 < 0) then some true else (if decide (q132 < q74) then some true else (if (q132 == q74) then (if decide (((q96.length : Nat) : Int) < ((q70).length : Int)) then some true else (if (((q96.length : Nat) : Int) == ((q70).length : Int)) then ((SlicesCompareFuncLfareBuy_v2 q96 q70).bind fun q149 => some (decide (q149 < 0))) else some false)) else some false))) : Option Bool).bind fun q142 => (bnd ((if q142 then (q96, q132) else (q70, q74)) : (List FareBuy) × Int) fun q156 => match q156 with | (q159, q163) => Fishref2CheapestOf.loop2 x0 x1 x2 fu n66 q159 q163 (w64 (q75 + 1)))))) else some (q70, q74, q75))
def Fishref2CheapestOf (fu : Nat) (x0 : FareTariff) (x1 : List FareTrip) (x2 : List FarePass) : Option (Int × (List FareBuy)) := ((nn (w64 (7 * ((x2).length : Int)))).bind fun _ => ((Fishref2CheapestOf.loop2 x0 x1 x2 fu fu [] (-1) 0).bind fun q65 => match q65 with | (q70, q74, _) => some (q74, q70)))
def SlicesEqualLfareBuy.loop1 (x1 : List FareBuy) : (List FareBuy) → Nat → Option (Out Bool Unit)
  | [], _ => some (.next ())
  | x55 :: rest56, k54 => ((gx x1 ((k54 : Nat) : Int)).bind fun x68 => (if !((x55.Day == x68.Day) && (x55.Pass == x68.Pass)) then some (.ret false) else SlicesEqualLfareBuy.loop1 x1 rest56 (k54 + 1)))
def SlicesEqualLfareBuy (x0 : List FareBuy) (x1 : List FareBuy) : Option Bool := (if (((x0).length : Int) != ((x1).length : Int)) then some false else ((SlicesEqualLfareBuy.loop1 x1 x0 0).bind fun q53 => match q53 with | .ret r => some r | .next () => some true))
def Fishlaw2FareCheapest (fu : Nat) (x0 : FareTariff) (x1 : List FareTrip) (x2 : List FarePass) : Option Bool := ((FareCheapest fu x0 x1 x2).bind fun q52 => ((Fishref2CheapestFault fu x0 x1 x2).bind fun q59 => (if (q59 != 0) then ((((Fishlaw2fares fu).bind fun q68 => (if q68 then (if (q52.2.2 == q59) then (if (q52.1 == 0) then some (((q52.2.1).length : Int) == 0) else some false) else some false) else some false)) : Option Bool).bind fun q66 => some q66) else ((Fishref2CheapestOf fu x0 x1 x2).bind fun q73 => ((((Fishlaw2fares fu).bind fun q86 => (if q86 then (if (q52.2.2 == 0) then (if (q52.1 == q73.1) then ((SlicesEqualLfareBuy q52.2.1 q73.2).bind fun q91 => some q91) else some false) else some false) else some false)) : Option Bool).bind fun q84 => some q84)))))
end Go.Fp
