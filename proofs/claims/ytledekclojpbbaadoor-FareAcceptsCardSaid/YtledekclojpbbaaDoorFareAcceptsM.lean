/- The mirrors of the functions that FareAccepts reaches: plain Lean functions on data. No condition. -/
import Derived.Test.YtledekclojpbbaaDoorFpAllT
import Derived.Test.YtledekclojpbbaaDoorFpErr
namespace Go.Fp
structure FareBand where
  Upto : Int
  Price : Int
  deriving DecidableEq, Inhabited
-- FareBand is of one size
def FareBand.cells (x : FareBand) : List Go.Value := [.int .i64 x.Upto, .int .i64 x.Price]
def RFareBand : Rd FareBand := fun _ cs x => cs = x.cells
theorem RFareBand.mono : Rmono RFareBand := fun _ _ _ _ _ h => h
theorem RFareBand.one : Rone RFareBand := by intro s cs x h; subst h; rfl

structure FareCond where
  Kind : Int
  A : Int
  B : Int
  Kids : List FareCond
instance : Inhabited FareCond := ⟨⟨0, 0, 0, []⟩⟩
mutual
def szFareCond : FareCond → Nat
  | ⟨_, _, _, k⟩ => szsFareCond k + 1
def szsFareCond : List FareCond → Nat
  | [] => 1
  | x :: r => szFareCond x + szsFareCond r
end
theorem szsFareCond_eq : ∀ l, szsFareCond l = szL szFareCond l
  | [] => rfl
  | x :: r => by rw [szsFareCond, szsFareCond_eq r]; simp only [szL, List.map_cons, List.sum_cons]; omega
def RNFareCond : Nat → Rd FareCond
  | 0 => fun _ _ _ => False
  | n + 1 => fun s cs x => ∃ a0 c0, cs = [.int .i64 x.Kind, .int .i64 x.A, .int .i64 x.B, .slice a0 x.Kids.length c0] ∧ Sl 4 (RNFareCond n) s a0 c0 x.Kids
def RFareCond : Rd FareCond := fun s cs x => ∃ n, RNFareCond n s cs x
theorem RNFareCond.mono : ∀ n, Rmono (RNFareCond n)
  | 0 => fun _ _ _ _ _ h => h.elim
  | n + 1 => fun _ _ h _ _ ⟨a0, c0, e, h0⟩ => ⟨a0, c0, e, h0.mono (RNFareCond.mono n) h⟩
theorem RFareCond.mono : Rmono RFareCond := fun s t h cs x ⟨n, q⟩ => ⟨n, RNFareCond.mono n s t h cs x q⟩
theorem RNFareCond.up : ∀ n s cs x, RNFareCond n s cs x → RNFareCond (n + 1) s cs x
  | 0 => fun _ _ _ h => h.elim
  | n + 1 => fun _ _ _ ⟨a0, c0, e, h0⟩ => ⟨a0, c0, e, h0.impl (RNFareCond.up n)⟩
theorem RFareCond.unf {s : Sg} {cs : List Value} {x : FareCond} (h : RFareCond s cs x) : ∃ a0 c0, cs = [.int .i64 x.Kind, .int .i64 x.A, .int .i64 x.B, .slice a0 x.Kids.length c0] ∧ Sl 4 RFareCond s a0 c0 x.Kids := by
  obtain ⟨n, h⟩ := h
  cases n with
  | zero => exact h.elim
  | succ n => obtain ⟨a0, c0, e, h0⟩ := h; exact ⟨a0, c0, e, h0.impl (fun _ _ _ q => ⟨n, q⟩)⟩
theorem RFareCond.fold {s : Sg} {cs : List Value} {x : FareCond} (h : ∃ a0 c0, cs = [.int .i64 x.Kind, .int .i64 x.A, .int .i64 x.B, .slice a0 x.Kids.length c0] ∧ Sl 4 RFareCond s a0 c0 x.Kids) : RFareCond s cs x := by
  obtain ⟨a0, c0, e, h0⟩ := h
  obtain ⟨n, q⟩ := Sl.level RNFareCond.up h0
  exact ⟨n + 1, a0, c0, e, q⟩
theorem RFareCond.one : Rone RFareCond := by intro s cs x h; obtain ⟨a0, c0, rfl, _⟩ := h.unf; rfl

structure FareKey where
  N : Int
  E : Int
  D : Int
  deriving DecidableEq, Inhabited
-- FareKey is of one size
def FareKey.cells (x : FareKey) : List Go.Value := [.int .i64 x.N, .int .i64 x.E, .int .i64 x.D]
def RFareKey : Rd FareKey := fun _ cs x => cs = x.cells
theorem RFareKey.mono : Rmono RFareKey := fun _ _ _ _ _ h => h
theorem RFareKey.one : Rone RFareKey := by intro s cs x h; subst h; rfl

structure FareRule where
  If : FareCond
  Do : Int
  N : Int
  Stop : Bool
  deriving Inhabited
def szFareRule (x : FareRule) : Nat := szFareCond x.If + 1
def RFareRule : Rd FareRule := fun s cs x => ∃ a0 c0, cs = [.int .i64 x.If.Kind, .int .i64 x.If.A, .int .i64 x.If.B, .slice a0 x.If.Kids.length c0, .int .i64 x.Do, .int .i64 x.N, .bool x.Stop] ∧ Sl 4 RFareCond s a0 c0 x.If.Kids
theorem RFareRule.one : Rone RFareRule := by rintro s cs x ⟨a0, c0, rfl, _⟩; rfl
theorem RFareRule.mono : Rmono RFareRule := fun _ _ h _ _ ⟨a0, c0, e, h0⟩ => ⟨a0, c0, e, h0.mono RFareCond.mono h⟩

structure FareTariff where
  ByKm : Bool
  Bands : List FareBand
  Round : Int
  Rules : List FareRule
  deriving Inhabited
def szFareTariff (x : FareTariff) : Nat := (szL sz1) x.Bands + (szL szFareRule) x.Rules + 1
def RFareTariff : Rd FareTariff := fun s cs x => ∃ a0 c0 a1 c1, cs = [.bool x.ByKm, .slice a0 x.Bands.length c0, .int .i64 x.Round, .slice a1 x.Rules.length c1] ∧ Sl 2 RFareBand s a0 c0 x.Bands ∧ Sl 7 RFareRule s a1 c1 x.Rules
theorem RFareTariff.one : Rone RFareTariff := by rintro s cs x ⟨a0, c0, a1, c1, rfl, _⟩; rfl
theorem RFareTariff.mono : Rmono RFareTariff := fun _ _ h _ _ ⟨a0, c0, a1, c1, e, h0, h1⟩ => ⟨a0, c0, a1, c1, e, h0.mono RFareBand.mono h, h1.mono RFareRule.mono h⟩

structure FareTicket where
  No : Int
  Day : Int
  Start : Int
  End : Int
  Price : Int
  Zones : List Int
  deriving DecidableEq, Inhabited
def szFareTicket (x : FareTicket) : Nat := (szL sz1) x.Zones + 1
def RFareTicket : Rd FareTicket := fun s cs x => ∃ a0 c0, cs = [.int .i64 x.No, .int .i64 x.Day, .int .i64 x.Start, .int .i64 x.End, .int .i64 x.Price, .slice a0 x.Zones.length c0] ∧ Sl 1 (RI .i64) s a0 c0 x.Zones
theorem RFareTicket.one : Rone RFareTicket := by rintro s cs x ⟨a0, c0, rfl, _⟩; rfl
theorem RFareTicket.mono : Rmono RFareTicket := fun _ _ h _ _ ⟨a0, c0, e, h0⟩ => ⟨a0, c0, e, h0.mono RI.mono h⟩

structure FareTrip where
  Day : Int
  At : Int
  Km : Int
  Age : Int
  Card : Bool
  Zones : List Int
  deriving DecidableEq, Inhabited
def szFareTrip (x : FareTrip) : Nat := (szL sz1) x.Zones + 1
def RFareTrip : Rd FareTrip := fun s cs x => ∃ a0 c0, cs = [.int .i64 x.Day, .int .i64 x.At, .int .i64 x.Km, .int .i64 x.Age, .bool x.Card, .slice a0 x.Zones.length c0] ∧ Sl 1 (RI .i64) s a0 c0 x.Zones
theorem RFareTrip.one : Rone RFareTrip := by rintro s cs x ⟨a0, c0, rfl, _⟩; rfl
theorem RFareTrip.mono : Rmono RFareTrip := fun _ _ h _ _ ⟨a0, c0, e, h0⟩ => ⟨a0, c0, e, h0.mono RI.mono h⟩
def Fishref2within (x0 : Int) (x1 : Int) (x2 : Int) : Bool := (bnd ((if decide (x0 ≥ x1) then decide (x0 ≤ x2) else false) : Bool) fun q55 => q55)
def Fishref2KeyFault (x0 : FareKey) (x1 : Bool) : Int := (bnd ((if !(Fishref2within x0.N 1018081 1072497001) then true else (if !(Fishref2within x0.E 3 32749) then true else (if x1 then !(Fishref2within x0.D 1 (w64 (x0.N - 1))) else false))) : Bool) fun q56 => (if q56 then 2 else 0))
def Fishref2TicketFault.loop1 (x0 : FareTicket) : (List Int) → Nat → Option (Out Int Unit)
  | [], _ => some (.next ())
  | x68 :: rest69, k67 => (if !(Fishref2within x68 0 19) then some (.ret 2) else (((if decide (((k67 : Nat) : Int) > 0) then ((gx x0.Zones (w64 (((k67 : Nat) : Int) - 1))).bind fun x89 => some (decide (x68 ≤ x89))) else some false) : Option Bool).bind fun q86 => (if q86 then some (.ret 1) else Fishref2TicketFault.loop1 x0 rest69 (k67 + 1))))
def Fishref2TicketFault (x0 : FareTicket) : Option Int := (bnd ((if !(Fishref2within x0.No 0 999999) then true else (if !(Fishref2within x0.Day 0 6) then true else (if !(Fishref2within x0.Start 0 28800) then true else (if !(Fishref2within x0.End 0 28800) then true else !(Fishref2within x0.Price 0 100000))))) : Bool) fun q56 => (if q56 then some 2 else (if decide (x0.End < x0.Start) then some 13 else (if !(Fishref2within ((x0.Zones).length : Int) 1 10) then some 4 else ((Fishref2TicketFault.loop1 x0 x0.Zones 0).bind fun q66 => match q66 with | .ret r => some r | .next () => some 0)))))
def SlicesGrowLint_v1 (x1 : Int) : Option (List Int) := (if decide (x1 < 0) then none else (((if decide ((w64 (x1 - (w64 (0 - ((0 : Nat) : Int))))) > 0) then ((zq (w64 (x1 - (w64 (0 - ((0 : Nat) : Int)))))).bind fun _ => some []) else some []) : Option (List Int)).bind fun q57 => some q57))
def SlicesConcatLint.loop1 : (List (List Int)) → Int → Option Int
  | [], q62 => some q62
  | x54 :: rest55, q62 => (if decide ((w64 (q62 + ((x54).length : Int))) < 0) then none else SlicesConcatLint.loop1 rest55 (w64 (q62 + ((x54).length : Int))))
def SlicesConcatLint.loop2 : (List (List Int)) → (List Int) → Option (List Int)
  | [], q91 => some q91
  | x83 :: rest84, q91 => ((apd q91 x83).bind fun x106 => SlicesConcatLint.loop2 rest84 x106)
def SlicesConcatLint (x0 : List (List Int)) : Option (List Int) := ((SlicesConcatLint.loop1 x0 0).bind fun q62 => ((SlicesGrowLint_v1 q62).bind fun q72 => ((SlicesConcatLint.loop2 x0 q72).bind fun q91 => some q91)))
def Fishref2DigestOf.loop1 (x0 : ByteArray) : Nat → Nat → Int → Option Int
  | 0, _, q64 => some q64
  | rest55 + 1, k53, q64 => ((sgx x0 ((k53 : Nat) : Int)).bind fun x66 => Fishref2DigestOf.loop1 x0 rest55 (k53 + 1) (Int.tmod (w64 ((w64 ((w64 (q64 * 257)) + (w64 x66))) + 1)) 999983))
def Fishref2DigestOf (x0 : ByteArray) : Option Int := ((szok x0).bind fun _ => (Fishref2DigestOf.loop1 x0 x0.size 0 1).bind fun q64 => some q64)
def Fishref2powerOf.loop1 (x0 : Int) (x1 : Int) (x2 : Int) : Nat → Int → Int → Option (Int × Int)
  | 0, _, _ => none
  | n53 + 1, q57, q58 => (if decide (q58 ≥ 0) then ((rm (w64 (q57 * q57)) x2).bind fun x61 => ((nn q58).bind fun _ => (((if ((IntKind.wrap .i64 ((BitVec.ofInt (IntKind.bits .i64) (Int.fdiv x1 (2 ^ (min (Int.toNat q58) (IntKind.bits .i64)))) &&& BitVec.ofInt (IntKind.bits .i64) 1).toNat : Int)) == 1) then ((rm x0 x2).bind fun x71 => ((rm (w64 (x61 * x71)) x2).bind fun x73 => some x73)) else some x61) : Option Int).bind fun q68 => Fishref2powerOf.loop1 x0 x1 x2 n53 q68 (w64 (q58 - 1))))) else some (q57, q58))
def Fishref2powerOf (fu : Nat) (x0 : Int) (x1 : Int) (x2 : Int) : Option Int := ((Fishref2powerOf.loop1 x0 x1 x2 fu 1 62).bind fun q52 => match q52 with | (q57, _) => some q57)
def Fishref2SignOf (fu : Nat) (x0 : FareKey) (x1 : ByteArray) : Option Int := ((Fishref2DigestOf x1).bind fun q52 => ((Fishref2powerOf fu q52 x0.D x0.N).bind fun q54 => some q54))
def Fishref2IssueOf.loop1 (q69 : (List Int)) : Nat → Nat → ByteArray → Option ByteArray
  | 0, _, q89 => some q89
  | rest81 + 1, k79, q89 => ((gx q69 ((k79 : Nat) : Int)).bind fun x91 => ((itoa x91).bind fun q101 => ((scat q101 (str [32])).bind fun x103 => ((scat q89 x103).bind fun x105 => Fishref2IssueOf.loop1 q69 rest81 (k79 + 1) x105))))
def Fishref2IssueOf (fu : Nat) (x0 : FareKey) (x1 : FareTicket) : Option (ByteArray × Int) := (if ((Fishref2KeyFault x0 true) != 0) then some ((str []), (Fishref2KeyFault x0 true)) else ((Fishref2TicketFault x1).bind fun q54 => (if (q54 != 0) then some ((str []), q54) else ((SlicesConcatLint [[x1.No, x1.Day, x1.Start, x1.End, x1.Price], x1.Zones]).bind fun q69 => ((Fishref2IssueOf.loop1 q69 q69.length 0 (str [116, 105, 99, 107, 101, 116, 32])).bind fun q89 => ((scat q89 (str [58, 32])).bind fun x107 => ((Fishref2SignOf fu x0 x107).bind fun q109 => ((itoa q109).bind fun q111 => ((scat x107 q111).bind fun x113 => ((scat x113 (str [10])).bind fun x115 => some (x115, 0)))))))))))
def Farewithin (x0 : Int) (x1 : Int) (x2 : Int) : Bool := (bnd ((if decide (x0 ≥ x1) then decide (x0 ≤ x2) else false) : Bool) fun q55 => q55)
def FareCondsize.loop1 (self_FareCondsize : FareCond → Option (Int × Int)) : (List FareCond) → Int → Int → Option (Int × Int)
  | [], q63, q64 => some (q63, q64)
  | x55 :: rest56, q63, q64 => ((self_FareCondsize x55).bind fun q74 => FareCondsize.loop1 self_FareCondsize rest56 (w64 (q63 + q74.1)) (mx q64 q74.2))
def FareCondsize : Nat → FareCond → Option (Int × Int)
  | 0, _ => none
  | fu + 1, x0 => ((FareCondsize.loop1 (FareCondsize fu) x0.Kids 1 0).bind fun q53 => match q53 with | (q63, q64) => some (q63, w64 (q64 + 1)))
def Farenumbers (x0 : Int) : Int := (bnd ((if (x0 == 2) then (x0 == 2) else (bnd ((if (x0 == 3) then (x0 == 3) else (bnd ((if (x0 == 4) then (x0 == 4) else (x0 == 5)) : Bool) fun q69 => q69)) : Bool) fun q62 => q62)) : Bool) fun q55 => (if q55 then 2 else (bnd ((if (x0 == 6) then (x0 == 6) else (bnd ((if (x0 == 7) then (x0 == 7) else (x0 == 8)) : Bool) fun q84 => q84)) : Bool) fun q77 => (if q77 then 1 else 0))))
def FareCondnode.loop1 (self_FareCondnode : FareCond → Option Int) : (List FareCond) → Option (Out Int Unit)
  | [] => some (.next ())
  | x98 :: rest99 => ((self_FareCondnode x98).bind fun q115 => (if (q115 != 0) then some (.ret q115) else FareCondnode.loop1 self_FareCondnode rest99))
def FareCondnode : Nat → FareCond → Option Int
  | 0, _ => none
  | fu + 1, x0 => (if !(Farewithin x0.Kind 0 11) then some 15 else (bnd ((if !(Farewithin x0.A 0 28800) then true else !(Farewithin x0.B 0 28800)) : Bool) fun q57 => (if q57 then some 2 else (bnd ((if decide ((Farenumbers x0.Kind) < 1) then (if (x0.A != 0) then true else (if decide ((Farenumbers x0.Kind) < 2) then (if (x0.B != 0) then true else (if ((Farenumbers x0.Kind) == 2) then decide (x0.A > x0.B) else false)) else (if ((Farenumbers x0.Kind) == 2) then decide (x0.A > x0.B) else false))) else (if decide ((Farenumbers x0.Kind) < 2) then (if (x0.B != 0) then true else (if ((Farenumbers x0.Kind) == 2) then decide (x0.A > x0.B) else false)) else (if ((Farenumbers x0.Kind) == 2) then decide (x0.A > x0.B) else false))) : Bool) fun q65 => (if q65 then some 1 else (bnd ((if (x0.Kind == 9) then (if (((x0.Kids).length : Int) != 1) then true else (if decide (x0.Kind > 9) then (if decide (((x0.Kids).length : Int) < 2) then true else (if decide (x0.Kind < 9) then decide (((x0.Kids).length : Int) > 0) else false)) else (if decide (x0.Kind < 9) then decide (((x0.Kids).length : Int) > 0) else false))) else (if decide (x0.Kind > 9) then (if decide (((x0.Kids).length : Int) < 2) then true else (if decide (x0.Kind < 9) then decide (((x0.Kids).length : Int) > 0) else false)) else (if decide (x0.Kind < 9) then decide (((x0.Kids).length : Int) > 0) else false))) : Bool) fun q82 => (if q82 then some 1 else ((FareCondnode.loop1 (FareCondnode fu) x0.Kids).bind fun q96 => match q96 with | .ret r => some r | .next () => some 0))))))))
def FareCondcheck (fu : Nat) (x0 : FareCond) : Option Int := ((FareCondsize fu x0).bind fun q52 => (bnd ((if decide (q52.1 > 40) then true else decide (q52.2 > 6)) : Bool) fun q58 => (if q58 then some 4 else ((FareCondnode fu x0).bind fun q62 => some q62))))
def FareCheckTariff.loop1 (x0 : FareTariff) : (List FareBand) → Nat → Option (Out Int Unit)
  | [], _ => some (.next ())
  | x63 :: rest64, k62 => (bnd ((if !(Farewithin x63.Upto 1 1000) then true else !(Farewithin x63.Price 0 100000)) : Bool) fun q81 => (if q81 then some (.ret 2) else (((if decide (((k62 : Nat) : Int) > 0) then ((gx x0.Bands (w64 (((k62 : Nat) : Int) - 1))).bind fun x92 => (if decide (x63.Upto ≤ x92.Upto) then some true else ((gx x0.Bands (w64 (((k62 : Nat) : Int) - 1))).bind fun x102 => some (decide (x63.Price < x102.Price))))) else some false) : Option Bool).bind fun q89 => (if q89 then some (.ret 1) else FareCheckTariff.loop1 x0 rest64 (k62 + 1)))))
def FareCheckTariff.loop2 (fu : Nat) : (List FareRule) → Option (Out Int Unit)
  | [] => some (.next ())
  | x116 :: rest117 => ((FareCondcheck fu x116.If).bind fun q133 => (if (q133 != 0) then some (.ret q133) else (bnd ((if (x116.Do == 1) then 200 else 100000) : Int) fun q140 => (if !(Farewithin x116.Do 1 6) then some (.ret 15) else (if !(Farewithin x116.N 0 q140) then some (.ret 2) else FareCheckTariff.loop2 fu rest117)))))
def FareCheckTariff (fu : Nat) (x0 : FareTariff) : Option Int := (bnd ((if !(Farewithin ((x0.Bands).length : Int) 1 8) then true else decide (((x0.Rules).length : Int) > 20)) : Bool) fun q56 => (if q56 then some 4 else ((FareCheckTariff.loop1 x0 x0.Bands 0).bind fun q61 => match q61 with | .ret r => some r | .next () => (if !(Farewithin x0.Round 1 100) then some 2 else ((FareCheckTariff.loop2 fu x0.Rules).bind fun q114 => match q114 with | .ret r => some r | .next () => some 0)))))
def FarecheckZones.loop1 (x0 : List Int) (x1 : Bool) : (List Int) → Nat → Option (Out Int Unit)
  | [], _ => some (.next ())
  | x54 :: rest55, k53 => (if !(Farewithin x54 0 19) then some (.ret 2) else (((if decide (((k53 : Nat) : Int) > 0) then ((gx x0 (w64 (((k53 : Nat) : Int) - 1))).bind fun x75 => (if (x54 == x75) then some true else (if x1 then ((gx x0 (w64 (((k53 : Nat) : Int) - 1))).bind fun x86 => some (decide (x54 < x86))) else some false))) else some false) : Option Bool).bind fun q72 => (if q72 then some (.ret 1) else FarecheckZones.loop1 x0 x1 rest55 (k53 + 1))))
def FarecheckZones (x0 : List Int) (x1 : Bool) : Option Int := ((FarecheckZones.loop1 x0 x1 x0 0).bind fun q52 => match q52 with | .ret r => some r | .next () => some 0)
def FareCheckTrip (x0 : FareTrip) : Option Int := (bnd ((if !(Farewithin x0.Day 0 6) then true else (if !(Farewithin x0.At 0 28800) then true else (if !(Farewithin x0.Km 0 1000) then true else !(Farewithin x0.Age 0 120)))) : Bool) fun q56 => (if q56 then some 2 else (if !(Farewithin ((x0.Zones).length : Int) 1 10) then some 4 else ((FarecheckZones x0.Zones false).bind fun q63 => some q63))))
def FareTariffprice_1_v1 (x0 : FareBand) (y0 : Int) : Bool := decide (x0.Upto ≥ y0)
def SlicesIndexFuncLfareBand_v1.loop1 (y0 : Int) : (List FareBand) → Nat → Out Int Unit
  | [], _ => (.next ())
  | x54 :: rest55, k53 => (if (FareTariffprice_1_v1 x54 y0) then (.ret ((k53 : Nat) : Int)) else SlicesIndexFuncLfareBand_v1.loop1 y0 rest55 (k53 + 1))
def SlicesIndexFuncLfareBand_v1 (x0 : List FareBand) (y0 : Int) : Int := (bnd (SlicesIndexFuncLfareBand_v1.loop1 y0 x0 0) fun q52 => match q52 with | .ret r => r | .next () => (-1))
def FareCondholds_1_v1 (x0 : Int) (y0 : FareCond) : Bool := (Farewithin x0 y0.A y0.B)
def SlicesIndexLint.loop1 (x1 : Int) : (List Int) → Nat → Out Int Unit
  | [], _ => (.next ())
  | x54 :: rest55, k53 => (if (x1 == x54) then (.ret ((k53 : Nat) : Int)) else SlicesIndexLint.loop1 x1 rest55 (k53 + 1))
def SlicesIndexLint (x0 : List Int) (x1 : Int) : Int := (bnd (SlicesIndexLint.loop1 x1 x0 0) fun q52 => match q52 with | .ret r => r | .next () => (-1))
def SlicesContainsLint (x0 : List Int) (x1 : Int) : Bool := decide ((SlicesIndexLint x0 x1) ≥ 0)
def FareCondholds_2_v1 (self_FareCondholds : FareCond → FareTrip → Option Bool) (x0 : FareCond) (y0 : FareTrip) : Option Bool := ((self_FareCondholds x0 y0).bind fun q52 => some !q52)
def SlicesIndexFuncLfareCond_v1.loop1 (y0 : FareTrip) (self_FareCondholds : FareCond → FareTrip → Option Bool) : (List FareCond) → Nat → Option (Out Int Unit)
  | [], _ => some (.next ())
  | x54 :: rest55, k53 => ((FareCondholds_2_v1 self_FareCondholds x54 y0).bind fun q70 => (if q70 then some (.ret ((k53 : Nat) : Int)) else SlicesIndexFuncLfareCond_v1.loop1 y0 self_FareCondholds rest55 (k53 + 1)))
def SlicesIndexFuncLfareCond_v1 (self_FareCondholds : FareCond → FareTrip → Option Bool) (x0 : List FareCond) (y0 : FareTrip) : Option Int := ((SlicesIndexFuncLfareCond_v1.loop1 y0 self_FareCondholds x0 0).bind fun q52 => match q52 with | .ret r => some r | .next () => some (-1))
def SlicesContainsFuncLfareCond_v1 (self_FareCondholds : FareCond → FareTrip → Option Bool) (x0 : List FareCond) (y0 : FareTrip) : Option Bool := ((SlicesIndexFuncLfareCond_v1 self_FareCondholds x0 y0).bind fun q51 => some (decide (q51 ≥ 0)))
def FareCondholds_3_v1 (self_FareCondholds : FareCond → FareTrip → Option Bool) (x0 : FareCond) (y0 : FareTrip) : Option Bool := ((self_FareCondholds x0 y0).bind fun q52 => some q52)
def SlicesIndexFuncLfareCond_v2.loop1 (y0 : FareTrip) (self_FareCondholds : FareCond → FareTrip → Option Bool) : (List FareCond) → Nat → Option (Out Int Unit)
  | [], _ => some (.next ())
  | x54 :: rest55, k53 => ((FareCondholds_3_v1 self_FareCondholds x54 y0).bind fun q70 => (if q70 then some (.ret ((k53 : Nat) : Int)) else SlicesIndexFuncLfareCond_v2.loop1 y0 self_FareCondholds rest55 (k53 + 1)))
def SlicesIndexFuncLfareCond_v2 (self_FareCondholds : FareCond → FareTrip → Option Bool) (x0 : List FareCond) (y0 : FareTrip) : Option Int := ((SlicesIndexFuncLfareCond_v2.loop1 y0 self_FareCondholds x0 0).bind fun q52 => match q52 with | .ret r => some r | .next () => some (-1))
def SlicesContainsFuncLfareCond_v2 (self_FareCondholds : FareCond → FareTrip → Option Bool) (x0 : List FareCond) (y0 : FareTrip) : Option Bool := ((SlicesIndexFuncLfareCond_v2 self_FareCondholds x0 y0).bind fun q51 => some (decide (q51 ≥ 0)))
def FareCondholds : Nat → FareCond → FareTrip → Option Bool
  | 0, _, _ => none
  | fu + 1, x0, x1 => (if (x0.Kind == 1) then some x1.Card else (if (x0.Kind == 2) then some (FareCondholds_1_v1 x1.Age x0) else (if (x0.Kind == 3) then some (FareCondholds_1_v1 x1.At x0) else (if (x0.Kind == 4) then some (FareCondholds_1_v1 x1.Km x0) else (if (x0.Kind == 5) then some (FareCondholds_1_v1 ((x1.Zones).length : Int) x0) else (if (x0.Kind == 6) then some (SlicesContainsLint x1.Zones x0.A) else (if (x0.Kind == 7) then ((gx x1.Zones 0).bind fun x60 => some (x60 == x0.A)) else (if (x0.Kind == 8) then ((gx x1.Zones (w64 (((x1.Zones).length : Int) - 1))).bind fun x70 => some (x70 == x0.A)) else (if (x0.Kind == 9) then ((gx x0.Kids 0).bind fun x80 => (((FareCondholds fu) x80 x1).bind fun q92 => some !q92)) else (if (x0.Kind == 10) then ((SlicesContainsFuncLfareCond_v1 (FareCondholds fu) x0.Kids x1).bind fun q95 => some !q95) else (if (x0.Kind == 11) then ((SlicesContainsFuncLfareCond_v2 (FareCondholds fu) x0.Kids x1).bind fun q98 => some q98) else some true)))))))))))
def FareRulechange (x0 : FareRule) (x1 : Int) : Int := (if (x0.Do == 1) then mn 100000 (w64 (Int.tdiv (w64 (x1 * x0.N)) 100)) else (if (x0.Do == 2) then mx 0 (w64 (x1 - x0.N)) else (if (x0.Do == 3) then mn 100000 (w64 (x1 + x0.N)) else (if (x0.Do == 4) then x0.N else (if (x0.Do == 5) then mn x1 x0.N else mx x1 x0.N)))))
def FareTariffprice.loop1 (x1 : FareTrip) (fu : Nat) : (List FareRule) → Nat → Int → (List Int) → Option (Int × (List Int))
  | [], _, q89, q90 => some (q89, q90)
  | x81 :: rest82, k80, q89, q90 => ((FareCondholds fu x81.If x1).bind fun q106 => (if !q106 then FareTariffprice.loop1 x1 fu rest82 (k80 + 1) q89 q90 else ((apd q90 [((k80 : Nat) : Int)]).bind fun x110 => (if x81.Stop then some ((FareRulechange x81 q89), x110) else FareTariffprice.loop1 x1 fu rest82 (k80 + 1) (FareRulechange x81 q89) x110))))
def FareTariffprice (fu : Nat) (x0 : FareTariff) (x1 : FareTrip) : Option (Int × (List Int)) := (bnd ((if x0.ByKm then x1.Km else ((x1.Zones).length : Int)) : Int) fun q58 => (bnd ((if decide ((SlicesIndexFuncLfareBand_v1 x0.Bands q58) < 0) then w64 (((x0.Bands).length : Int) - 1) else (SlicesIndexFuncLfareBand_v1 x0.Bands q58)) : Int) fun q65 => ((gx x0.Bands q65).bind fun x68 => ((FareTariffprice.loop1 x1 fu x0.Rules 0 x68.Price []).bind fun q79 => match q79 with | (q89, q90) => ((dv (w64 ((w64 (q89 + x0.Round)) - 1)) x0.Round).bind fun x117 => some (w64 (x117 * x0.Round), q90))))))
def FarePrice (fu : Nat) (x0 : FareTariff) (x1 : FareTrip) : Option (Int × (List Int) × Int) := ((FareCheckTariff fu x0).bind fun q53 => (if (q53 != 0) then some (0, [], q53) else ((FareCheckTrip x1).bind fun q57 => (if (q57 != 0) then some (0, [], q57) else ((FareTariffprice fu x0 x1).bind fun q61 => some (q61.1, q61.2, 0))))))
def SlicesEqualLint.loop1 (x1 : List Int) : (List Int) → Nat → Option (Out Bool Unit)
  | [], _ => some (.next ())
  | x55 :: rest56, k54 => ((gx x1 ((k54 : Nat) : Int)).bind fun x68 => (if (x55 != x68) then some (.ret false) else SlicesEqualLint.loop1 x1 rest56 (k54 + 1)))
def SlicesEqualLint (x0 : List Int) (x1 : List Int) : Option Bool := (if (((x0).length : Int) != ((x1).length : Int)) then some false else ((SlicesEqualLint.loop1 x1 x0 0).bind fun q53 => match q53 with | .ret r => some r | .next () => some true))
def Fishlaw2fares (fu : Nat) : Option Bool := ((FarePrice fu (FareTariff.mk false [(FareBand.mk 3 500)] 50 [(FareRule.mk (FareCond.mk 2 0 14 []) 1 50 false)]) (FareTrip.mk 0 0 0 10 false [1, 2])).bind fun q70 => (((if (q70.2.2 == 0) then (if (q70.1 == 250) then ((SlicesEqualLint q70.2.1 [0]).bind fun q92 => some q92) else some false) else some false) : Option Bool).bind fun q82 => some q82))
def FareKeycheck (x0 : FareKey) (x1 : Bool) : Int := (bnd ((if !(Farewithin x0.N 1018081 1072497001) then true else (if !(Farewithin x0.E 3 32749) then true else (if x1 then !(Farewithin x0.D 1 (w64 (x0.N - 1))) else false))) : Bool) fun q56 => (if q56 then 2 else 0))
def InternalStringsliteHasSuffix (x0 : ByteArray) (x1 : ByteArray) : Option Bool := (((if decide (((x0.size : Nat) : Int) ≥ ((x1.size : Nat) : Int)) then ((scut x0 (w64 (((x0.size : Nat) : Int) - ((x1.size : Nat) : Int))) ((x0.size : Nat) : Int)).bind fun x58 => some (seq x58 x1)) else some false) : Option Bool).bind fun q55 => some q55)
def InternalStringsliteCutSuffix (x0 : ByteArray) (x1 : ByteArray) : Option (ByteArray × Bool) := ((InternalStringsliteHasSuffix x0 x1).bind fun q51 => (if !q51 then some (x0, false) else ((scut x0 0 (w64 (((x0.size : Nat) : Int) - ((x1.size : Nat) : Int)))).bind fun x54 => some (x54, true))))
def StringsCutSuffix (x0 : ByteArray) (x1 : ByteArray) : Option (ByteArray × Bool) := ((InternalStringsliteCutSuffix x0 x1).bind fun q51 => some (q51.1, q51.2))
def Farenumber (x0 : ByteArray) : Option (Option Int) := ((atoiq x0).bind fun q51 => (((if (!(q51.2)) then some true else (if decide (q51.1 < 0) then some true else ((itoa q51.1).bind fun q63 => some (!(seq q63 x0))))) : Option Bool).bind fun q59 => (if q59 then some none else some (some q51.1))))
def Fareopen.loop1 : (List ByteArray) → (List Int) → Option (Out ((List Int) × Int × Bool) (List Int))
  | [], q115 => some (.next q115)
  | x107 :: rest108, q115 => ((Farenumber x107).bind fun q127 => match q127 with | none => some (.ret (q115, 0, false)) | some rr129 => ((apd q115 [rr129]).bind fun x137 => Fareopen.loop1 rest108 x137))
def Fareopen (x0 : ByteArray) : Option ((List Int) × Int × Bool) := ((StringsCutSuffix x0 (str [10])).bind fun q53 => ((splitq q53.1 (str [32])).bind fun q55 => (((if !q53.2 then some true else (if decide (((q55.length : Nat) : Int) < 9) then some true else ((gx q55 0).bind fun x69 => (if !(seq x69 (str [116, 105, 99, 107, 101, 116])) then some true else ((gx q55 (w64 (((q55.length : Nat) : Int) - 2))).bind fun x80 => some (!(seq x80 (str [58])))))))) : Option Bool).bind fun q65 => (if q65 then some ([], 0, false) else ((cutl q55 1 (w64 (((q55.length : Nat) : Int) - 2))).bind fun x95 => ((Fareopen.loop1 x95 []).bind fun q105 => match q105 with | .ret r => some r | .next q115 => ((gx q55 (w64 (((q55).length : Int) - 1))).bind fun x143 => ((Farenumber x143).bind fun q152 => match q152 with | none => some (q115, 0, false) | some rr154 => some (q115, rr154, true)))))))))
def InternalBytealgLastIndexByteString.loop1 (x0 : ByteArray) (x1 : Int) : Nat → Int → Option (Out Int Int)
  | 0, _ => none
  | n53 + 1, q57 => (if decide (q57 ≥ 0) then ((sgx x0 q57).bind fun x60 => (if (x60 == x1) then some (.ret q57) else InternalBytealgLastIndexByteString.loop1 x0 x1 n53 (w64 (q57 - 1)))) else some (.next q57))
def InternalBytealgLastIndexByteString (fu : Nat) (x0 : ByteArray) (x1 : Int) : Option Int := ((InternalBytealgLastIndexByteString.loop1 x0 x1 fu (w64 (((x0.size : Nat) : Int) - 1))).bind fun q52 => match q52 with | .ret r => some r | .next _ => some (-1))
def StringsLastIndexByte (fu : Nat) (x0 : ByteArray) (x1 : Int) : Option Int := ((InternalBytealgLastIndexByteString fu x0 x1).bind fun q51 => some q51)
def Farepower.loop1 (x2 : Int) : Nat → Int → Int → Int → Option (Int × Int × Int)
  | 0, _, _, _ => none
  | n57 + 1, q61, q62, q63 => (if decide (q62 > 0) then (((if ((IntKind.wrap .i64 ((BitVec.ofInt (IntKind.bits .i64) q62 &&& BitVec.ofInt (IntKind.bits .i64) 1).toNat : Int)) == 1) then ((rm (w64 (q63 * q61)) x2).bind fun x73 => some x73) else some q63) : Option Int).bind fun q70 => ((rm (w64 (q61 * q61)) x2).bind fun x75 => Farepower.loop1 x2 n57 x75 (Int.fdiv q62 (2 ^ (min (Int.toNat 1) (IntKind.bits .i64)))) q70)) else some (q61, q62, q63))
def Farepower (fu : Nat) (x0 : Int) (x1 : Int) (x2 : Int) : Option Int := ((rm 1 x2).bind fun x51 => ((rm x0 x2).bind fun x53 => ((Farepower.loop1 x2 fu x53 x1 x51).bind fun q56 => match q56 with | (_, _, q63) => some q63)))
def FareDigest.loop1 (x0 : ByteArray) : Nat → Nat → Int → Option Int
  | 0, _, q64 => some q64
  | rest55 + 1, k53, q64 => ((sgx x0 ((k53 : Nat) : Int)).bind fun x66 => FareDigest.loop1 x0 rest55 (k53 + 1) (Int.tmod (w64 ((w64 ((w64 (q64 * 257)) + (w64 x66))) + 1)) 999983))
def FareDigest (x0 : ByteArray) : Option Int := ((szok x0).bind fun _ => (FareDigest.loop1 x0 x0.size 0 1).bind fun q64 => some q64)
def FareVerify (fu : Nat) (x0 : FareKey) (x1 : ByteArray) (x2 : Int) : Option (Bool × Int) := (if ((FareKeycheck x0 false) != 0) then some (false, (FareKeycheck x0 false)) else (((if (Farewithin x2 0 (w64 (x0.N - 1))) then ((Farepower fu x2 x0.E x0.N).bind fun q61 => ((FareDigest x1).bind fun q63 => some ((q61 == q63), 0))) else some (false, 0)) : Option (Bool × Int)).bind fun q54 => match q54 with | (q57, q58) => some (q57, q58)))
def FareTicketcheck (x0 : FareTicket) : Option Int := (bnd ((if !(Farewithin x0.No 0 999999) then true else (if !(Farewithin x0.Day 0 6) then true else (if !(Farewithin x0.Start 0 28800) then true else (if !(Farewithin x0.End 0 28800) then true else !(Farewithin x0.Price 0 100000))))) : Bool) fun q56 => (if q56 then some 2 else (if decide (x0.End < x0.Start) then some 13 else (if !(Farewithin ((x0.Zones).length : Int) 1 10) then some 4 else ((FarecheckZones x0.Zones true).bind fun q65 => some q65)))))
def FareOpen (fu : Nat) (x0 : FareKey) (x1 : ByteArray) : Option (FareTicket × Int) := (if ((FareKeycheck x0 false) != 0) then some ((FareTicket.mk 0 0 0 0 0 []), (FareKeycheck x0 false)) else (if decide (((x1.size : Nat) : Int) > 200) then some ((FareTicket.mk 0 0 0 0 0 []), 4) else ((Fareopen x1).bind fun q55 => (if !q55.2.2 then some ((FareTicket.mk 0 0 0 0 0 []), 10) else ((StringsLastIndexByte fu x1 32).bind fun q66 => ((scut x1 0 (w64 (q66 + 1))).bind fun x68 => ((FareVerify fu x0 x68 q55.2.1).bind fun q70 => (if !q70.1 then some ((FareTicket.mk 0 0 0 0 0 []), 11) else ((gx q55.1 0).bind fun x77 => ((gx q55.1 1).bind fun x86 => ((gx q55.1 2).bind fun x95 => ((gx q55.1 3).bind fun x104 => ((gx q55.1 4).bind fun x113 => ((cutl q55.1 5 ((q55.1).length : Int)).bind fun x122 => ((FareTicketcheck (FareTicket.mk x77 x86 x95 x104 x113 x122)).bind fun q132 => (if (q132 != 0) then some ((FareTicket.mk 0 0 0 0 0 []), q132) else some ((FareTicket.mk x77 x86 x95 x104 x113 x122), 0)))))))))))))))))
def FareAccept (fu : Nat) (x0 : FareKey) (x1 : ByteArray) (x2 : Int) (x3 : Int) (x4 : Int) (x5 : List Int) : Option Int := ((FareOpen fu x0 x1).bind fun q52 => (if (q52.2 != 0) then some q52.2 else (bnd ((if (q52.1.Day != x2) then true else !(Farewithin x3 q52.1.Start q52.1.End)) : Bool) fun q67 => (if q67 then some 13 else (if !(SlicesContainsLint q52.1.Zones x4) then some 9 else (if (SlicesContainsLint x5 q52.1.No) then some 7 else some 0))))))
def Fishref2plain (x0 : ByteArray) : Option (Int × Bool) := ((atoiq x0).bind fun q51 => (((if q51.2 then (if decide (q51.1 ≥ 0) then ((itoa q51.1).bind fun q64 => some (q51.1, (seq q64 x0))) else some (q51.1, false)) else some (q51.1, false)) : Option (Int × Bool)).bind fun q56 => match q56 with | (q59, q60) => some (q59, q60)))
def Fishref2VerifyOf (fu : Nat) (x0 : FareKey) (x1 : ByteArray) (x2 : Int) : Option Bool := (((if decide (x2 ≥ 0) then (if decide (x2 < x0.N) then ((Fishref2powerOf fu x2 x0.E x0.N).bind fun q60 => ((Fishref2DigestOf x1).bind fun q62 => some (q60 == q62))) else some false) else some false) : Option Bool).bind fun q56 => some q56)
def Fishref2OpenOf.loop1 (q57 : List ByteArray) : Nat → Nat → (List Int) → Int → Int → Int → Int → Int → (List Int) → Option (Out (FareTicket × Int) ((List Int) × Int × Int × Int × Int × Int × (List Int)))
  | 0, _, q106, q113, q114, q115, q116, q117, q118 => some (.next (q106, q113, q114, q115, q116, q117, q118))
  | rest98 + 1, k96, q106, q113, q114, q115, q116, q117, q118 => ((gx q57 ((k96 : Nat) : Int)).bind fun x123 => (bnd ((if (((k96 : Nat) : Int) == 0) then true else (((k96 : Nat) : Int) == (w64 (((q57.length : Nat) : Int) - 2)))) : Bool) fun q137 => (if q137 then Fishref2OpenOf.loop1 q57 rest98 (k96 + 1) q106 q113 q114 q115 q116 q117 q118 else ((Fishref2plain x123).bind fun q141 => (if !q141.2 then some (.ret ((FareTicket.mk 0 0 0 0 0 []), 10)) else ((apd q106 [q141.1]).bind fun x145 => Fishref2OpenOf.loop1 q57 rest98 (k96 + 1) x145 q113 q114 q115 q116 q117 q118))))))
def Fishref2OpenOf (fu : Nat) (x0 : FareKey) (x1 : ByteArray) : Option (FareTicket × Int) := (if ((Fishref2KeyFault x0 false) != 0) then some ((FareTicket.mk 0 0 0 0 0 []), (Fishref2KeyFault x0 false)) else (if decide (((x1.size : Nat) : Int) > 200) then some ((FareTicket.mk 0 0 0 0 0 []), 4) else ((StringsCutSuffix x1 (str [10])).bind fun q55 => ((splitq q55.1 (str [32])).bind fun q57 => (((if !q55.2 then some true else (if decide (((q57.length : Nat) : Int) < 9) then some true else ((gx q57 0).bind fun x71 => (if !(seq x71 (str [116, 105, 99, 107, 101, 116])) then some true else ((gx q57 (w64 (((q57.length : Nat) : Int) - 2))).bind fun x82 => some (!(seq x82 (str [58])))))))) : Option Bool).bind fun q67 => (if q67 then some ((FareTicket.mk 0 0 0 0 0 []), 10) else ((Fishref2OpenOf.loop1 q57 q57.length 0 [] 0 0 0 0 0 []).bind fun q95 => match q95 with | .ret r => some r | .next (q106, _, _, _, _, _, _) => ((gx q106 (w64 (((q106.length : Nat) : Int) - 1))).bind fun x151 => ((gx q57 (w64 (((q57.length : Nat) : Int) - 1))).bind fun x161 => ((scut q55.1 0 (w64 (((q55.1.size : Nat) : Int) - ((x161.size : Nat) : Int)))).bind fun x171 => ((Fishref2VerifyOf fu x0 x171 x151).bind fun q173 => (if !q173 then some ((FareTicket.mk 0 0 0 0 0 []), 11) else ((gx q106 0).bind fun x180 => ((gx q106 1).bind fun x189 => ((gx q106 2).bind fun x198 => ((gx q106 3).bind fun x207 => ((gx q106 4).bind fun x216 => ((cutl q106 5 (w64 (((q106).length : Int) - 1))).bind fun x225 => ((Fishref2TicketFault (FareTicket.mk x180 x189 x198 x207 x216 x225)).bind fun q235 => (if (q235 != 0) then some ((FareTicket.mk 0 0 0 0 0 []), q235) else some ((FareTicket.mk x180 x189 x198 x207 x216 x225), 0)))))))))))))))))))))
def Fishref2AcceptOf (fu : Nat) (x0 : FareKey) (x1 : ByteArray) (x2 : Int) (x3 : Int) (x4 : Int) (x5 : List Int) : Option Int := ((Fishref2OpenOf fu x0 x1).bind fun q52 => (if (q52.2 != 0) then some q52.2 else (bnd ((if (q52.1.Day != x2) then true else (if decide (x3 < q52.1.Start) then true else decide (x3 > q52.1.End))) : Bool) fun q67 => (if q67 then some 13 else (if !(SlicesContainsLint q52.1.Zones x4) then some 9 else (if (SlicesContainsLint x5 q52.1.No) then some 7 else some 0))))))
def Fishlaw2FareAccepts (fu : Nat) (x0 : FareKey) (x1 : FareTicket) (x2 : ByteArray) (x3 : Int) (x4 : Int) (x5 : Int) (x6 : List Int) : Option Bool := ((Fishref2IssueOf fu x0 x1).bind fun q53 => (bnd ((if (q53.2 == 0) then q53.1 else x2) : ByteArray) fun q59 => ((((Fishlaw2fares fu).bind fun q68 => (if q68 then ((FareAccept fu x0 q59 x3 x4 x5 x6).bind fun q71 => ((Fishref2AcceptOf fu x0 q59 x3 x4 x5 x6).bind fun q73 => some (q71 == q73))) else some false)) : Option Bool).bind fun q66 => some q66)))
end Go.Fp
