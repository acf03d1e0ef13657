/- TopTicketed: the mirror of the law is true of all days, journeys, tariffs and numbers. -/
import Derived.Test.YtngamgkmhgmmjaaGreatDoorTopTicketedM
import Derived.Test.YtngamgkmhgmmjaaGreatDoorFpPlain
import Derived.Lib.ItoaLen
import Derived.Lib.AtoiTie
import Derived.Lib.SplitLaws
import Derived.Lib.CountLaws
import Derived.Lib.ItoaMem
import Derived.Lib.AtoiAllCases
import Derived.Lib.RowBridge
import Derived.KernelRfl
namespace Go.Fp
/-! what the document computes, printed by the generator for other laws: the lemmas here compare with it -/
def Fishref2shape_v1.loop1 (self_Fishref2shape_v1 : FareCond → Int → Option (Int × Int)) : (List FareCond) → Int → Int → Option (Int × Int)
  | [], q65, q66 => some (q65, q66)
  | x57 :: rest58, q65, q66 => ((self_Fishref2shape_v1 x57 q66).bind fun q76 => (if decide (q76.2 < 0) then some (mx q65 q76.1, q76.2) else Fishref2shape_v1.loop1 self_Fishref2shape_v1 rest58 (mx q65 q76.1) q76.2))
def Fishref2shape_v1 : Nat → FareCond → Int → Option (Int × Int)
  | 0, _, _ => none
  | fu + 1, x0, y0 => (if decide ((w64 (y0 - 1)) < 0) then some (1, w64 (y0 - 1)) else ((Fishref2shape_v1.loop1 (Fishref2shape_v1 fu) x0.Kids 0 (w64 (y0 - 1))).bind fun q55 => match q55 with | (q65, q66) => some (w64 (q65 + 1), q66)))
def Fishref2numbersOf (x0 : Int) : Int := (bnd ((if (x0 == 2) then (x0 == 2) else (bnd ((if (x0 == 3) then (x0 == 3) else (bnd ((if (x0 == 4) then (x0 == 4) else (x0 == 5)) : Bool) fun q69 => q69)) : Bool) fun q62 => q62)) : Bool) fun q55 => (if q55 then 2 else (bnd ((if (x0 == 6) then (x0 == 6) else (bnd ((if (x0 == 7) then (x0 == 7) else (x0 == 8)) : Bool) fun q84 => q84)) : Bool) fun q77 => (if q77 then 1 else 0))))
def Fishref2nodeFault.loop1 (self_Fishref2nodeFault : FareCond → Option Int) : (List FareCond) → Option (Out Int Unit)
  | [] => some (.next ())
  | x83 :: rest84 => ((self_Fishref2nodeFault x83).bind fun q100 => (if (q100 != 0) then some (.ret q100) else Fishref2nodeFault.loop1 self_Fishref2nodeFault rest84))
def Fishref2nodeFault.loop2 (self_Fishref2nodeFault : FareCond → Option Int) : (List FareCond) → Option (Out Int Unit)
  | [] => some (.next ())
  | x115 :: rest116 => ((self_Fishref2nodeFault x115).bind fun q132 => (if (q132 != 0) then some (.ret q132) else Fishref2nodeFault.loop2 self_Fishref2nodeFault rest116))
def Fishref2nodeFault.loop3 (self_Fishref2nodeFault : FareCond → Option Int) : (List FareCond) → Option (Out Int Unit)
  | [] => some (.next ())
  | x139 :: rest140 => ((self_Fishref2nodeFault x139).bind fun q156 => (if (q156 != 0) then some (.ret q156) else Fishref2nodeFault.loop3 self_Fishref2nodeFault rest140))
def Fishref2nodeFault : Nat → FareCond → Option Int
  | 0, _ => none
  | fu + 1, x0 => (if !(Fishref2within x0.Kind 0 11) then some 15 else (bnd ((if !(Fishref2within x0.A 0 28800) then true else !(Fishref2within x0.B 0 28800)) : Bool) fun q57 => (if q57 then some 2 else (bnd ((if decide ((Fishref2numbersOf x0.Kind) < 1) then (if (x0.A != 0) then true else (if decide ((Fishref2numbersOf x0.Kind) < 2) then (if (x0.B != 0) then true else (if ((Fishref2numbersOf x0.Kind) == 2) then decide (x0.A > x0.B) else false)) else (if ((Fishref2numbersOf x0.Kind) == 2) then decide (x0.A > x0.B) else false))) else (if decide ((Fishref2numbersOf x0.Kind) < 2) then (if (x0.B != 0) then true else (if ((Fishref2numbersOf x0.Kind) == 2) then decide (x0.A > x0.B) else false)) else (if ((Fishref2numbersOf x0.Kind) == 2) then decide (x0.A > x0.B) else false))) : Bool) fun q65 => (if q65 then some 1 else (if (x0.Kind == 9) then (if (((x0.Kids).length : Int) != 1) then some 1 else ((Fishref2nodeFault.loop1 (Fishref2nodeFault fu) x0.Kids).bind fun q81 => match q81 with | .ret r => some r | .next () => some 0)) else (bnd ((if (x0.Kind == 10) then (x0.Kind == 10) else (x0.Kind == 11)) : Bool) fun q107 => (if q107 then (if decide (((x0.Kids).length : Int) < 2) then some 1 else ((Fishref2nodeFault.loop2 (Fishref2nodeFault fu) x0.Kids).bind fun q113 => match q113 with | .ret r => some r | .next () => some 0)) else (if decide (((x0.Kids).length : Int) > 0) then some 1 else ((Fishref2nodeFault.loop3 (Fishref2nodeFault fu) x0.Kids).bind fun q137 => match q137 with | .ret r => some r | .next () => some 0))))))))))
def Fishref2CondFault (fu : Nat) (x0 : FareCond) : Option Int := ((Fishref2shape_v1 fu x0 40).bind fun q53 => (bnd ((if decide (q53.2 < 0) then true else decide (q53.1 > 6)) : Bool) fun q59 => (if q59 then some 4 else ((Fishref2nodeFault fu x0).bind fun q63 => some q63))))
def Fishref2TariffFault.loop1 (x0 : FareTariff) : (List FareBand) → Nat → Option (Out Int Unit)
  | [], _ => some (.next ())
  | x63 :: rest64, k62 => (bnd ((if !(Fishref2within x63.Upto 1 1000) then true else !(Fishref2within x63.Price 0 100000)) : Bool) fun q81 => (if q81 then some (.ret 2) else (((if decide (((k62 : Nat) : Int) > 0) then ((gx x0.Bands (w64 (((k62 : Nat) : Int) - 1))).bind fun x92 => (if decide (x63.Upto ≤ x92.Upto) then some true else ((gx x0.Bands (w64 (((k62 : Nat) : Int) - 1))).bind fun x102 => some (decide (x63.Price < x102.Price))))) else some false) : Option Bool).bind fun q89 => (if q89 then some (.ret 1) else Fishref2TariffFault.loop1 x0 rest64 (k62 + 1)))))
def Fishref2TariffFault.loop2 (fu : Nat) : (List FareRule) → Option (Out Int Unit)
  | [] => some (.next ())
  | x116 :: rest117 => ((Fishref2CondFault fu x116.If).bind fun q133 => (if (q133 != 0) then some (.ret q133) else (if !(Fishref2within x116.Do 1 6) then some (.ret 15) else (bnd ((if (x116.Do == 1) then 200 else 100000) : Int) fun q141 => (if !(Fishref2within x116.N 0 q141) then some (.ret 2) else Fishref2TariffFault.loop2 fu rest117)))))
def Fishref2TariffFault (fu : Nat) (x0 : FareTariff) : Option Int := (bnd ((if !(Fishref2within ((x0.Bands).length : Int) 1 8) then true else decide (((x0.Rules).length : Int) > 20)) : Bool) fun q56 => (if q56 then some 4 else ((Fishref2TariffFault.loop1 x0 x0.Bands 0).bind fun q61 => match q61 with | .ret r => some r | .next () => (if !(Fishref2within x0.Round 1 100) then some 2 else ((Fishref2TariffFault.loop2 fu x0.Rules).bind fun q114 => match q114 with | .ret r => some r | .next () => some 0)))))
def Fishref2TripFault.loop1 (x0 : FareTrip) : (List Int) → Nat → Option (Out Int Unit)
  | [], _ => some (.next ())
  | x66 :: rest67, k65 => (if !(Fishref2within x66 0 19) then some (.ret 2) else (((if decide (((k65 : Nat) : Int) > 0) then ((gx x0.Zones (w64 (((k65 : Nat) : Int) - 1))).bind fun x87 => some (x66 == x87)) else some false) : Option Bool).bind fun q84 => (if q84 then some (.ret 1) else Fishref2TripFault.loop1 x0 rest67 (k65 + 1))))
def Fishref2TripFault (x0 : FareTrip) : Option Int := (bnd ((if !(Fishref2within x0.Day 0 6) then true else (if !(Fishref2within x0.At 0 28800) then true else (if !(Fishref2within x0.Km 0 1000) then true else !(Fishref2within x0.Age 0 120)))) : Bool) fun q56 => (if q56 then some 2 else (if !(Fishref2within ((x0.Zones).length : Int) 1 10) then some 4 else ((Fishref2TripFault.loop1 x0 x0.Zones 0).bind fun q64 => match q64 with | .ret r => some r | .next () => some 0))))
def Fishref2HoldsOf.loop1 (x1 : FareTrip) (self_Fishref2HoldsOf : FareCond → FareTrip → Option Bool) : (List FareCond) → Int → Option Int
  | [], q106 => some q106
  | x98 :: rest99, q106 => ((self_Fishref2HoldsOf x98 x1).bind fun q116 => (bnd ((if q116 then w64 (q106 + 1) else q106) : Int) fun q122 => Fishref2HoldsOf.loop1 x1 self_Fishref2HoldsOf rest99 q122))
def Fishref2HoldsOf.loop2 (x1 : FareTrip) (self_Fishref2HoldsOf : FareCond → FareTrip → Option Bool) : (List FareCond) → Option (Out Bool Unit)
  | [] => some (.next ())
  | x129 :: rest130 => ((self_Fishref2HoldsOf x129 x1).bind fun q146 => (if q146 then some (.ret true) else Fishref2HoldsOf.loop2 x1 self_Fishref2HoldsOf rest130))
def Fishref2HoldsOf : Nat → FareCond → FareTrip → Option Bool
  | 0, _, _ => none
  | fu + 1, x0, x1 => (if (x0.Kind == 1) then some x1.Card else (if (x0.Kind == 2) then some (Fishref2within x1.Age x0.A x0.B) else (if (x0.Kind == 3) then some (Fishref2within x1.At x0.A x0.B) else (if (x0.Kind == 4) then some (Fishref2within x1.Km x0.A x0.B) else (if (x0.Kind == 5) then some (Fishref2within ((x1.Zones).length : Int) x0.A x0.B) else (if (x0.Kind == 6) then some (SlicesContainsLint x1.Zones x0.A) else (if (x0.Kind == 7) then ((gx x1.Zones 0).bind fun x60 => some (x60 == x0.A)) else (if (x0.Kind == 8) then ((gx x1.Zones (w64 (((x1.Zones).length : Int) - 1))).bind fun x70 => some (x70 == x0.A)) else (if (x0.Kind == 9) then ((gx x0.Kids 0).bind fun x80 => (((Fishref2HoldsOf fu) x80 x1).bind fun q92 => some !q92)) else (if (x0.Kind == 10) then ((Fishref2HoldsOf.loop1 x1 (Fishref2HoldsOf fu) x0.Kids 0).bind fun q106 => some (q106 == ((x0.Kids).length : Int))) else (if (x0.Kind == 11) then ((Fishref2HoldsOf.loop2 x1 (Fishref2HoldsOf fu) x0.Kids).bind fun q127 => match q127 with | .ret r => some r | .next () => some false) else some true)))))))))))
def Fishref2PriceOf.loop1 (x0 : FareTariff) (q57 : Int) : Nat → Int → Int → Option (Int × Int)
  | 0, _, _ => none
  | n71 + 1, q75, q76 => (if decide (q76 ≥ 0) then ((gx x0.Bands q76).bind fun x79 => (((if decide (q57 ≤ x79.Upto) then ((gx x0.Bands q76).bind fun x95 => some x95.Price) else some q75) : Option Int).bind fun q92 => Fishref2PriceOf.loop1 x0 q57 n71 q92 (w64 (q76 - 1)))) else some (q75, q76))
def Fishref2PriceOf.loop2 (x1 : FareTrip) (fu : Nat) : (List FareRule) → Nat → Int → (List Int) → Option (Int × (List Int))
  | [], _, q116, q117 => some (q116, q117)
  | x108 :: rest109, k107, q116, q117 => ((Fishref2HoldsOf fu x108.If x1).bind fun q133 => (if !q133 then Fishref2PriceOf.loop2 x1 fu rest109 (k107 + 1) q116 q117 else ((apd q117 [((k107 : Nat) : Int)]).bind fun x137 => (bnd ((if (x108.Do == 1) then mn (w64 (Int.tdiv (w64 (q116 * x108.N)) 100)) 100000 else (bnd ((if (x108.Do == 2) then mx (w64 (q116 - x108.N)) 0 else (bnd ((if (x108.Do == 3) then mn (w64 (q116 + x108.N)) 100000 else (bnd ((if (x108.Do == 4) then x108.N else (bnd ((if (x108.Do == 5) then mn q116 x108.N else (bnd ((if (x108.Do == 6) then mx q116 x108.N else q116) : Int) fun q182 => q182)) : Int) fun q175 => q175)) : Int) fun q168 => q168)) : Int) fun q161 => q161)) : Int) fun q154 => q154)) : Int) fun q147 => (if x108.Stop then some (q147, x137) else Fishref2PriceOf.loop2 x1 fu rest109 (k107 + 1) q147 x137)))))
def Fishref2PriceOf.loop3 (x0 : FareTariff) : Nat → Int → Option Int
  | 0, _ => none
  | n188 + 1, q192 => ((rm q192 x0.Round).bind fun x194 => (if (x194 != 0) then Fishref2PriceOf.loop3 x0 n188 (w64 (q192 + 1)) else some q192))
def Fishref2PriceOf (fu : Nat) (x0 : FareTariff) (x1 : FareTrip) : Option (Int × (List Int)) := (bnd ((if x0.ByKm then x1.Km else ((x1.Zones).length : Int)) : Int) fun q57 => ((gx x0.Bands (w64 (((x0.Bands).length : Int) - 1))).bind fun x60 => ((Fishref2PriceOf.loop1 x0 q57 fu x60.Price (w64 (((x0.Bands).length : Int) - 1))).bind fun q70 => match q70 with | (q75, _) => ((Fishref2PriceOf.loop2 x1 fu x0.Rules 0 q75 []).bind fun q106 => match q106 with | (q116, q117) => ((Fishref2PriceOf.loop3 x0 fu q116).bind fun q192 => some (q192, q117))))))
def Fishref2KeyFault (x0 : FareKey) (x1 : Bool) : Int := (bnd ((if !(Fishref2within x0.N 1018081 1072497001) then true else (if !(Fishref2within x0.E 3 32749) then true else (if x1 then !(Fishref2within x0.D 1 (w64 (x0.N - 1))) else false))) : Bool) fun q56 => (if q56 then 2 else 0))
def Fishref2TicketFault.loop1 (x0 : FareTicket) : (List Int) → Nat → Option (Out Int Unit)
  | [], _ => some (.next ())
  | x68 :: rest69, k67 => (if !(Fishref2within x68 0 19) then some (.ret 2) else (((if decide (((k67 : Nat) : Int) > 0) then ((gx x0.Zones (w64 (((k67 : Nat) : Int) - 1))).bind fun x89 => some (decide (x68 ≤ x89))) else some false) : Option Bool).bind fun q86 => (if q86 then some (.ret 1) else Fishref2TicketFault.loop1 x0 rest69 (k67 + 1))))
def Fishref2TicketFault (x0 : FareTicket) : Option Int := (bnd ((if !(Fishref2within x0.No 0 999999) then true else (if !(Fishref2within x0.Day 0 6) then true else (if !(Fishref2within x0.Start 0 28800) then true else (if !(Fishref2within x0.End 0 28800) then true else !(Fishref2within x0.Price 0 100000))))) : Bool) fun q56 => (if q56 then some 2 else (if decide (x0.End < x0.Start) then some 13 else (if !(Fishref2within ((x0.Zones).length : Int) 1 10) then some 4 else ((Fishref2TicketFault.loop1 x0 x0.Zones 0).bind fun q66 => match q66 with | .ret r => some r | .next () => some 0)))))
def Fishref2DigestOf.loop1 (x0 : ByteArray) : Nat → Nat → Int → Option Int
  | 0, _, q64 => some q64
  | rest55 + 1, k53, q64 => ((sgx x0 ((k53 : Nat) : Int)).bind fun x66 => Fishref2DigestOf.loop1 x0 rest55 (k53 + 1) (Int.tmod (w64 ((w64 ((w64 (q64 * 257)) + (w64 x66))) + 1)) 999983))
def Fishref2DigestOf (x0 : ByteArray) : Option Int := ((szok x0).bind fun _ => (Fishref2DigestOf.loop1 x0 x0.size 0 1).bind fun q64 => some q64)
def Fishref2powerOf.loop1 (x0 : Int) (x1 : Int) (x2 : Int) : Nat → Int → Int → Option (Int × Int)
  | 0, _, _ => none
  | n53 + 1, q57, q58 => (if decide (q58 ≥ 0) then ((rm (w64 (q57 * q57)) x2).bind fun x61 => ((nn q58).bind fun _ => (((if ((IntKind.wrap .i64 ((BitVec.ofInt (IntKind.bits .i64) (Int.fdiv x1 (2 ^ (min (Int.toNat q58) (IntKind.bits .i64)))) &&& BitVec.ofInt (IntKind.bits .i64) 1).toNat : Int)) == 1) then ((rm x0 x2).bind fun x71 => ((rm (w64 (x61 * x71)) x2).bind fun x73 => some x73)) else some x61) : Option Int).bind fun q68 => Fishref2powerOf.loop1 x0 x1 x2 n53 q68 (w64 (q58 - 1))))) else some (q57, q58))
def Fishref2powerOf (fu : Nat) (x0 : Int) (x1 : Int) (x2 : Int) : Option Int := ((Fishref2powerOf.loop1 x0 x1 x2 fu 1 62).bind fun q52 => match q52 with | (q57, _) => some q57)
def Fishref2plain (x0 : ByteArray) : Option (Int × Bool) := ((atoiq x0).bind fun q51 => (((if q51.2 then (if decide (q51.1 ≥ 0) then ((itoa q51.1).bind fun q64 => some (q51.1, (seq q64 x0))) else some (q51.1, false)) else some (q51.1, false)) : Option (Int × Bool)).bind fun q56 => match q56 with | (q59, q60) => some (q59, q60)))
def Fishref2VerifyOf (fu : Nat) (x0 : FareKey) (x1 : ByteArray) (x2 : Int) : Option Bool := (((if decide (x2 ≥ 0) then (if decide (x2 < x0.N) then ((Fishref2powerOf fu x2 x0.E x0.N).bind fun q60 => ((Fishref2DigestOf x1).bind fun q62 => some (q60 == q62))) else some false) else some false) : Option Bool).bind fun q56 => some q56)
def Fishref2OpenOf.loop1 (q57 : List ByteArray) : Nat → Nat → (List Int) → Int → Int → Int → Int → Int → (List Int) → Option (Out (FareTicket × Int) ((List Int) × Int × Int × Int × Int × Int × (List Int)))
  | 0, _, q106, q113, q114, q115, q116, q117, q118 => some (.next (q106, q113, q114, q115, q116, q117, q118))
  | rest98 + 1, k96, q106, q113, q114, q115, q116, q117, q118 => ((gx q57 ((k96 : Nat) : Int)).bind fun x123 => (bnd ((if (((k96 : Nat) : Int) == 0) then true else (((k96 : Nat) : Int) == (w64 (((q57.length : Nat) : Int) - 2)))) : Bool) fun q137 => (if q137 then Fishref2OpenOf.loop1 q57 rest98 (k96 + 1) q106 q113 q114 q115 q116 q117 q118 else ((Fishref2plain x123).bind fun q141 => (if !q141.2 then some (.ret ((FareTicket.mk 0 0 0 0 0 []), 10)) else ((apd q106 [q141.1]).bind fun x145 => Fishref2OpenOf.loop1 q57 rest98 (k96 + 1) x145 q113 q114 q115 q116 q117 q118))))))
def Fishref2OpenOf (fu : Nat) (x0 : FareKey) (x1 : ByteArray) : Option (FareTicket × Int) := (if ((Fishref2KeyFault x0 false) != 0) then some ((FareTicket.mk 0 0 0 0 0 []), (Fishref2KeyFault x0 false)) else (if decide (((x1.size : Nat) : Int) > 200) then some ((FareTicket.mk 0 0 0 0 0 []), 4) else ((StringsCutSuffix x1 (str [10])).bind fun q55 => ((splitq q55.1 (str [32])).bind fun q57 => (((if !q55.2 then some true else (if decide (((q57.length : Nat) : Int) < 9) then some true else ((gx q57 0).bind fun x71 => (if !(seq x71 (str [116, 105, 99, 107, 101, 116])) then some true else ((gx q57 (w64 (((q57.length : Nat) : Int) - 2))).bind fun x82 => some (!(seq x82 (str [58])))))))) : Option Bool).bind fun q67 => (if q67 then some ((FareTicket.mk 0 0 0 0 0 []), 10) else ((Fishref2OpenOf.loop1 q57 q57.length 0 [] 0 0 0 0 0 []).bind fun q95 => match q95 with | .ret r => some r | .next (q106, _, _, _, _, _, _) => ((gx q106 (w64 (((q106.length : Nat) : Int) - 1))).bind fun x151 => ((gx q57 (w64 (((q57.length : Nat) : Int) - 1))).bind fun x161 => ((scut q55.1 0 (w64 (((q55.1.size : Nat) : Int) - ((x161.size : Nat) : Int)))).bind fun x171 => ((Fishref2VerifyOf fu x0 x171 x151).bind fun q173 => (if !q173 then some ((FareTicket.mk 0 0 0 0 0 []), 11) else ((gx q106 0).bind fun x180 => ((gx q106 1).bind fun x189 => ((gx q106 2).bind fun x198 => ((gx q106 3).bind fun x207 => ((gx q106 4).bind fun x216 => ((cutl q106 5 (w64 (((q106).length : Int) - 1))).bind fun x225 => ((Fishref2TicketFault (FareTicket.mk x180 x189 x198 x207 x216 x225)).bind fun q235 => (if (q235 != 0) then some ((FareTicket.mk 0 0 0 0 0 []), q235) else some ((FareTicket.mk x180 x189 x198 x207 x216 x225), 0)))))))))))))))))))))
/-! Fermat's little theorem, and two powers that undo each other modulo a product of two primes. -/
def bin : Nat → Nat → Nat
  | _, 0 => 1
  | 0, _ + 1 => 0
  | n + 1, k + 1 => bin n k + bin n (k + 1)
theorem bin_big : ∀ (n k : Nat), n < k → bin n k = 0
  | 0, 0, h => by omega
  | 0, k + 1, _ => by simp [bin]
  | n + 1, 0, h => by omega
  | n + 1, k + 1, h => by rw [bin, bin_big n k (by omega), bin_big n (k + 1) (by omega)]
theorem bin_zero (n : Nat) : bin n 0 = 1 := by cases n <;> rfl
theorem bin_self : ∀ n : Nat, bin n n = 1
  | 0 => rfl
  | n + 1 => by rw [bin, bin_self n, bin_big n (n + 1) (by omega)]
theorem bin_step : ∀ (n k : Nat), (k + 1) * bin (n + 1) (k + 1) = (n + 1) * bin n k
  | 0, 0 => by simp [bin]
  | 0, k + 1 => by simp [bin]
  | n + 1, 0 => by
    have h := bin_step n 0
    rw [bin_zero] at h ⊢
    rw [bin, bin_zero]
    omega
  | n + 1, k + 1 => by
    have h1 := bin_step n k
    have h2 := bin_step n (k + 1)
    have e : bin (n + 1) (k + 1) = bin n k + bin n (k + 1) := by rw [bin]
    rw [bin]
    have h3 : (k + 2) * (bin (n + 1) (k + 1) + bin (n + 1) (k + 2)) = (k + 1) * bin (n + 1) (k + 1) + bin (n + 1) (k + 1) + (k + 1 + 1) * bin (n + 1) (k + 1 + 1) := by
      rw [Nat.mul_add, show k + 2 = k + 1 + 1 by omega, Nat.add_mul (k + 1) 1, Nat.one_mul]
    have h4 : (n + 1 + 1) * bin (n + 1) (k + 1) = (n + 1) * bin n k + (n + 1) * bin n (k + 1) + bin (n + 1) (k + 1) := by
      rw [Nat.add_mul (n + 1) 1, Nat.one_mul, e, Nat.mul_add]
    show (k + 2) * (bin (n + 1) (k + 1) + bin (n + 1) (k + 2)) = _
    rw [h3, h4, h1, h2]; omega
def sm (f : Nat → Nat) : Nat → Nat
  | 0 => 0
  | n + 1 => sm f n + f n
theorem sm_congr {f g : Nat → Nat} : ∀ n : Nat, (∀ k, k < n → f k = g k) → sm f n = sm g n
  | 0, _ => rfl
  | n + 1, h => by rw [sm, sm, sm_congr n (fun k hk => h k (by omega)), h n (by omega)]
theorem sm_add (f g : Nat → Nat) : ∀ n : Nat, sm (fun k => f k + g k) n = sm f n + sm g n
  | 0 => rfl
  | n + 1 => by rw [sm, sm, sm, sm_add f g n]; omega
theorem sm_mul (c : Nat) (f : Nat → Nat) : ∀ n : Nat, sm (fun k => c * f k) n = c * sm f n
  | 0 => by simp [sm]
  | n + 1 => by rw [sm, sm, sm_mul c f n, Nat.mul_add]
theorem sm_first (f : Nat → Nat) : ∀ n : Nat, sm f (n + 1) = f 0 + sm (fun k => f (k + 1)) n
  | 0 => by simp [sm]
  | n + 1 => by rw [sm, sm_first f n, sm]; omega
theorem sm_dvd {m : Nat} {f : Nat → Nat} : ∀ n : Nat, (∀ k, k < n → m ∣ f k) → m ∣ sm f n
  | 0, _ => by simp [sm]
  | n + 1, h => by rw [sm]; exact Nat.dvd_add (sm_dvd n fun k hk => h k (by omega)) (h n (by omega))
theorem binom (a : Nat) : ∀ n : Nat, (a + 1) ^ n = sm (fun k => bin n k * a ^ k) (n + 1)
  | 0 => by simp [sm, bin]
  | n + 1 => by
    rw [sm_first, Nat.pow_succ, binom a n]
    have e : sm (fun k => bin (n + 1) (k + 1) * a ^ (k + 1)) (n + 1) = a * sm (fun k => bin n k * a ^ k) (n + 1) + sm (fun k => bin n (k + 1) * a ^ (k + 1)) (n + 1) := by
      rw [← sm_mul, ← sm_add]
      refine sm_congr _ fun k _ => ?_
      show bin (n + 1) (k + 1) * a ^ (k + 1) = a * (bin n k * a ^ k) + bin n (k + 1) * a ^ (k + 1)
      rw [bin, Nat.add_mul, Nat.pow_succ, Nat.mul_comm (a ^ k) a, Nat.mul_left_comm]
    rw [e]
    have e2 : sm (fun k => bin n k * a ^ k) (n + 2) = 1 + sm (fun k => bin n (k + 1) * a ^ (k + 1)) (n + 1) := by
      rw [sm_first]; simp [bin_zero]
    have e3 : sm (fun k => bin n k * a ^ k) (n + 2) = sm (fun k => bin n k * a ^ k) (n + 1) := by
      rw [sm]; simp [bin_big n (n + 1) (by omega)]
    have e4 : bin (n + 1) 0 * a ^ 0 = 1 := by simp [bin_zero]
    rw [e4, Nat.mul_add, Nat.mul_one]
    have e5 : (sm (fun k => bin n k * a ^ k) (n + 1)) * a = a * sm (fun k => bin n k * a ^ k) (n + 1) := Nat.mul_comm _ _
    rw [e5]
    omega
theorem mod_dvd {n a b : Nat} (h : a ≤ b) : a % n = b % n ↔ n ∣ b - a := by
  constructor
  · intro e; exact Nat.dvd_of_mod_eq_zero (Nat.sub_mod_eq_zero_of_mod_eq e.symm)
  · rintro ⟨c, hc⟩
    have : b = a + n * c := by omega
    rw [this, Nat.add_mul_mod_self_left]
/-- a prime, as trial division finds it -/
def Prm (p : Nat) : Prop := 1 < p ∧ ∀ d, d ∣ p → d = 1 ∨ d = p
theorem prm_of {p : Nat} (h1 : 1 < p) (h : ∀ d, 2 ≤ d → d * d ≤ p → p % d ≠ 0) : Prm p := by
  refine ⟨h1, fun d hd => ?_⟩
  obtain ⟨m, hm⟩ := hd
  by_cases d1 : d = 1
  · exact .inl d1
  · by_cases m1 : m = 1
    · right; rw [hm, m1, Nat.mul_one]
    · exfalso
      have d0 : d ≠ 0 := fun h0 => by rw [h0, Nat.zero_mul] at hm; omega
      have m0 : m ≠ 0 := fun h0 => by rw [h0, Nat.mul_zero] at hm; omega
      by_cases hl : d ≤ m
      · refine h d (by omega) ?_ ?_
        · rw [hm]; exact Nat.mul_le_mul (Nat.le_refl _) hl
        · rw [hm]; exact Nat.mul_mod_right d m
      · refine h m (by omega) ?_ ?_
        · rw [hm]; exact Nat.mul_le_mul (by omega) (Nat.le_refl _)
        · rw [hm]; exact Nat.mul_mod_left d m
theorem Prm.cop {p a : Nat} (hp : Prm p) (h : ¬ p ∣ a) : Nat.gcd p a = 1 := by
  rcases hp.2 _ (Nat.gcd_dvd_left p a) with h1 | h1
  · exact h1
  · exact absurd (h1 ▸ Nat.gcd_dvd_right p a) h
theorem Prm.euclid {p a b : Nat} (hp : Prm p) (h : p ∣ a * b) (ha : ¬ p ∣ a) : p ∣ b := Nat.Coprime.dvd_of_dvd_mul_left (hp.cop ha) h
theorem Prm.bin {p : Nat} (hp : Prm p) {k : Nat} (h0 : 0 < k) (h1 : k < p) : p ∣ Go.Fp.bin p k := by
  obtain ⟨k, rfl⟩ : ∃ j, k = j + 1 := ⟨k - 1, by omega⟩
  obtain ⟨n, rfl⟩ : ∃ j, p = j + 1 := ⟨p - 1, by omega⟩
  have h := bin_step n k
  exact hp.euclid (a := k + 1) ⟨_, h⟩ (fun hd => by have := Nat.le_of_dvd (by omega) hd; omega)
/-- Fermat -/
theorem Prm.fermat {p : Nat} (hp : Prm p) : ∀ a : Nat, a ^ p % p = a % p
  | 0 => by rw [Nat.zero_pow (by have := hp.1; omega)]
  | a + 1 => by
    have h2 := hp.1
    rw [binom, sm_first]
    obtain ⟨n, rfl⟩ : ∃ j, p = j + 1 := ⟨p - 1, by omega⟩
    rw [sm, bin_self, Nat.one_mul]
    have hd : (n + 1) ∣ sm (fun k => Go.Fp.bin (n + 1) (k + 1) * a ^ (k + 1)) n := by
      refine sm_dvd n fun k hk => ?_
      exact Nat.dvd_trans (hp.bin (by omega) (by omega)) (Nat.dvd_mul_right _ _)
    obtain ⟨c, hc⟩ := hd
    rw [hc, bin_zero, Nat.pow_zero, Nat.one_mul]
    have ih := hp.fermat a
    have e : 1 + ((n + 1) * c + a ^ (n + 1)) = (a ^ (n + 1) + 1) + (n + 1) * c := by omega
    rw [e, Nat.add_mul_mod_self_left, Nat.add_mod, ih, ← Nat.add_mod]
theorem Prm.one {p a : Nat} (hp : Prm p) (h : ¬ p ∣ a) : a ^ (p - 1) % p = 1 := by
  have h1 := hp.1
  have hf := hp.fermat a
  obtain ⟨n, rfl⟩ : ∃ j, p = j + 1 := ⟨p - 1, by omega⟩
  have hpos : 0 < a := Nat.pos_of_ne_zero fun h0 => h (h0 ▸ Nat.dvd_zero _)
  have hge : a ≤ a ^ (n + 1) := by
    rw [Nat.pow_succ]; exact Nat.le_mul_of_pos_left _ (Nat.pow_pos hpos)
  have hd : (n + 1) ∣ a * (a ^ n - 1) := by
    have e : a * (a ^ n - 1) = a ^ (n + 1) - a := by rw [Nat.mul_sub, Nat.mul_one, Nat.pow_succ, Nat.mul_comm]
    rw [e]; exact (mod_dvd hge).1 hf.symm
  have hd2 := hp.euclid hd h
  have hp1 : 1 ≤ a ^ n := Nat.pow_pos hpos
  have h3 := (mod_dvd hp1).2 hd2
  have : a ^ n % (n + 1) = 1 % (n + 1) := h3.symm
  rw [Nat.add_sub_cancel, this, Nat.mod_eq_of_lt h1]
theorem Prm.back {p : Nat} (hp : Prm p) (x t : Nat) : x ^ (1 + t * (p - 1)) % p = x % p := by
  by_cases h : p ∣ x
  · have : p ∣ x ^ (1 + t * (p - 1)) := by rw [Nat.pow_add, Nat.pow_one]; exact Nat.dvd_trans h (Nat.dvd_mul_right _ _)
    rw [Nat.mod_eq_zero_of_dvd this, Nat.mod_eq_zero_of_dvd h]
  · rw [Nat.pow_add, Nat.pow_one, Nat.mul_comm t, Nat.pow_mul, Nat.mul_mod, Nat.pow_mod, hp.one h, Nat.one_pow, ← Nat.mul_mod, Nat.mul_one]
theorem mod_two {p q a b : Nat} (hp : Prm p) (hq : Prm q) (hn : p ≠ q) (h1 : a % p = b % p) (h2 : a % q = b % q) : a % (p * q) = b % (p * q) := by
  have hc : Nat.Coprime p q := hp.cop fun hd => by
    rcases hq.2 _ hd with h | h
    · have := hp.1; omega
    · exact hn h
  rcases Nat.le_total a b with hl | hl
  · exact (mod_dvd hl).2 (hc.mul_dvd_of_dvd_of_dvd ((mod_dvd hl).1 h1) ((mod_dvd hl).1 h2))
  · exact ((mod_dvd hl).2 (hc.mul_dvd_of_dvd_of_dvd ((mod_dvd hl).1 h1.symm) ((mod_dvd hl).1 h2.symm))).symm
/-- a number is raised to d, and then to e -/
theorem rsa {p q : Nat} (hp : Prm p) (hq : Prm q) (hn : p ≠ q) (x d e t : Nat) (h : d * e = 1 + t * ((p - 1) * (q - 1))) : (x ^ d % (p * q)) ^ e % (p * q) = x % (p * q) := by
  rw [← Nat.pow_mod, ← Nat.pow_mul, h]
  refine mod_two hp hq hn ?_ ?_
  · rw [Nat.mul_comm (p - 1), ← Nat.mul_assoc]; exact hp.back x _
  · rw [← Nat.mul_assoc]; exact hq.back x _
namespace TA
theorem within_ref : Fishref2within = Farewithin := rfl
/-! nodes and levels of a condition -/
mutual
def cN : FareCond → Nat
  | ⟨_, _, _, k⟩ => cNs k + 1
def cNs : List FareCond → Nat
  | [] => 0
  | x :: r => cN x + cNs r
end
mutual
def cL : FareCond → Nat
  | ⟨_, _, _, k⟩ => cLs k + 1
def cLs : List FareCond → Nat
  | [] => 0
  | x :: r => max (cL x) (cLs r)
end
theorem cL_eq (c : FareCond) : cL c = cLs c.Kids + 1 := by cases c; rw [cL]
theorem cL_pos (c : FareCond) : 1 ≤ cL c := by rw [cL_eq]; omega
mutual
theorem cN_sz : ∀ c : FareCond, cN c + 1 ≤ szFareCond c
  | ⟨_, _, _, k⟩ => by rw [cN, szFareCond]; have := cNs_sz k; omega
theorem cNs_sz : ∀ l : List FareCond, cNs l + 1 ≤ szsFareCond l
  | [] => by simp [cNs, szsFareCond]
  | x :: r => by rw [cNs, szsFareCond]; have := cN_sz x; have := cNs_sz r; omega
end
mutual
theorem cL_le : ∀ c : FareCond, cL c ≤ cN c
  | ⟨_, _, _, k⟩ => by rw [cN, cL]; have := cLs_le k; omega
theorem cLs_le : ∀ l : List FareCond, cLs l ≤ cNs l
  | [] => by simp [cNs, cLs]
  | x :: r => by rw [cNs, cLs]; have := cL_le x; have := cLs_le r; omega
end
theorem mx_nat (a b : Nat) : mx (a : Int) (b : Int) = ((max a b : Nat) : Int) := by unfold mx; omega
mutual
theorem size_ok : ∀ (c : FareCond) (fu : Nat), cL c ≤ fu → cN c ≤ 1048576 → FareCondsize fu c = some ((cN c : Int), (cL c : Int))
  | _, 0, h, _ => absurd h (by have := cL_pos (by assumption); omega)
  | ⟨a, b, d, k⟩, fu + 1, h, hb => by
    rw [cL] at h; rw [cN] at hb
    have h2 := cLs_le k
    have e : FareCondsize.loop1 (FareCondsize fu) k 1 0 = some (((1 + cNs k : Nat) : Int), ((max 0 (cLs k) : Nat) : Int)) := sizes_ok k fu 1 0 (by omega) (by omega)
    rw [FareCondsize, e]
    simp only [Option.bind_some, cN, cL]
    rw [w64_id (by omega)]
    congr 2 <;> omega
theorem sizes_ok : ∀ (l : List FareCond) (fu a b : Nat), cLs l ≤ fu → cNs l + a ≤ 1048576 → FareCondsize.loop1 (FareCondsize fu) l (a : Int) (b : Int) = some (((a + cNs l : Nat) : Int), ((max b (cLs l) : Nat) : Int))
  | [], fu, a, b, _, _ => by simp [FareCondsize.loop1, cNs, cLs]
  | x :: r, fu, a, b, h, hb => by
    rw [cLs] at h; rw [cNs] at hb
    rw [FareCondsize.loop1, size_ok x fu (by omega) (by omega), Option.bind_some]
    rw [w64_id (by simp only; omega)]
    have e : ((a : Int) + (cN x : Int)) = ((a + cN x : Nat) : Int) := by omega
    simp only
    rw [e, mx_nat, sizes_ok r fu _ _ (by omega) (by omega), cNs, cLs]
    congr 3 <;> omega
end
mutual
theorem shape_ok : ∀ (c : FareCond) (fu : Nat) (left : Nat), cL c ≤ fu → left ≤ 40 → cN c ≤ 1048576 → ∃ lv lf : Int, Fishref2shape_v1 fu c (left : Int) = some (lv, lf) ∧ (cN c ≤ left → lv = cL c ∧ lf = ((left - cN c : Nat) : Int)) ∧ (left < cN c → lf < 0)
  | _, 0, _, h, _, _ => absurd h (by have := cL_pos (by assumption); omega)
  | ⟨a, b, d, k⟩, fu + 1, left, h, hl, hb => by
    rw [cL] at h; rw [cN] at hb
    have h2 := cLs_le k
    rw [Fishref2shape_v1, w64_id (by omega)]
    rcases Nat.eq_zero_or_pos left with h0 | h0
    · subst h0
      refine ⟨1, -1, by simp, by rw [cN]; omega, by omega⟩
    · obtain ⟨lv, lf, e1, e2, e3, e4⟩ := shapes_ok k fu 0 (left - 1) (by omega) (by omega) (by omega)
      have e : ((left : Int) - 1) = ((left - 1 : Nat) : Int) := by omega
      have hn : ¬ (((left - 1 : Nat) : Int) < 0) := by omega
      have e1' : Fishref2shape_v1.loop1 (Fishref2shape_v1 fu) k 0 (((left - 1 : Nat) : Nat) : Int) = some (lv, lf) := e1
      simp only [e, hn, decide_false, Bool.false_eq_true, if_false, e1', Option.bind_some]
      refine ⟨_, _, rfl, ?_, ?_⟩
      · intro hc
        rw [cN] at hc
        obtain ⟨p1, p2⟩ := e2 (by omega)
        rw [cL, cN, p1, p2, w64_id (by omega)]
        constructor <;> omega
      · intro hc; rw [cN] at hc; exact e3 (by omega)
theorem shapes_ok : ∀ (l : List FareCond) (fu a left : Nat), cLs l ≤ fu → left ≤ 40 → cNs l ≤ 1048576 → ∃ lv lf : Int, Fishref2shape_v1.loop1 (Fishref2shape_v1 fu) l (a : Int) (left : Int) = some (lv, lf) ∧ (cNs l ≤ left → lv = ((max a (cLs l) : Nat) : Int) ∧ lf = ((left - cNs l : Nat) : Int)) ∧ (left < cNs l → lf < 0) ∧ True
  | [], fu, a, left, _, _, _ => ⟨a, left, rfl, by simp [cNs, cLs], by simp [cNs], trivial⟩
  | x :: r, fu, a, left, h, hl, hb => by
    rw [cLs] at h; rw [cNs] at hb
    obtain ⟨lv, lf, e1, e2, e3⟩ := shape_ok x fu left (by omega) hl (by omega)
    rw [Fishref2shape_v1.loop1, e1, Option.bind_some]
    by_cases hx : cN x ≤ left
    · obtain ⟨p1, p2⟩ := e2 hx
      subst p1; subst p2
      have hn : ¬ (((left - cN x : Nat) : Int) < 0) := by omega
      simp only [hn, decide_false, Bool.false_eq_true, if_false, mx_nat]
      obtain ⟨lv, lf, q1, q2, q3, _⟩ := shapes_ok r fu (max a (cL x)) (left - cN x) (by omega) (by omega) (by omega)
      refine ⟨lv, lf, q1, ?_, ?_, trivial⟩
      · intro hc
        rw [cNs] at hc
        obtain ⟨r1, r2⟩ := q2 (by omega)
        rw [r1, r2, cNs, cLs]
        constructor <;> omega
      · intro hc; rw [cNs] at hc; exact q3 (by omega)
    · have hn := e3 (by omega)
      simp only [hn, decide_true, if_true]
      refine ⟨_, _, rfl, ?_, ?_, trivial⟩
      · intro hc; rw [cNs] at hc; omega
      · intro _; exact hn
end
theorem within_iff (x a b : Int) : Farewithin x a b = decide (a ≤ x ∧ x ≤ b) := by
  unfold Farewithin bnd
  by_cases h1 : a ≤ x <;> by_cases h2 : x ≤ b <;> simp [h1, h2]
mutual
theorem node_tot : ∀ (c : FareCond) (fu : Nat), cL c ≤ fu → Tot (FareCondnode fu c)
  | _, 0, h => absurd h (by have := cL_pos (by assumption); omega)
  | ⟨a, b, d, k⟩, fu + 1, h => by
    rw [cL] at h
    rw [FareCondnode]
    refine .ite (fun _ => .some _) fun _ => .bnd (.ite (fun _ => .some _) fun _ => .bnd (.ite (fun _ => .some _) fun _ => .bnd (.ite (fun _ => .some _) fun _ => .bind (nodes_tot k fu (by omega)) fun z _ => ?_)))
    cases z <;> exact .some _
theorem nodes_tot : ∀ (l : List FareCond) (fu : Nat), cLs l ≤ fu → Tot (FareCondnode.loop1 (FareCondnode fu) l)
  | [], _, _ => .some _
  | x :: r, fu, h => by
    rw [cLs] at h
    exact .bind (node_tot x fu (by omega)) fun z _ => .ite (fun _ => .some _) fun _ => nodes_tot r fu (by omega)
end
theorem trip_loop (t : FareTrip) : ∀ (r : List Int) (k : Nat), Fishref2TripFault.loop1 t r k = FarecheckZones.loop1 t.Zones false r k
  | [], _ => rfl
  | x :: r, k => by
    simp only [Fishref2TripFault.loop1, FarecheckZones.loop1, within_ref, trip_loop t r]
    congr 1
    congr 1
    congr 1
    congr 1
    funext y
    by_cases h : x = y
    · simp [h]
    · have e : (x == y) = false := by simpa using h
      simp [e]
theorem zones_tot (l : List Int) (b : Bool) (hl : l.length ≤ 9223372036854775807) : ∀ (r : List Int) (k : Nat), l.drop k = r → Tot (FarecheckZones.loop1 l b r k)
  | [], _, _ => .some _
  | x :: r, k, hd => by
    obtain ⟨d1, d2, d3⟩ := drop_cons hd
    rw [FarecheckZones.loop1]
    refine .ite (fun _ => .some _) fun _ => .bind (.ite (fun h => ?_) fun _ => .some _) fun _ _ => .ite (fun _ => .some _) fun _ => zones_tot l b hl r (k + 1) d3
    have hk : 0 < k := by have := of_decide_eq_true h; omega
    have hp := gx_prev (l := l) hk (by omega) hl
    exact .bind1 hp (.ite (fun _ => .some _) fun _ => .ite (fun _ => .bind1 hp (.some _)) fun _ => .some _)
theorem trip_ref (t : FareTrip) (hl : t.Zones.length ≤ 9223372036854775807) : Fishref2TripFault t = FareCheckTrip t ∧ Tot (FareCheckTrip t) := by
  unfold Fishref2TripFault FareCheckTrip FarecheckZones
  simp only [within_ref, trip_loop, bnd_eq]
  obtain ⟨z, hz⟩ := zones_tot t.Zones false hl t.Zones 0 rfl
  simp only [hz, Option.bind_some]
  refine ⟨by cases z <;> rfl, .ite (fun _ => .some _) fun _ => .ite (fun _ => .some _) fun _ => ?_⟩
  cases z <;> exact .some _
theorem bands_tot (t : FareTariff) (hl : t.Bands.length ≤ 9223372036854775807) : ∀ (r : List FareBand) (k : Nat), t.Bands.drop k = r → Tot (FareCheckTariff.loop1 t r k)
  | [], _, _ => .some _
  | x :: r, k, hd => by
    obtain ⟨d1, d2, d3⟩ := drop_cons hd
    rw [FareCheckTariff.loop1]
    refine .bnd (.ite (fun _ => .some _) fun _ => .bind (.ite (fun h => ?_) fun _ => .some _) fun _ _ => .ite (fun _ => .some _) fun _ => bands_tot t hl r (k + 1) d3)
    have hk : 0 < k := by have := of_decide_eq_true h; omega
    have hp := gx_prev (l := t.Bands) hk (by omega) hl
    exact .bind1 hp (.ite (fun _ => .some _) fun _ => .bind1 hp (.some _))
theorem ite_zero {b : Bool} {c : Int} {y : Option Int} (h : (if b = true then some c else y) = some 0) (hc : c ≠ 0) : b = false ∧ y = some 0 := by
  cases b
  · exact ⟨rfl, h⟩
  · exact absurd (Option.some.inj h) hc
theorem nodes_zero (s : FareCond → Option Int) : ∀ l, (∀ r, FareCondnode.loop1 s l = some (.ret r) → r ≠ 0) ∧ (FareCondnode.loop1 s l = some (.next ()) → ∀ x ∈ l, s x = some 0)
  | [] => ⟨by intro r h; simp [FareCondnode.loop1] at h, by simp⟩
  | x :: t => by
    obtain ⟨h1, h2⟩ := nodes_zero s t
    simp only [FareCondnode.loop1]
    cases hx : s x with
    | none => exact ⟨by intro r h; simp at h, by intro h; simp at h⟩
    | some v =>
      simp only [Option.bind_some]
      by_cases hv : v = 0
      · subst hv
        simp only [bne_self_eq_false, Bool.false_eq_true, if_false]
        refine ⟨h1, fun h y hy => ?_⟩
        rcases List.mem_cons.1 hy with rfl | hy
        · exact hx
        · exact h2 h y hy
      · have e : (v != 0) = true := by simpa using hv
        simp only [e, if_true]
        refine ⟨fun r h => ?_, fun h => by simp at h⟩
        simp at h; omega
theorem node_zero {fu : Nat} {c : FareCond} (h : FareCondnode (fu + 1) c = some 0) : (c.Kind = 9 → c.Kids.length = 1) ∧ ∀ x ∈ c.Kids, FareCondnode fu x = some 0 := by
  rw [FareCondnode] at h
  simp only [bnd_eq] at h
  obtain ⟨_, h⟩ := ite_zero h (by omega)
  obtain ⟨_, h⟩ := ite_zero h (by omega)
  obtain ⟨_, h⟩ := ite_zero h (by omega)
  obtain ⟨h1, h⟩ := ite_zero h (by omega)
  constructor
  · intro h9
    have e9 : (c.Kind == 9) = true := by simpa using h9
    simp only [e9, if_true] at h1
    by_cases hl : ((c.Kids.length : Nat) : Int) = 1
    · omega
    · have e1 : (((c.Kids.length : Nat) : Int) != 1) = true := by simpa using hl
      simp [e1] at h1
  · obtain ⟨h2, h3⟩ := nodes_zero (FareCondnode fu) c.Kids
    cases hz : FareCondnode.loop1 (FareCondnode fu) c.Kids with
    | none => rw [hz] at h; simp at h
    | some z =>
      rw [hz] at h
      cases z with
      | next u => exact h3 hz
      | ret r => exact absurd (by simpa using h) (h2 r hz)
def hb (fu : Nat) (t : FareTrip) (c : FareCond) : Bool := (FareCondholds fu c t).getD false
theorem check_node {fu : Nat} {c : FareCond} (h : FareCondcheck fu c = some 0) : FareCondnode fu c = some 0 := by
  unfold FareCondcheck at h
  cases h1 : FareCondsize fu c with
  | none => rw [h1] at h; simp at h
  | some z =>
    rw [h1] at h
    simp only [Option.bind_some, bnd_eq] at h
    obtain ⟨_, h⟩ := ite_zero h (by omega)
    cases h2 : FareCondnode fu c with
    | none => rw [h2] at h; simp at h
    | some z => rw [h2] at h; exact h
theorem trip_zero {t : FareTrip} (h : FareCheckTrip t = some 0) : 0 < t.Zones.length ∧ t.Zones.length ≤ 10 := by
  unfold FareCheckTrip at h
  simp only [bnd_eq] at h
  obtain ⟨_, h⟩ := ite_zero h (by omega)
  obtain ⟨h1, _⟩ := ite_zero h (by omega)
  rw [within_iff] at h1
  simp at h1; omega
theorem bands_zero (t : FareTariff) : ∀ (r : List FareBand) (k : Nat), (∀ v, FareCheckTariff.loop1 t r k = some (.ret v) → v ≠ 0) ∧ (FareCheckTariff.loop1 t r k = some (.next ()) → ∀ b ∈ r, 1 ≤ b.Upto ∧ b.Upto ≤ 1000 ∧ 0 ≤ b.Price ∧ b.Price ≤ 100000)
  | [], _ => ⟨by intro v h; simp [FareCheckTariff.loop1] at h, by simp⟩
  | x :: r, k => by
    obtain ⟨i1, i2⟩ := bands_zero t r (k + 1)
    simp only [FareCheckTariff.loop1, bnd_eq, within_iff]
    by_cases h : 1 ≤ x.Upto ∧ x.Upto ≤ 1000
    · by_cases h' : 0 ≤ x.Price ∧ x.Price ≤ 100000
      · simp only [h, h', and_self, decide_true, Bool.not_true, Bool.false_eq_true, if_false]
        generalize (if decide (((k : Nat) : Int) > 0) = true then (gx t.Bands (w64 (((k : Nat) : Int) - 1))).bind fun x92 => if decide (x.Upto ≤ x92.Upto) = true then some true else (gx t.Bands (w64 (((k : Nat) : Int) - 1))).bind fun x102 => some (decide (x.Price < x102.Price)) else some false) = q
        rcases q with _ | q
        · exact ⟨by intro v h; simp at h, by intro h; simp at h⟩
        · cases q
          · simp only [Option.bind_some, Bool.false_eq_true, if_false]
            refine ⟨i1, fun e b hb => ?_⟩
            rcases List.mem_cons.1 hb with rfl | hb
            · exact ⟨h.1, h.2, h'.1, h'.2⟩
            · exact i2 e b hb
          · refine ⟨by intro v h; simp at h; omega, by intro h; simp at h⟩
      · refine ⟨by intro v h; simp [h'] at h; omega, by intro h; simp [h'] at h⟩
    · refine ⟨by intro v h2; simp [h] at h2; omega, by intro h2; simp [h] at h2⟩
theorem rules_zero (fu : Nat) : ∀ (r : List FareRule), (∀ v, FareCheckTariff.loop2 fu r = some (.ret v) → v ≠ 0) ∧ (FareCheckTariff.loop2 fu r = some (.next ()) → ∀ x ∈ r, FareCondcheck fu x.If = some 0 ∧ 1 ≤ x.Do ∧ x.Do ≤ 6 ∧ 0 ≤ x.N ∧ x.N ≤ 100000 ∧ (x.Do = 1 → x.N ≤ 200))
  | [] => ⟨by intro v h; simp [FareCheckTariff.loop2] at h, by simp⟩
  | x :: r => by
    obtain ⟨i1, i2⟩ := rules_zero fu r
    simp only [FareCheckTariff.loop2, bnd_eq, within_iff]
    cases hc : FareCondcheck fu x.If with
    | none => exact ⟨by intro v h; simp at h, by intro h; simp at h⟩
    | some z =>
      simp only [Option.bind_some]
      by_cases hz : z = 0
      · subst hz
        simp only [bne_self_eq_false, Bool.false_eq_true, if_false]
        by_cases hd : 1 ≤ x.Do ∧ x.Do ≤ 6
        · simp only [hd, and_self, decide_true, Bool.not_true, Bool.false_eq_true, if_false]
          by_cases hn : 0 ≤ x.N ∧ x.N ≤ (if (x.Do == 1) = true then (200 : Int) else 100000)
          · simp only [hn, and_self, decide_true, Bool.not_true, Bool.false_eq_true, if_false]
            refine ⟨i1, fun e b hb => ?_⟩
            rcases List.mem_cons.1 hb with rfl | hb
            · refine ⟨hc, hd.1, hd.2, hn.1, ?_, ?_⟩
              · have := hn.2; split at this <;> omega
              · intro h; have := hn.2; rw [if_pos (by simpa using h)] at this; exact this
            · exact i2 e b hb
          · refine ⟨by intro v h; simp only [hn, decide_false, Bool.not_false, if_true] at h; simp at h; omega, by intro h; simp only [hn, decide_false, Bool.not_false, if_true] at h; simp at h⟩
        · refine ⟨by intro v h; simp only [hd, decide_false, Bool.not_false, if_true] at h; simp at h; omega, by intro h; simp only [hd, decide_false, Bool.not_false, if_true] at h; simp at h⟩
      · have e : (z != 0) = true := by simpa using hz
        simp only [e, if_true]
        refine ⟨by intro v h; simp at h; omega, by intro h; simp at h⟩
theorem tariff_zero {fu : Nat} {t : FareTariff} (h : FareCheckTariff fu t = some 0) : 0 < t.Bands.length ∧ t.Bands.length ≤ 8 ∧ t.Rules.length ≤ 20 ∧ 1 ≤ t.Round ∧ t.Round ≤ 100 ∧ (∀ b ∈ t.Bands, 1 ≤ b.Upto ∧ b.Upto ≤ 1000 ∧ 0 ≤ b.Price ∧ b.Price ≤ 100000) ∧
    ∀ x ∈ t.Rules, FareCondcheck fu x.If = some 0 ∧ 1 ≤ x.Do ∧ x.Do ≤ 6 ∧ 0 ≤ x.N ∧ x.N ≤ 100000 ∧ (x.Do = 1 → x.N ≤ 200) := by
  unfold FareCheckTariff at h
  simp only [bnd_eq] at h
  obtain ⟨h1, h⟩ := ite_zero h (by omega)
  have hb : 1 ≤ ((t.Bands.length : Nat) : Int) ∧ ((t.Bands.length : Nat) : Int) ≤ 8 ∧ ¬ ((t.Rules.length : Nat) : Int) > 20 := by
    rw [within_iff] at h1
    by_cases e : 1 ≤ ((t.Bands.length : Nat) : Int) ∧ ((t.Bands.length : Nat) : Int) ≤ 8
    · refine ⟨e.1, e.2, ?_⟩
      simp only [e, and_self, decide_true, Bool.not_true, Bool.false_eq_true, if_false] at h1
      simpa using h1
    · simp [e] at h1
  obtain ⟨b1, b2⟩ := bands_zero t t.Bands 0
  cases hz : FareCheckTariff.loop1 t t.Bands 0 with
  | none => rw [hz] at h; simp at h
  | some z =>
    rw [hz] at h
    cases z with
    | ret r => exact absurd (by simpa using h) (b1 r hz)
    | next u =>
      simp only [Option.bind_some] at h
      obtain ⟨h2, h⟩ := ite_zero h (by omega)
      rw [within_iff] at h2
      have h2' : 1 ≤ t.Round ∧ t.Round ≤ 100 := by simpa using h2
      obtain ⟨r1, r2⟩ := rules_zero fu t.Rules
      cases hy : FareCheckTariff.loop2 fu t.Rules with
      | none => rw [hy] at h; simp at h
      | some y =>
        rw [hy] at h
        cases y with
        | ret r => exact absurd (by simpa using h) (r1 r hy)
        | next u => exact ⟨by omega, by omega, by omega, h2'.1, h2'.2, b2 hz, r2 hy⟩
/-- the first band that reaches so far, else the last one -/
def bandOf (n : Int) (p : Int) : List FareBand → Int
  | [] => p
  | b :: r => if n ≤ b.Upto then b.Price else bandOf n p r
theorem band_index (n : Int) : ∀ (l : List FareBand) (k : Nat), (SlicesIndexFuncLfareBand_v1.loop1 n l k = .next () ∧ ∀ p, bandOf n p l = p) ∨ ∃ j : Nat, SlicesIndexFuncLfareBand_v1.loop1 n l k = .ret (((k + j : Nat) : Nat) : Int) ∧ ∃ b, l[j]? = some b ∧ ∀ p, bandOf n p l = b.Price
  | [], k => .inl ⟨rfl, fun _ => rfl⟩
  | b :: l, k => by
    simp only [SlicesIndexFuncLfareBand_v1.loop1, FareTariffprice_1_v1]
    by_cases h : n ≤ b.Upto
    · refine .inr ⟨0, by simp [h], b, rfl, fun p => by simp [bandOf, h]⟩
    · have h' : ¬ b.Upto ≥ n := h
      simp only [h', decide_false, Bool.false_eq_true, if_false]
      rcases band_index n l (k + 1) with ⟨e1, e2⟩ | ⟨j, e1, b', e2, e3⟩
      · exact .inl ⟨e1, fun p => by simp [bandOf, h, e2]⟩
      · refine .inr ⟨j + 1, ?_, b', by simpa using e2, fun p => by simp [bandOf, h, e3]⟩
        rw [e1]; congr 2; omega
theorem change_in (x : FareRule) (p : Int) (hp : 0 ≤ p ∧ p ≤ 100000) (h1 : 1 ≤ x.Do) (h2 : x.Do ≤ 6) (h3 : 0 ≤ x.N) (h4 : x.N ≤ 100000) (h5 : x.Do = 1 → x.N ≤ 200) : 0 ≤ FareRulechange x p ∧ FareRulechange x p ≤ 100000 := by
  unfold FareRulechange
  by_cases e1 : x.Do = 1
  · have hm : 0 ≤ p * x.N ∧ p * x.N ≤ 100000 * 200 := ⟨Int.mul_nonneg hp.1 h3, Int.mul_le_mul hp.2 (h5 e1) h3 (by omega)⟩
    rw [if_pos (by simpa using e1), w64_id (x := p * x.N) (by omega)]
    have hd : 0 ≤ Int.tdiv (p * x.N) 100 ∧ Int.tdiv (p * x.N) 100 ≤ 100000 * 200 := by
      rw [Int.tdiv_eq_ediv_of_nonneg hm.1]; omega
    rw [w64_id (by omega)]
    unfold mn; omega
  · rw [if_neg (by simpa using e1)]
    by_cases e2 : x.Do = 2
    · rw [if_pos (by simpa using e2), w64_id (by omega)]; unfold mx; omega
    · rw [if_neg (by simpa using e2)]
      by_cases e3 : x.Do = 3
      · rw [if_pos (by simpa using e3), w64_id (by omega)]; unfold mn; omega
      · rw [if_neg (by simpa using e3)]
        by_cases e4 : x.Do = 4
        · rw [if_pos (by simpa using e4)]; omega
        · rw [if_neg (by simpa using e4)]
          by_cases e5 : x.Do = 5
          · rw [if_pos (by simpa using e5)]; unfold mn; omega
          · rw [if_neg (by simpa using e5)]; unfold mx; omega
/-! prices at conditions of any size: the program's side alone -/
mutual
theorem size_tot : ∀ (c : FareCond) (fu : Nat), cL c ≤ fu → Tot (FareCondsize fu c)
  | _, 0, h => absurd h (by have := cL_pos (by assumption); omega)
  | ⟨a, b, d, k⟩, fu + 1, h => by
    rw [cL] at h
    rw [FareCondsize]
    exact .bind (sizes_tot k fu 1 0 (by omega)) fun _ _ => .some _
theorem sizes_tot : ∀ (l : List FareCond) (fu : Nat) (a b : Int), cLs l ≤ fu → Tot (FareCondsize.loop1 (FareCondsize fu) l a b)
  | [], _, _, _, _ => .some _
  | x :: r, fu, a, b, h => by
    rw [cLs] at h
    exact .bind (size_tot x fu (by omega)) fun z _ => sizes_tot r fu _ _ (by omega)
end
theorem check_tot {fu : Nat} {c : FareCond} (h : cL c ≤ fu) : Tot (FareCondcheck fu c) := by
  unfold FareCondcheck
  exact .bind (size_tot c fu h) fun _ _ => .bnd (.ite (fun _ => .some _) fun _ => .bind (node_tot c fu h) fun _ _ => .some _)
theorem tariff_loop2t {fu : Nat} : ∀ (r : List FareRule), (∀ x ∈ r, cL x.If ≤ fu) → Tot (FareCheckTariff.loop2 fu r)
  | [], _ => .some _
  | x :: r, h => .bind (check_tot (h x (by simp))) fun _ _ => .ite (fun _ => .some _) fun _ => .bnd (.ite (fun _ => .some _) fun _ => .ite (fun _ => .some _) fun _ => tariff_loop2t r fun y hy => h y (by simp [hy]))
theorem tariff_tot {fu : Nat} (t : FareTariff) (hl : t.Bands.length ≤ 9223372036854775807) (hc : ∀ x ∈ t.Rules, cL x.If ≤ fu) : Tot (FareCheckTariff fu t) := by
  unfold FareCheckTariff
  refine .bnd (.ite (fun _ => .some _) fun _ => .bind (bands_tot t hl t.Bands 0 rfl) fun z _ => ?_)
  cases z
  · exact .some _
  · refine .ite (fun _ => .some _) fun _ => .bind (tariff_loop2t t.Rules hc) fun z _ => ?_
    cases z <;> exact .some _
theorem idx1t (fu : Nat) (t : FareTrip) : ∀ (l : List FareCond) (k : Nat), (∀ c ∈ l, Tot (FareCondholds fu c t)) → Tot (SlicesIndexFuncLfareCond_v1.loop1 t (FareCondholds fu) l k)
  | [], _, _ => .some _
  | c :: l, k, h => by
    rw [SlicesIndexFuncLfareCond_v1.loop1]
    unfold FareCondholds_2_v1
    exact .bind (.bind (h c (by simp)) fun _ _ => .some _) fun _ _ => .ite (fun _ => .some _) fun _ => idx1t fu t l (k + 1) fun x hx => h x (by simp [hx])
theorem idx2t (fu : Nat) (t : FareTrip) : ∀ (l : List FareCond) (k : Nat), (∀ c ∈ l, Tot (FareCondholds fu c t)) → Tot (SlicesIndexFuncLfareCond_v2.loop1 t (FareCondholds fu) l k)
  | [], _, _ => .some _
  | c :: l, k, h => by
    rw [SlicesIndexFuncLfareCond_v2.loop1]
    unfold FareCondholds_3_v1
    exact .bind (.bind (h c (by simp)) fun _ _ => .some _) fun _ _ => .ite (fun _ => .some _) fun _ => idx2t fu t l (k + 1) fun x hx => h x (by simp [hx])
theorem holds_tot (t : FareTrip) (hz : 0 < t.Zones.length) (hz2 : t.Zones.length ≤ 10) : ∀ (fu : Nat) (c : FareCond), FareCondnode fu c = some 0 → Tot (FareCondholds fu c t)
  | 0, c, h => by simp [FareCondnode] at h
  | fu + 1, c, h => by
    obtain ⟨h9, hk⟩ := node_zero h
    have hall : ∀ x ∈ c.Kids, Tot (FareCondholds fu x t) := fun x hx => holds_tot t hz hz2 fu x (hk x hx)
    have g0 : gx t.Zones 0 = some t.Zones[0] := gx_at hz
    have g1 : gx t.Zones (w64 ((t.Zones.length : Int) - 1)) = some t.Zones[t.Zones.length - 1] := gx_prev hz (by omega) (by omega)
    have k9 : c.Kind = 9 → ∃ x, gx c.Kids 0 = some x ∧ Tot (FareCondholds fu x t) := by
      intro e
      have := h9 e
      have hl : 0 < c.Kids.length := by omega
      exact ⟨c.Kids[0], gx_at hl, hall _ (List.getElem_mem _)⟩
    have hAnd : Tot (SlicesContainsFuncLfareCond_v1 (FareCondholds fu) c.Kids t) := by
      unfold SlicesContainsFuncLfareCond_v1 SlicesIndexFuncLfareCond_v1
      refine .bind (.bind (idx1t fu t c.Kids 0 hall) fun z _ => ?_) fun _ _ => .some _
      cases z <;> exact .some _
    have hOr : Tot (SlicesContainsFuncLfareCond_v2 (FareCondholds fu) c.Kids t) := by
      unfold SlicesContainsFuncLfareCond_v2 SlicesIndexFuncLfareCond_v2
      refine .bind (.bind (idx2t fu t c.Kids 0 hall) fun z _ => ?_) fun _ _ => .some _
      cases z <;> exact .some _
    rw [FareCondholds, g0, g1]
    refine .ite (fun _ => .some _) fun _ => .ite (fun _ => .some _) fun _ => .ite (fun _ => .some _) fun _ => .ite (fun _ => .some _) fun _ => .ite (fun _ => .some _) fun _ => .ite (fun _ => .some _) fun _ => .ite (fun _ => .some _) fun _ => .ite (fun _ => .some _) fun _ => .ite (fun e => ?_) fun _ => .ite (fun _ => .bind hAnd fun _ _ => .some _) fun _ => .ite (fun _ => .bind hOr fun _ _ => .some _) fun _ => .some _
    obtain ⟨x, e1, e2⟩ := k9 (by simpa using e)
    rw [e1, Option.bind_some]
    exact .bind e2 fun _ _ => .some _
theorem rules_in {fu : Nat} (t : FareTrip) (hz : 0 < t.Zones.length) (hz2 : t.Zones.length ≤ 10) : ∀ (r : List FareRule) (k : Nat) (p : Int) (l : List Int), (∀ x ∈ r, FareCondcheck fu x.If = some 0 ∧ 1 ≤ x.Do ∧ x.Do ≤ 6 ∧ 0 ≤ x.N ∧ x.N ≤ 100000 ∧ (x.Do = 1 → x.N ≤ 200)) → 0 ≤ p ∧ p ≤ 100000 → l.length + r.length ≤ 1000 →
    ∃ q m, FareTariffprice.loop1 t fu r k p l = some (q, m) ∧ 0 ≤ q ∧ q ≤ 100000
  | [], k, p, l, _, hp, _ => ⟨p, l, rfl, hp⟩
  | x :: r, k, p, l, h, hp, hl => by
    obtain ⟨c0, c1, c2, c3, c4, c5⟩ := h x (by simp)
    obtain ⟨z, e2⟩ := holds_tot t hz hz2 fu x.If (check_node c0)
    simp only [List.length_cons] at hl
    simp only [FareTariffprice.loop1, e2, Option.bind_some]
    cases z
    · simp only [Bool.not_false, if_true]
      exact rules_in t hz hz2 r (k + 1) p l (fun y hy => h y (by simp [hy])) hp (by omega)
    · have ha : ∀ v, apd l [v] = some (l ++ [v]) := fun v => apd_lt (by simp; omega)
      simp only [Bool.not_true, Bool.false_eq_true, if_false, ha, Option.bind_some]
      have hch := change_in x p hp c1 c2 c3 c4 c5
      cases x.Stop
      · simp only [Bool.false_eq_true, if_false]
        exact rules_in t hz hz2 r (k + 1) _ _ (fun y hy => h y (by simp [hy])) hch (by simp; omega)
      · exact ⟨_, _, rfl, hch⟩
theorem price_in {fu : Nat} (t : FareTariff) (r : FareTrip) (h1 : FareCheckTariff fu t = some 0) (h2 : FareCheckTrip r = some 0) : ∃ p l, FareTariffprice fu t r = some (p, l) ∧ 0 ≤ p := by
  obtain ⟨b1, b2, b3, r1, r2, b4, r3⟩ := tariff_zero h1
  have z := trip_zero h2
  unfold FareTariffprice
  simp only [bnd_eq]
  generalize (if t.ByKm = true then r.Km else ((r.Zones.length : Nat) : Int)) = n
  have hlast : gx t.Bands (w64 (((t.Bands.length : Nat) : Int) - 1)) = some (t.Bands[t.Bands.length - 1]'(by omega)) := gx_prev b1 (by omega) (by omega)
  generalize hP : (t.Bands[t.Bands.length - 1]'(by omega)) = B at hlast
  have hprog : ∃ b, (gx t.Bands (if decide (SlicesIndexFuncLfareBand_v1 t.Bands n < 0) = true then w64 (((t.Bands.length : Nat) : Int) - 1) else SlicesIndexFuncLfareBand_v1 t.Bands n)) = some b ∧ b ∈ t.Bands := by
    unfold SlicesIndexFuncLfareBand_v1
    rcases band_index n t.Bands 0 with ⟨e1, e2⟩ | ⟨j, e1, b, e2, e3⟩
    · refine ⟨B, ?_, by rw [← hP]; exact List.getElem_mem _⟩
      simp only [e1, bnd_eq]
      exact hlast
    · refine ⟨b, ?_, List.mem_of_getElem? e2⟩
      have hn : ¬ (((0 + j : Nat) : Int) < 0) := by omega
      simp only [e1, bnd_eq, hn, decide_false, Bool.false_eq_true, if_false]
      rw [gx_nat, Nat.zero_add]; exact e2
  obtain ⟨b, p1, p3⟩ := hprog
  obtain ⟨q1, q2, q3, q4⟩ := b4 b p3
  obtain ⟨p, l, s1, s3, s4⟩ := rules_in r z.1 z.2 t.Rules 0 b.Price [] r3 ⟨q3, q4⟩ (by simp; omega)
  simp only [p1, Option.bind_some, s1]
  have hw1 : w64 (p + t.Round) = p + t.Round := w64_id (by omega)
  have hw2 : w64 (p + t.Round - 1) = p + t.Round - 1 := w64_id (by omega)
  have hdv : dv (p + t.Round - 1) t.Round = some ((p + t.Round - 1) / t.Round) := by
    unfold dv
    rw [if_neg (by omega), Int.tdiv_eq_ediv_of_nonneg (by omega)]
    have h0 : 0 ≤ (p + t.Round - 1) / t.Round := Int.ediv_nonneg (by omega) (by omega)
    have h9 : (p + t.Round - 1) / t.Round ≤ p + t.Round - 1 := Int.ediv_le_self _ (by omega)
    congr 1
    exact IntWalk.i64_in _ ⟨by omega, by omega⟩
  rw [hw1, hw2, hdv]
  simp only [Option.bind_some]
  generalize hQ : (p + t.Round - 1) / t.Round = Q
  have a1 := Int.emod_add_mul_ediv (p + t.Round - 1) t.Round
  have a2 := Int.emod_nonneg (p + t.Round - 1) (show t.Round ≠ 0 by omega)
  have a3 := Int.emod_lt_of_pos (p + t.Round - 1) (show 0 < t.Round by omega)
  rw [hQ] at a1
  have hc : Q * t.Round = t.Round * Q := Int.mul_comm _ _
  have hw3 : w64 (Q * t.Round) = Q * t.Round := w64_id (by omega)
  rw [hw3]
  exact ⟨_, _, rfl, by omega⟩
theorem price_outw {fu : Nat} (t : FareTariff) (r : FareTrip) (h1 : t.Bands.length ≤ 9223372036854775807) (h2 : r.Zones.length ≤ 9223372036854775807) (hc : ∀ x ∈ t.Rules, cL x.If ≤ fu) :
    ∃ p l e, FarePrice fu t r = some (p, l, e) ∧ (e ≠ 0 → p = 0) ∧ 0 ≤ p := by
  unfold FarePrice
  obtain ⟨z1, e2⟩ := tariff_tot t h1 hc
  obtain ⟨e3, z2, e4⟩ := trip_ref r h2
  rw [e2, Option.bind_some]
  by_cases c1 : z1 = 0
  · subst c1
    rw [e4]
    by_cases c2 : z2 = 0
    · subst c2
      obtain ⟨p, l, e5, e6⟩ := price_in t r e2 e4
      exact ⟨p, l, 0, by simp [e5], fun h => absurd rfl h, e6⟩
    · exact ⟨0, [], z2, by simp [c2], fun _ => rfl, by omega⟩
  · exact ⟨0, [], z1, by simp [c1], fun _ => rfl, by omega⟩
theorem cL_mem : ∀ {l : List FareRule} {x : FareRule}, x ∈ l → cL x.If ≤ cLs (l.map (·.If))
  | y :: l, x, h => by
    rw [List.map_cons, cLs]
    rcases List.mem_cons.1 h with rfl | h
    · omega
    · have := cL_mem h; omega
end TA
namespace TB
/-! single bits -/
theorem bit_and1 {x : Int} (h0 : 0 ≤ x) (h1 : x < 9223372036854775808) : IntKind.wrap .i64 ((BitVec.ofInt (IntKind.bits .i64) x &&& BitVec.ofInt (IntKind.bits .i64) 1).toNat : Int) = x % 2 := by
  have e : (BitVec.ofInt (IntKind.bits .i64) x &&& BitVec.ofInt (IntKind.bits .i64) 1).toNat = x.toNat % 2 := by
    show (BitVec.ofInt 64 x &&& BitVec.ofInt 64 1).toNat = x.toNat % 2
    rw [BitVec.toNat_and]
    have h2 : (BitVec.ofInt 64 1).toNat = 1 := by decide
    have h3 : (BitVec.ofInt 64 x).toNat = x.toNat := by
      rw [BitVec.toNat_ofInt]
      have : x % ((2 ^ 64 : Nat) : Int) = x := Int.emod_eq_of_lt h0 (by omega)
      rw [this]
    rw [h2, h3, Nat.and_one_is_mod]
  rw [e]
  have : ((x.toNat % 2 : Nat) : Int) = x % 2 := by omega
  rw [this]
  exact IntWalk.i64_in _ ⟨by omega, by omega⟩
theorem shr_nat {x : Int} (h0 : 0 ≤ x) {k : Nat} (hk : k ≤ 64) : Int.fdiv x (2 ^ (min (Int.toNat ((k : Nat) : Int)) (IntKind.bits .i64))) = x / 2 ^ k := by
  have e : min (Int.toNat ((k : Nat) : Int)) (IntKind.bits .i64) = k := by show min (Int.toNat ((k : Nat) : Int)) 64 = k; omega
  rw [e, Int.fdiv_eq_ediv_of_nonneg x (Int.le_of_lt (Int.pow_pos (by omega)))]
/-! powers modulo m -/
theorem emod_mul {a b c d m : Int} (h : a % m = b % m) (k : c % m = d % m) : (a * c) % m = (b * d) % m := by rw [Int.mul_emod, h, k, ← Int.mul_emod]
theorem emod_pow {a b m : Int} (h : a % m = b % m) : ∀ k : Nat, (a ^ k) % m = (b ^ k) % m
  | 0 => by rw [Int.pow_zero, Int.pow_zero]
  | k + 1 => by rw [Int.pow_succ, Int.pow_succ]; exact emod_mul (emod_pow h k) h
theorem rm_pos {x m : Int} (hx : 0 ≤ x) (hm : 1 < m) : rm x m = some (x % m) := by unfold rm; rw [if_neg (by omega), Int.tmod_eq_emod_of_nonneg hx]
theorem prod_in {a b m : Int} (ha : 0 ≤ a ∧ a < m) (hb : 0 ≤ b ∧ b < m) (hm : m ≤ 2147483648) : 0 ≤ a * b ∧ a * b ≤ 2147483648 * 2147483648 :=
  ⟨Int.mul_nonneg ha.1 hb.1, Int.mul_le_mul (by omega) (by omega) hb.1 (by omega)⟩
theorem emod_in (a : Int) {m : Int} (hm : 1 < m) : 0 ≤ a % m ∧ a % m < m := ⟨Int.emod_nonneg _ (by omega), Int.emod_lt_of_pos _ (by omega)⟩
theorem pow_one' (x : Int) : x ^ 1 = x := by rw [Int.pow_succ, Int.pow_zero, Int.one_mul]
theorem pow_half (x : Int) (n : Nat) : x ^ n = (x * x) ^ (n / 2) * x ^ (n % 2) := by
  have e : x * x = x ^ 2 := by rw [Int.pow_succ, Int.pow_succ, Int.pow_zero, Int.one_mul]
  rw [e, ← Int.pow_mul, ← Int.pow_add]
  congr 1; omega
theorem pow_loop (m : Int) (hm : 1 < m) (hm2 : m ≤ 2147483648) : ∀ (fu : Nat) (x n o : Int), 0 ≤ n → n < 2 ^ fu → fu ≤ 62 → 0 ≤ x ∧ x < m → 0 ≤ o ∧ o < m → ∃ x' n', Farepower.loop1 m (fu + 1) x n o = some (x', n', (o * x ^ n.toNat) % m)
  | 0, x, n, o, h0, h1, _, hx, ho => by
    have hn : n = 0 := by omega
    subst hn
    exact ⟨x, 0, by simp [Farepower.loop1, Int.emod_eq_of_lt ho.1 ho.2]⟩
  | fu + 1, x, n, o, h0, h1, hf, hx, ho => by
    have h1' : n < 2 * 2 ^ fu := by rw [Int.pow_succ] at h1; omega
    have hb : (2 : Int) ^ fu ≤ 2 ^ 61 := by
      have : (2 : Nat) ^ fu ≤ 2 ^ 61 := Nat.pow_le_pow_right (by omega) (by omega)
      exact_mod_cast this
    have hb2 : (2 : Int) ^ 61 = 2305843009213693952 := by decide
    rw [Farepower.loop1]
    by_cases hn : n > 0
    · have hxx := prod_in hx hx hm2
      have hox := prod_in ho hx hm2
      rw [bit_and1 h0 (by omega)]
      have hs : Int.fdiv n (2 ^ (min (Int.toNat 1) (IntKind.bits .i64))) = n / 2 := by have := shr_nat (x := n) h0 (k := 1) (by omega); simpa using this
      simp only [hn, decide_true, if_true, hs]
      rw [w64_id (x := x * x) (by omega), w64_id (x := o * x) (by omega), rm_pos hxx.1 hm, rm_pos hox.1 hm]
      simp only [Option.bind_some]
      have hnn : (n / 2).toNat = n.toNat / 2 := by omega
      by_cases hp : n % 2 = 1
      · have hpb : (n % 2 == 1) = true := by simpa using hp
        simp only [hpb, if_true, Option.bind_some]
        have hc := emod_in (x * o) hm
        have hc' := emod_in (x * x) hm
        have e0 : o * x = x * o := Int.mul_comm _ _
        obtain ⟨x', n', ih⟩ := pow_loop m hm hm2 fu (x * x % m) (n / 2) (o * x % m) (by omega) (by omega) (by omega) hc' (emod_in _ hm)
        refine ⟨x', n', ?_⟩
        rw [ih]
        have e1 : (o * x % m * (x * x % m) ^ (n / 2).toNat) % m = (o * x ^ n.toNat) % m := by
          have h2 : (o * x % m * (x * x % m) ^ (n / 2).toNat) % m = ((o * x) * (x * x) ^ (n / 2).toNat) % m := emod_mul (Int.emod_emod _ _) (emod_pow (Int.emod_emod _ _) _)
          rw [h2, pow_half x n.toNat, hnn]
          have h3 : n.toNat % 2 = 1 := by omega
          rw [h3, pow_one']
          congr 1
          rw [Int.mul_assoc, Int.mul_comm x]
        rw [e1]
      · have hpb : (n % 2 == 1) = false := by simpa using hp
        simp only [hpb, Bool.false_eq_true, if_false, Option.bind_some]
        obtain ⟨x', n', ih⟩ := pow_loop m hm hm2 fu (x * x % m) (n / 2) o (by omega) (by omega) (by omega) (emod_in _ hm) ho
        refine ⟨x', n', ?_⟩
        rw [ih]
        have e1 : (o * (x * x % m) ^ (n / 2).toNat) % m = (o * x ^ n.toNat) % m := by
          have h2 : (o * (x * x % m) ^ (n / 2).toNat) % m = (o * (x * x) ^ (n / 2).toNat) % m := emod_mul rfl (emod_pow (Int.emod_emod _ _) _)
          rw [h2, pow_half x n.toNat, hnn]
          have h3 : n.toNat % 2 = 0 := by omega
          rw [h3, Int.pow_zero, Int.mul_one]
        rw [e1]
    · have hn0 : n = 0 := by omega
      subst hn0
      exact ⟨x, 0, by simp [Int.emod_eq_of_lt ho.1 ho.2]⟩
theorem loop_more (m : Int) : ∀ (f g : Nat) (x n o : Int) (r : Int × Int × Int), f ≤ g → Farepower.loop1 m f x n o = some r → Farepower.loop1 m g x n o = some r
  | 0, _, _, _, _, _, _, h => by simp [Farepower.loop1] at h
  | f + 1, 0, _, _, _, _, hg, _ => absurd hg (by omega)
  | f + 1, g + 1, x, n, o, r, hg, h => by
    rw [Farepower.loop1] at h ⊢
    split at h
    · rename_i hc
      rw [if_pos hc]
      rw [Option.bind_eq_some_iff] at h ⊢
      obtain ⟨q, h1, h2⟩ := h
      refine ⟨q, h1, ?_⟩
      rw [Option.bind_eq_some_iff] at h2 ⊢
      obtain ⟨y, h3, h4⟩ := h2
      exact ⟨y, h3, loop_more m f g _ _ _ r (by omega) h4⟩
    · rename_i hc
      rw [if_neg hc]; exact h
theorem power_ok {fu : Nat} (hf : 63 ≤ fu) (x n m : Int) (hx : 0 ≤ x) (hn : 0 ≤ n) (hn2 : n ≤ 2147483648) (hm : 1 < m) (hm2 : m ≤ 2147483648) : Farepower fu x n m = some (x ^ n.toNat % m) := by
  unfold Farepower
  rw [rm_pos (by omega) hm, rm_pos hx hm]
  simp only [Option.bind_some]
  obtain ⟨x', n', h⟩ := pow_loop m hm hm2 62 (x % m) n (1 % m) hn (by rw [show (2 : Int) ^ 62 = 4611686018427387904 from by decide]; omega) (by omega) (emod_in _ hm) (emod_in _ hm)
  rw [loop_more m 63 fu _ _ _ _ hf h]
  simp only [Option.bind_some]
  congr 1
  have h2 : (1 % m * (x % m) ^ n.toNat) % m = (1 * x ^ n.toNat) % m := emod_mul (Int.emod_emod _ _) (emod_pow (Int.emod_emod _ _) _)
  rw [h2, Int.one_mul]
/-! the digest -/
theorem digest_loop (s : ByteArray) : ∀ (n k : Nat) (q : Int), Fishref2DigestOf.loop1 s n k q = FareDigest.loop1 s n k q
  | 0, _, _ => rfl
  | n + 1, k, q => by simp only [Fishref2DigestOf.loop1, FareDigest.loop1, digest_loop s n] <;> rfl
theorem sgx_in {s : ByteArray} {k : Nat} (h : k < s.size) : ∃ v : Int, sgx s ((k : Nat) : Int) = some v ∧ 0 ≤ v ∧ v ≤ 255 := by
  have hl : s.data.toList.length = s.size := by cases s; rfl
  refine ⟨((s.data.toList[k]'(by omega)).toNat : Int), ?_, by omega, ?_⟩
  · unfold sgx; rw [gx_at (by omega)]; rfl
  · have := (s.data.toList[k]'(by omega)).toNat_lt; omega
theorem digest_tot (s : ByteArray) : ∀ (n k : Nat) (q : Int), k + n = s.size → 0 ≤ q → q ≤ 999983 → ∃ z, FareDigest.loop1 s n k q = some z ∧ 0 ≤ z ∧ z ≤ 999983
  | 0, k, q, _, h0, h1 => ⟨q, rfl, h0, h1⟩
  | n + 1, k, q, hk, h0, h1 => by
    obtain ⟨v, e, v0, v1⟩ := sgx_in (s := s) (k := k) (by omega)
    rw [FareDigest.loop1, e, Option.bind_some]
    rw [w64_id (x := q * 257) (by omega), w64_id (x := v) (by omega), w64_id (x := q * 257 + v) (by omega), w64_id (by omega), Int.tmod_eq_emod_of_nonneg (by omega)]
    exact digest_tot s n (k + 1) _ (by omega) (by omega) (by omega)
theorem digest_ok (s : ByteArray) (hs : s.size ≤ 9223372036854775807) : ∃ z, FareDigest s = some z ∧ Fishref2DigestOf s = some z ∧ 0 ≤ z ∧ z ≤ 999983 := by
  obtain ⟨z, h, h0, h1⟩ := digest_tot s s.size 0 1 (by omega) (by omega) (by omega)
  have e : szok s = some () := by unfold szok; rw [if_pos hs]
  refine ⟨z, ?_, ?_, h0, h1⟩
  · unfold FareDigest; rw [e]; simp only [Option.bind_some, h]
  · unfold Fishref2DigestOf; rw [e]; simp only [Option.bind_some, digest_loop, h]
theorem within_iff (x a b : Int) : Farewithin x a b = decide (a ≤ x ∧ x ≤ b) := by
  unfold Farewithin bnd
  by_cases h1 : a ≤ x <;> by_cases h2 : x ≤ b <;> simp [h1, h2]
/-! texts of numbers -/
/-- a number's text -/
def tx (n : Int) : ByteArray := ⟨(Lib.itoa n).toArray⟩
theorem itoa_tx {n : Int} (h : -9223372036854775808 ≤ n ∧ n ≤ 9223372036854775807) : itoa n = some (tx n) := by unfold itoa; rw [if_pos h]; rfl
theorem tx_size {n : Int} (h : -9223372036854775808 ≤ n ∧ n ≤ 9223372036854775807) : (tx n).size ≤ 21 := by
  have := Lib.itoa_length_le n h.1 h.2
  unfold tx
  show ((Lib.itoa n).toArray).size ≤ 21
  simpa using this
theorem scat_in {a b : ByteArray} (h : a.size + b.size ≤ 9223372036854775807) : scat a b = some (a ++ b) := by unfold scat; rw [if_pos h]
theorem sbw_in {y x : ByteArray} (h0 : 0 < x.size) (h : y.size + x.size < 4294967296) : sbw y x = some (y ++ x) := by unfold sbw; rw [if_pos ⟨h0, h⟩]
/-! the check of a ticket -/
theorem within_ref (x a b : Int) : Fishref2within x a b = Farewithin x a b := rfl

theorem zones_tot (l : List Int) (b : Bool) (hl : l.length ≤ 9223372036854775807) : ∀ (r : List Int) (k : Nat), l.drop k = r → Tot (FarecheckZones.loop1 l b r k)
  | [], _, _ => .some _
  | x :: r, k, hd => by
    obtain ⟨d1, d2, d3⟩ := drop_cons hd
    rw [FarecheckZones.loop1]
    refine .ite (fun _ => .some _) fun _ => .bind (.ite (fun h => ?_) fun _ => .some _) fun _ _ => .ite (fun _ => .some _) fun _ => zones_tot l b hl r (k + 1) d3
    have hk : 0 < k := by have := of_decide_eq_true h; omega
    have hp := gx_prev (l := l) hk (by omega) hl
    exact .bind1 hp (.ite (fun _ => .some _) fun _ => .ite (fun _ => .bind1 hp (.some _)) fun _ => .some _)
/-! a text as its pieces between a byte -/
theorem seq_iff (x y : ByteArray) : seq x y = true ↔ x.data.toList = y.data.toList := by unfold seq; exact beq_iff_eq
theorem ba_ext {x y : ByteArray} (h : x.data.toList = y.data.toList) : x = y := by
  cases x; cases y
  simp at h
  subst h
  rfl
theorem ba_size (x : ByteArray) : x.size = x.data.toList.length := by rw [Array.length_toList]; rfl
theorem cut_list (s : ByteArray) (a b : Nat) : (s.extract a b).data.toList = (s.data.toList.take b).drop a := by
  simp [ByteArray.data_extract, List.drop_take]
def jn (c : UInt8) : List (List UInt8) → List UInt8
  | [] => []
  | [a] => a
  | a :: b :: r => a ++ c :: jn c (b :: r)
theorem index_no (c : UInt8) : ∀ a : List UInt8, c ∉ a → Lib.index a [c] = -1
  | [], _ => rfl
  | b :: a, h => by
    have hb : ¬ c = b := fun e => h (by simp [e])
    have hp : ([c] : List UInt8).isPrefixOf (b :: a) = false := by simp [List.isPrefixOf, hb]
    rw [Lib.index, hp, index_no c a (fun m => h (by simp [m]))]
    rfl
theorem index_at (c : UInt8) (r : List UInt8) : ∀ a : List UInt8, c ∉ a → Lib.index (a ++ c :: r) [c] = (a.length : Int)
  | [], _ => by
    have hp : ([c] : List UInt8).isPrefixOf (c :: r) = true := by simp [List.isPrefixOf]
    rw [List.nil_append, Lib.index, hp]; rfl
  | b :: a, h => by
    have hb : ¬ c = b := fun e => h (by simp [e])
    have hp : ([c] : List UInt8).isPrefixOf (b :: (a ++ c :: r)) = false := by simp [List.isPrefixOf, hb]
    rw [List.cons_append, Lib.index, hp, index_at c r a (fun m => h (by simp [m]))]
    rw [if_neg (by decide), if_neg (by rw [beq_iff_eq]; omega)]
    simp
theorem split_jn (c : UInt8) : ∀ (P : List (List UInt8)) (s : ByteArray), P ≠ [] → (∀ a ∈ P, c ∉ a) → s.data.toList = jn c P → Lib.countB s (str [c]) + 1 = P.length ∧ Lib.splitB (str [c]) 0 (Lib.countB s (str [c])) s = P.map str
  | [], _, h, _, _ => absurd rfl h
  | [a], s, _, hc, hs => by
    have hi : Lib.indexB s (str [c]) = -1 := by
      unfold Lib.indexB
      rw [hs]
      exact index_no c a (hc a (by simp))
    rw [Lib.countB_miss s _ hi]
    refine ⟨rfl, ?_⟩
    rw [Lib.splitB_zero, List.map_cons, List.map_nil]
    congr 1
    exact ba_ext (by rw [hs]; rfl)
  | a :: b :: r, s, _, hc, hs => by
    have hi : Lib.indexB s (str [c]) = ((a.length : Nat) : Int) := by
      unfold Lib.indexB
      rw [hs]
      exact index_at c _ a (hc a (by simp))
    have h1 : (str [c]).size = 1 := rfl
    have hx : (s.extract (a.length + 1) s.size).data.toList = jn c (b :: r) := by
      rw [cut_list, List.take_of_length_le (by rw [← ba_size]; exact Nat.le_refl _), hs]
      show (a ++ c :: jn c (b :: r)).drop (a.length + 1) = _
      rw [← List.drop_drop, List.drop_left]
      rfl
    obtain ⟨k1, k2⟩ := split_jn c (b :: r) (s.extract (a.length + 1) s.size) (by simp) (fun x hx => hc x (by simp [List.mem_cons] at hx ⊢; exact .inr hx)) hx
    have hcnt : Lib.countB s (str [c]) = Lib.countB (s.extract (a.length + 1) s.size) (str [c]) + 1 := by
      rw [Lib.countB_hit s (str [c]) a.length (by rw [h1]; decide) hi, h1]; omega
    refine ⟨by rw [hcnt, k1]; rfl, ?_⟩
    rw [hcnt, Lib.splitB_hit (str [c]) 0 _ s a.length hi, h1, k2, List.map_cons, Nat.add_zero]
    congr 1
    refine ba_ext ?_
    rw [cut_list, hs, List.drop_zero]
    show (a ++ c :: jn c (b :: r)).take a.length = a
    rw [List.take_left]
theorem splitq_jn (c : UInt8) (P : List (List UInt8)) (s : ByteArray) (h0 : P ≠ []) (hc : ∀ a ∈ P, c ∉ a) (hs : s.data.toList = jn c P) (hz : s.size ≤ 30000) : splitq s (str [c]) = some (P.map str) := by
  unfold splitq
  rw [if_pos ⟨by omega, (by decide : 1 ≤ 1)⟩, (split_jn c P s h0 hc hs).2]

/-! a ticket's text -/
theorem gx_get {α : Type} {l : List α} {k : Nat} {x : α} (h : l[k]? = some x) : gx l (k : Int) = some x := by rw [gx_nat, h]
theorem cutq (s : ByteArray) (hs : s.size ≤ 30000) : ∃ body is, StringsCutSuffix s (str [10]) = some (body, is) ∧ body.size ≤ s.size ∧ (is = true → s.data.toList = body.data.toList ++ [10]) := by
  unfold StringsCutSuffix InternalStringsliteCutSuffix InternalStringsliteHasSuffix
  have h1 : (str [10]).size = 1 := rfl
  rw [h1]
  by_cases c : 1 ≤ s.size
  · have e0 : decide (((s.size : Nat) : Int) ≥ ((1 : Nat) : Int)) = true := by simp; omega
    have ew : w64 (((s.size : Nat) : Int) - ((1 : Nat) : Int)) = ((s.size - 1 : Nat) : Int) := by rw [w64_id (by omega)]; omega
    rw [e0, ew, if_pos rfl]
    have e1 : scut s ((s.size - 1 : Nat) : Int) ((s.size : Nat) : Int) = some (s.extract (s.size - 1) s.size) := by
      unfold scut; rw [if_pos (by omega)]; simp
    have e2 : scut s 0 ((s.size - 1 : Nat) : Int) = some (s.extract 0 (s.size - 1)) := by
      unfold scut; rw [if_pos (by omega)]; simp
    rw [e1, Option.bind_some, Option.bind_some, Option.bind_some, e2]
    cases hq : seq (s.extract (s.size - 1) s.size) (str [10]) with
    | false => exact ⟨s, false, rfl, Nat.le_refl _, fun h => by cases h⟩
    | true =>
      refine ⟨_, true, rfl, ?_, fun _ => ?_⟩
      · rw [ba_size, cut_list, ba_size]; simp
      · have h := (seq_iff _ _).1 hq
        rw [cut_list, List.take_of_length_le (by rw [ba_size]; exact Nat.le_refl _)] at h
        rw [cut_list, List.drop_zero]
        have h2 : (str [10]).data.toList = [10] := rfl
        rw [h2] at h
        rw [← h, List.take_append_drop]
  · have e0 : decide (((s.size : Nat) : Int) ≥ ((1 : Nat) : Int)) = false := by simp; omega
    rw [e0, if_neg (by decide)]
    exact ⟨s, false, rfl, Nat.le_refl _, fun h => by cases h⟩
theorem sgx_of {s : ByteArray} {k : Nat} {b : UInt8} (h : s.data.toList[k]? = some b) : sgx s (k : Int) = some (b.toNat : Int) := by unfold sgx; rw [gx_nat, h]; rfl
theorem lastix {s : ByteArray} {pre b : List UInt8} (hs : s.data.toList = pre ++ 32 :: b) (hb : (32 : UInt8) ∉ b) (hz : s.size ≤ 30000) : ∀ (d fu : Nat), d ≤ b.length → d < fu →
    InternalBytealgLastIndexByteString.loop1 s 32 fu ((pre.length + d : Nat) : Int) = some (.ret ((pre.length : Nat) : Int))
  | _, 0, _, h => absurd h (by omega)
  | 0, fu + 1, _, _ => by
    have hg : s.data.toList[pre.length + 0]? = some 32 := by rw [hs]; simp
    rw [InternalBytealgLastIndexByteString.loop1, if_pos (by simp), sgx_of hg]
    rfl
  | d + 1, fu + 1, hd, hf => by
    have hl : s.size = pre.length + 1 + b.length := by rw [ba_size, hs]; simp; omega
    have hdb : d < b.length := by omega
    have hg : s.data.toList[pre.length + (d + 1)]? = some b[d] := by rw [hs, List.getElem?_append_right (by omega)]; simp [hdb]
    rw [InternalBytealgLastIndexByteString.loop1, if_pos (by simp; omega), sgx_of hg, Option.bind_some]
    have hne : ¬ (((b[d].toNat : Nat) : Int) == 32) = true := by
      intro h
      have h := eq_of_beq h
      have : b[d] = 32 := UInt8.toNat_inj.1 (by show b[d].toNat = 32; omega)
      exact hb (by rw [← this]; exact List.getElem_mem hdb)
    rw [if_neg hne, w64_id (by omega), show ((pre.length + (d + 1) : Nat) : Int) - 1 = ((pre.length + d : Nat) : Int) by omega]
    exact lastix hs hb hz d fu (by omega) (by omega)
theorem last_ok {s : ByteArray} {pre b : List UInt8} (hs : s.data.toList = pre ++ 32 :: b) (hb : (32 : UInt8) ∉ b) (hz : s.size ≤ 30000) {fu : Nat} (hf : b.length < fu) : StringsLastIndexByte fu s 32 = some ((pre.length : Nat) : Int) := by
  have hl : s.size = pre.length + 1 + b.length := by rw [ba_size, hs]; simp; omega
  unfold StringsLastIndexByte InternalBytealgLastIndexByteString
  rw [w64_id (by omega), show ((s.size : Nat) : Int) - 1 = ((pre.length + b.length : Nat) : Int) by omega, lastix hs hb hz b.length fu (Nat.le_refl _) hf]
  rfl
/-! digits of numbers, from num6 -/
theorem digitVal_some {b : UInt8} {d : Nat} : Lib.digitVal b = some d ↔ (48 ≤ b.toNat ∧ b.toNat ≤ 57) ∧ d = b.toNat - 48 := by
  unfold Lib.digitVal
  split
  · rename_i h
    constructor
    · intro e; injection e with e; exact ⟨h, e.symm⟩
    · rintro ⟨_, rfl⟩; rfl
  · rename_i h
    constructor
    · intro e; cases e
    · rintro ⟨k, _⟩; exact absurd k h
theorem decFrom_app : ∀ (a b : List UInt8) (acc : Nat), Lib.decFrom acc (a ++ b) = (Lib.decFrom acc a).bind fun m => Lib.decFrom m b
  | [], b, acc => rfl
  | x :: a, b, acc => by
    rw [List.cons_append, Lib.decFrom, Lib.decFrom]
    cases Lib.digitVal x with
    | none => rfl
    | some d => exact decFrom_app a b _
theorem ofNat_dig {u : Nat} (h : u < 10) : (UInt8.ofNat (48 + u)).toNat = 48 + u := by
  rw [UInt8.toNat_ofNat']; omega
theorem dig_val {u : Nat} (h : u < 10) : Lib.digitVal (UInt8.ofNat (48 + u)) = some u := by
  rw [digitVal_some, ofNat_dig h]; omega
theorem decFrom_dig (u : Nat) : Lib.decFrom 0 (Lib.decDigits u) = some u := by
  induction u using Nat.strongRecOn with
  | _ u ih =>
    rw [Lib.decDigits]
    split
    · rename_i h
      rw [Lib.decFrom, dig_val h]
      simp [Lib.decFrom]
    · rename_i h
      rw [decFrom_app, ih (u / 10) (by omega), Option.bind_some, Lib.decFrom, dig_val (by omega)]
      simp only [Lib.decFrom]
      congr 1
      omega
theorem dig_ne (u : Nat) : Lib.decDigits u ≠ [] := by
  intro h
  have h1 := Lib.decDigits_length u
  rw [h, List.length_nil] at h1
  have h2 := Lib.nDigits_pos u
  omega
/-- the first digit is 0 of 0 alone -/
theorem dig_head (u : Nat) : ∃ c r, Lib.decDigits u = c :: r ∧ 48 ≤ c.toNat ∧ c.toNat ≤ 57 ∧ (c.toNat = 48 → u = 0 ∧ r = []) := by
  induction u using Nat.strongRecOn with
  | _ u ih =>
    rw [Lib.decDigits]
    split
    · rename_i h
      exact ⟨_, _, rfl, by rw [ofNat_dig h]; omega, by rw [ofNat_dig h]; omega, by rw [ofNat_dig h]; intro e; exact ⟨by omega, rfl⟩⟩
    · rename_i h
      obtain ⟨c, r, e, h1, h2, h3⟩ := ih (u / 10) (by omega)
      rw [e]
      exact ⟨c, _, rfl, h1, h2, fun k => by have := (h3 k).1; omega⟩
theorem itoa_head (n : Int) : (n < 0 ∧ Lib.itoa n = 45 :: Lib.decDigits n.natAbs) ∨ (0 ≤ n ∧ Lib.itoa n = Lib.decDigits n.natAbs) := by
  unfold Lib.itoa
  by_cases h : n < 0
  · rw [if_pos h]; exact .inl ⟨h, rfl⟩
  · rw [if_neg h, show n.toNat = n.natAbs by omega]; exact .inr ⟨by omega, rfl⟩
theorem atoi_itoa (n : Int) : Lib.atoi (Lib.itoa n) = some n := by
  have hd : ∀ u, Lib.decNat (Lib.decDigits u) = some u := fun u => by
    unfold Lib.decNat
    rw [if_neg (by have := dig_ne u; cases h : Lib.decDigits u <;> simp_all), decFrom_dig]
  rcases itoa_head n with ⟨h1, h2⟩ | ⟨h1, h2⟩
  · rw [h2, Lib.atoi, if_pos (show ((45 : UInt8) == 45) = true from rfl), hd]
    simp; omega
  · obtain ⟨c, r, e, k1, k2, _⟩ := dig_head n.natAbs
    have a1 : ¬ ((c == 45) = true) := fun h => by have := eq_of_beq h; subst this; exact absurd k1 (by decide)
    have a2 : ¬ ((c == 43) = true) := fun h => by have := eq_of_beq h; subst this; exact absurd k1 (by decide)
    rw [h2, e, Lib.atoi, if_neg a1, if_neg a2, ← e, hd]
    simp; omega
theorem dig_mem (u : Nat) : ∀ b ∈ Lib.decDigits u, 48 ≤ b.toNat ∧ b.toNat ≤ 57 := by
  induction u using Nat.strongRecOn with
  | _ u ih =>
    intro b hb
    rw [Lib.decDigits] at hb
    split at hb
    · rename_i h
      rw [List.mem_singleton] at hb
      rw [hb, ofNat_dig h]; omega
    · rename_i h
      rcases List.mem_append.1 hb with hb | hb
      · exact ih (u / 10) (by omega) b hb
      · rw [List.mem_singleton] at hb
        rw [hb, ofNat_dig (by omega)]; omega
theorem ndig_pow : ∀ (k u : Nat), u < 10 ^ (k + 1) → Lib.nDigits u ≤ k + 1
  | 0, u, h => by rw [Lib.nDigits_small (by simpa using h)]; omega
  | k + 1, u, h => by
    by_cases c : u < 10
    · rw [Lib.nDigits_small c]; omega
    · rw [Lib.nDigits_big c]
      have := ndig_pow k (u / 10) (by rw [Nat.pow_succ] at h; omega)
      omega
theorem itoa_pos {n : Int} (h : 0 ≤ n) : Lib.itoa n = Lib.decDigits n.natAbs := by
  rcases itoa_head n with ⟨h1, _⟩ | ⟨_, h2⟩
  · omega
  · exact h2
theorem itoa_len {n : Int} (k : Nat) (h : 0 ≤ n) (hk : n.natAbs < 10 ^ (k + 1)) : (Lib.itoa n).length ≤ k + 1 := by
  rw [itoa_pos h, Lib.decDigits_length]; exact ndig_pow k _ hk
theorem itoa_no {n : Int} (h : 0 ≤ n) {c : UInt8} (hc : c.toNat < 48 ∨ 57 < c.toNat) : c ∉ Lib.itoa n := by
  rw [itoa_pos h]
  intro hm
  have := dig_mem _ c hm
  omega
/-! a ticket that was written is read again -/
theorem tx_list (n : Int) : (tx n).data.toList = Lib.itoa n := by unfold tx; rfl
theorem num_tx {n : Int} (h : 0 ≤ n ∧ n ≤ 2147483648) : Farenumber (tx n) = some (some n) := by
  have h10 : (10 : Nat) ^ (9 + 1) = 10000000000 := by decide
  have hl := itoa_len 9 h.1 (by rw [h10]; omega)
  have hs : (tx n).size = (Lib.itoa n).length := by rw [ba_size, tx_list]
  have ha : atoiq (tx n) = some (n, true) := by
    unfold atoiq
    rw [if_pos (by omega), tx_list, Lib.atoiAll_short _ (by omega), atoi_itoa]
    rfl
  have hn : ¬ n < 0 := by omega
  have hq : seq (tx n) (tx n) = true := (seq_iff _ _).2 rfl
  unfold Farenumber
  rw [ha]
  simp [hn, itoa_tx (n := n) (by omega), hq]
theorem open_loop : ∀ (L acc : List Int), (∀ x ∈ L, 0 ≤ x ∧ x ≤ 2147483648) → acc.length + L.length < 100000 → Fareopen.loop1 (L.map tx) acc = some (.next (acc ++ L))
  | [], acc, _, _ => by rw [List.map_nil, Fareopen.loop1, List.append_nil]
  | x :: L, acc, h, hl => by
    simp only [List.length_cons] at hl
    rw [List.map_cons, Fareopen.loop1, num_tx (h x (by simp)), Option.bind_some]
    dsimp only
    rw [apd_lt (by simp; omega), Option.bind_some, open_loop L (acc ++ [x]) (fun y hy => h y (by simp [hy])) (by simp; omega)]
    simp
/-- numbers, each behind a blank -/
def tl : List Int → List UInt8
  | [] => []
  | x :: r => 32 :: (Lib.itoa x ++ tl r)
theorem tl_len : ∀ L : List Int, (∀ x ∈ L, 0 ≤ x ∧ x ≤ 999999) → (tl L).length ≤ 7 * L.length
  | [], _ => by simp [tl]
  | x :: L, h => by
    have h6 : (10 : Nat) ^ (5 + 1) = 1000000 := by decide
    have hx := h x (by simp)
    have := itoa_len 5 hx.1 (by rw [h6]; omega)
    have := tl_len L fun y hy => h y (by simp [hy])
    simp only [tl, List.length_cons, List.length_append]; omega
theorem issue_loop (L : List Int) : ∀ (r : List Int) (k : Nat) (q : ByteArray), L.drop k = r → (∀ x ∈ r, 0 ≤ x ∧ x ≤ 999999) → q.size + 7 * r.length ≤ 1000000 → ∃ z, FareIssue.loop1 L r.length k q = some z ∧ z.data.toList = q.data.toList ++ tl r
  | [], k, q, _, _, _ => ⟨q, rfl, by simp [tl]⟩
  | x :: r, k, q, hd, hr, hq => by
    obtain ⟨d1, d2, d3⟩ := drop_cons hd
    have h6 : (10 : Nat) ^ (5 + 1) = 1000000 := by decide
    have hx := hr x (by simp)
    have hlen := itoa_len 5 hx.1 (by rw [h6]; omega)
    have hs : (tx x).size = (Lib.itoa x).length := by rw [ba_size, tx_list]
    have s32 : (str [32]).size = 1 := rfl
    simp only [List.length_cons] at hq
    have e2 : (str [32] ++ tx x).size = 1 + (tx x).size := by rw [ByteArray.size_append, s32]
    have e4 : (q ++ (str [32] ++ tx x)).size = q.size + (1 + (tx x).size) := by rw [ByteArray.size_append, e2]
    obtain ⟨z, z1, z2⟩ := issue_loop L r (k + 1) (q ++ (str [32] ++ tx x)) d3 (fun y hy => hr y (by simp [hy])) (by omega)
    refine ⟨z, ?_, ?_⟩
    · rw [List.length_cons, FareIssue.loop1, gx_nat, d2, Option.bind_some, itoa_tx (by omega), Option.bind_some, scat_in (by omega), Option.bind_some, scat_in (by omega), Option.bind_some]
      exact z1
    · have e5 : (q ++ (str [32] ++ tx x)).data.toList = q.data.toList ++ (32 :: Lib.itoa x) := by
        rw [ByteArray.data_append, ByteArray.data_append, Array.toList_append, Array.toList_append, tx_list]; rfl
      rw [z2, e5, tl]; simp
theorem jn_map : ∀ (L : List Int) (a : List UInt8) (R : List (List UInt8)), R ≠ [] → jn 32 (a :: (L.map Lib.itoa ++ R)) = a ++ tl L ++ 32 :: jn 32 R
  | [], a, R, hR => by
    cases R with
    | nil => exact absurd rfl hR
    | cons b R => simp [jn, tl]
  | x :: L, a, R, hR => by
    rw [List.map_cons, List.cons_append, jn, jn_map L (Lib.itoa x) R hR, tl]
    simp
theorem cut_nl {s : ByteArray} {b : List UInt8} (hs : s.data.toList = b ++ [10]) (hz : s.size ≤ 30000) : ∃ body, StringsCutSuffix s (str [10]) = some (body, true) ∧ body.data.toList = b := by
  obtain ⟨body, is, h1, _, h3⟩ := cutq s hz
  have hl : s.size = b.length + 1 := by rw [ba_size, hs]; simp
  cases is with
  | true =>
    refine ⟨body, h1, ?_⟩
    have := h3 rfl
    rw [hs] at this
    exact (List.append_cancel_right this).symm
  | false =>
    exfalso
    unfold StringsCutSuffix InternalStringsliteCutSuffix InternalStringsliteHasSuffix at h1
    have hs1 : (str [10]).size = 1 := rfl
    have e0 : decide (((s.size : Nat) : Int) ≥ ((1 : Nat) : Int)) = true := by simp; omega
    have ew : w64 (((s.size : Nat) : Int) - ((1 : Nat) : Int)) = ((s.size - 1 : Nat) : Int) := by rw [w64_id (by omega)]; omega
    have e1 : scut s ((s.size - 1 : Nat) : Int) ((s.size : Nat) : Int) = some (s.extract (s.size - 1) s.size) := by
      unfold scut; rw [if_pos (by omega)]; simp
    have e2 : scut s 0 ((s.size - 1 : Nat) : Int) = some (s.extract 0 (s.size - 1)) := by
      unfold scut; rw [if_pos (by omega)]; simp
    have hq : seq (s.extract (s.size - 1) s.size) (str [10]) = true := by
      rw [seq_iff, cut_list, List.take_of_length_le (by rw [ba_size]; exact Nat.le_refl _), hs, show s.size - 1 = b.length by omega, List.drop_left]
    rw [hs1, e0, ew, if_pos rfl, e1, Option.bind_some, Option.bind_some, Option.bind_some, hq, e2] at h1
    simp at h1
/-- what is signed and written, and read again -/
theorem open_text {s : ByteArray} {L : List Int} {sg : Int} (hL : ∀ x ∈ L, 0 ≤ x ∧ x ≤ 999999) (hl : 6 ≤ L.length) (hl2 : L.length ≤ 15) (hsg : 0 ≤ sg ∧ sg ≤ 2147483648) (hs : s.data.toList = [116, 105, 99, 107, 101, 116] ++ tl L ++ [32, 58] ++ 32 :: (Lib.itoa sg ++ [10])) :
    s.size ≤ 200 ∧ Fareopen s = some (L, sg, true) := by
  have h10 : (10 : Nat) ^ (9 + 1) = 10000000000 := by decide
  have hsl := itoa_len 9 hsg.1 (by rw [h10]; omega)
  have htl := tl_len L hL
  have hz : s.size ≤ 200 := by
    rw [ba_size, hs]
    simp only [List.length_append, List.length_cons, List.length_nil]; omega
  refine ⟨hz, ?_⟩
  obtain ⟨body, b1, b2⟩ := cut_nl (s := s) (b := [116, 105, 99, 107, 101, 116] ++ tl L ++ [32, 58] ++ 32 :: Lib.itoa sg) (by rw [hs]; simp) (by omega)
  have hP : body.data.toList = jn 32 ([116, 105, 99, 107, 101, 116] :: (L.map Lib.itoa ++ [[58], Lib.itoa sg])) := by
    rw [jn_map L _ _ (by simp), b2, jn, jn]; simp
  have h32 : ∀ a ∈ ([116, 105, 99, 107, 101, 116] :: (L.map Lib.itoa ++ [[58], Lib.itoa sg]) : List (List UInt8)), (32 : UInt8) ∉ a := by
    intro a ha
    rcases List.mem_cons.1 ha with rfl | ha
    · decide
    · rcases List.mem_append.1 ha with ha | ha
      · obtain ⟨x, hx, rfl⟩ := List.mem_map.1 ha
        exact itoa_no (hL x hx).1 (.inl (by decide))
      · simp only [List.mem_cons, List.not_mem_nil, or_false] at ha
        rcases ha with rfl | rfl
        · decide
        · exact itoa_no hsg.1 (.inl (by decide))
  have hbz : body.size ≤ 30000 := by
    have : body.size + 1 = s.size := by rw [ba_size, ba_size, b2, hs]; simp; omega
    omega
  have hsp := splitq_jn 32 _ body (by simp) h32 hP hbz
  rw [List.map_cons, List.map_append, List.map_map] at hsp
  have hmt : L.map (str ∘ Lib.itoa) = L.map tx := rfl
  rw [hmt] at hsp
  have hm2 : [[58], Lib.itoa sg].map str = [str [58], tx sg] := rfl
  rw [hm2] at hsp
  unfold Fareopen
  rw [b1, Option.bind_some]
  dsimp only
  rw [hsp, Option.bind_some]
  generalize hW : str [116, 105, 99, 107, 101, 116] :: (L.map tx ++ [str [58], tx sg]) = W
  have hWl : W.length = L.length + 3 := by rw [← hW]; simp
  have g0 : gx W 0 = some (str [116, 105, 99, 107, 101, 116]) := gx_get (k := 0) (by rw [← hW]; rfl)
  have g2 : gx W (w64 (((W.length : Nat) : Int) - 2)) = some (str [58]) := by
    rw [w64_id (by omega), show ((W.length : Nat) : Int) - 2 = ((L.length + 1 : Nat) : Int) by omega]
    refine gx_get ?_
    rw [← hW, List.getElem?_cons_succ, List.getElem?_append_right (by simp)]
    simp
  have g1 : gx W (w64 (((W.length : Nat) : Int) - 1)) = some (tx sg) := by
    rw [w64_id (by omega), show ((W.length : Nat) : Int) - 1 = ((L.length + 1 + 1 : Nat) : Int) by omega]
    refine gx_get ?_
    rw [← hW, List.getElem?_cons_succ, List.getElem?_append_right (by simp)]
    simp
  have gc : cutl W 1 (w64 (((W.length : Nat) : Int) - 2)) = some (L.map tx) := by
    rw [w64_id (by omega), cutl_in (by omega) (by omega) (by omega)]
    have : (((W.length : Nat) : Int) - 2).toNat = L.length + 1 := by omega
    rw [this, ← hW, List.take_succ_cons]
    have : ((1 : Int)).toNat = 1 := rfl
    rw [this, List.drop_succ_cons, List.drop_zero, List.take_append_of_le_length (by simp), List.take_of_length_le (by simp)]
  have hq1 : seq (str [116, 105, 99, 107, 101, 116]) (str [116, 105, 99, 107, 101, 116]) = true := by decide
  have hq2 : seq (str [58]) (str [58]) = true := by decide
  have h9 : ¬ (((W.length : Nat) : Int) < 9) := by omega
  simp only [Bool.not_true, Bool.false_eq_true, if_false, h9, decide_false, g0, g2, Option.bind_some, hq1, hq2, gc]
  rw [open_loop L [] (fun x hx => by have := hL x hx; omega) (by simp; omega), Option.bind_some]
  dsimp only
  rw [g1, Option.bind_some, num_tx hsg, Option.bind_some]
  simp
/-! keys: the primes, and the number that undoes the other one -/
theorem prime_run (x : Int) (h0 : 2 ≤ x) (hx : x ≤ 40000) : ∀ (n : Nat) (q : Int), 2 ≤ q → q ≤ 1000 → (1000 - q).toNat < n → (∀ d : Nat, 2 ≤ d → (d : Int) < q → x.toNat % d ≠ 0) →
    Fareprime.loop1 x n q = some (.ret false) ∨ ∃ q', Fareprime.loop1 x n q = some (.next q') ∧ 2 ≤ q' ∧ x < q' * q' ∧ ∀ d : Nat, 2 ≤ d → (d : Int) < q' → x.toNat % d ≠ 0
  | 0, _, _, _, h, _ => absurd h (by omega)
  | n + 1, q, h1, h2, h3, hd => by
    have hm : 0 ≤ q * q ∧ q * q ≤ 1000000 := ⟨Int.mul_nonneg (by omega) (by omega), Int.mul_le_mul h2 h2 (by omega) (by omega)⟩
    rw [Fareprime.loop1, w64_id (by omega), w64_id (by omega)]
    by_cases hl : q * q ≤ x
    · have hr : rm x q = some (x % q) := by unfold rm; rw [if_neg (by omega), Int.tmod_eq_emod_of_nonneg (by omega)]
      rw [if_pos (by simpa using hl), hr, Option.bind_some]
      by_cases hz : x % q = 0
      · left; rw [if_pos (by simpa using hz)]
      · rw [if_neg (by simpa using hz)]
        have hq : q < 1000 := by
          by_cases e : q = 1000
          · subst e; omega
          · omega
        refine prime_run x h0 hx n (q + 1) (by omega) (by omega) (by omega) fun d hd2 hdq => ?_
        by_cases e : (d : Int) = q
        · intro hh
          apply hz
          have : ((x.toNat % d : Nat) : Int) = x % q := by rw [Int.natCast_emod, Int.toNat_of_nonneg (by omega), e]
          rw [← this, hh]; rfl
        · exact hd d hd2 (by omega)
    · right
      rw [if_neg (by simpa using hl)]
      exact ⟨q, rfl, h1, by omega, hd⟩
theorem prime_out {fu : Nat} (hf : 1000 ≤ fu) (x : Int) (h0 : 2 ≤ x) (hx : x ≤ 40000) : ∃ z, Fareprime fu x = some z ∧ (z = true → Prm x.toNat) := by
  unfold Fareprime
  rcases prime_run x h0 hx fu 2 (by omega) (by omega) (by omega) (fun d h1 h2 => by omega) with h | ⟨q', h, hq, hlt, hd⟩
  · exact ⟨false, by rw [h]; rfl, fun hh => Bool.noConfusion hh⟩
  · refine ⟨decide (x > 1), by rw [h]; rfl, fun _ => prm_of (by omega) fun d h1 h2 => hd d h1 ?_⟩
    by_cases hc : (d : Int) < q'
    · exact hc
    · have h3 : q' * q' ≤ (d : Int) * d := Int.mul_le_mul (by omega) (by omega) (by omega) (by omega)
      have h4 : ((d * d : Nat) : Int) ≤ x := by have : ((d * d : Nat) : Int) ≤ ((x.toNat : Nat) : Int) := by exact_mod_cast h2
                                                omega
      rw [Int.natCast_mul] at h4
      omega
theorem euclid (e m : Int) (hm : 0 < m) (hmb : m ≤ 1099511627776) : ∀ (n : Nat) (a b x y X Y : Int), 0 ≤ a → 0 ≤ b → a ≤ m → b ≤ m → 0 ≤ X → 0 ≤ Y → X * b + Y * a = m → ((x = X ∧ y = -Y) ∨ (x = -X ∧ y = Y)) → m ∣ a - x * e → m ∣ b - y * e → b < n →
    ∃ g x' y', Fareinverse.loop1 n a b x y = some (g, 0, x', y') ∧ m ∣ g - x' * e
  | 0, _, b, _, _, _, _, _, hb, _, _, _, _, _, _, _, _, h => absurd h (by omega)
  | n + 1, a, b, x, y, X, Y, ha, hb, ham, hbm, hX, hY, hI, hs, h1, h2, hn => by
    rw [Fareinverse.loop1]
    by_cases h0 : b = 0
    · subst h0
      exact ⟨a, x, y, by simp, h1⟩
    · have hbp : 0 < b := by omega
      have e0 : (b == 0) = false := by simpa using h0
      simp only [gt_iff_lt, hbp, decide_true, if_true, e0, Bool.false_eq_true, if_false]
      have hq0 : 0 ≤ a / b := Int.ediv_nonneg ha hb
      have hqa : a / b ≤ a := Int.ediv_le_self _ ha
      have hdv : dv a b = some (a / b) := by
        unfold dv
        rw [if_neg h0, Int.tdiv_eq_ediv_of_nonneg ha]
        exact congrArg some (IntWalk.i64_in _ ⟨by omega, by omega⟩)
      have hrm : rm a b = some (a % b) := by unfold rm; rw [if_neg h0, Int.tmod_eq_emod_of_nonneg ha]
      rw [hdv]
      simp only [Option.bind_some]
      have a1 := Int.emod_add_mul_ediv a b
      have a2 := Int.emod_nonneg a h0
      have a3 := Int.emod_lt_of_pos a hbp
      have hcomm : b * (a / b) = a / b * b := Int.mul_comm _ _
      generalize hq : a / b = q at *
      generalize hr : a % b = r at *
      have hqb : 0 ≤ q * b := Int.mul_nonneg hq0 hb
      have hqY : 0 ≤ q * Y := Int.mul_nonneg hq0 hY
      have hYr : 0 ≤ Y * r := Int.mul_nonneg hY a2
      have hI2 : Y * r + (X + q * Y) * b = m := by
        have : r = a - q * b := by omega
        subst this
        grind
      have hle : (X + q * Y) ≤ m := by
        have : (X + q * Y) * 1 ≤ (X + q * Y) * b := Int.mul_le_mul_of_nonneg_left (by omega) (by omega)
        omega
      have w1 : w64 (q * b) = q * b := w64_id (by omega)
      have w2 : w64 (a - q * b) = r := by rw [w64_id (by omega)]; omega
      have hqy : q * y = - (q * Y) ∨ q * y = q * Y := by
        rcases hs with ⟨_, e2⟩ | ⟨_, e2⟩
        · left; rw [e2, Int.mul_neg]
        · right; rw [e2]
      have w3 : w64 (q * y) = q * y := w64_id (by omega)
      have hxy : (x - q * y = X + q * Y ∧ y = -Y) ∨ (x - q * y = -(X + q * Y) ∧ y = Y) := by
        rcases hs with ⟨e1, e2⟩ | ⟨e1, e2⟩
        · left; rw [e2, e1, Int.mul_neg]; omega
        · right; rw [e2, e1]; omega
      have w4 : w64 (x - q * y) = x - q * y := w64_id (by omega)
      rw [w1, w2, w3, w4]
      have h3 : m ∣ r - (x - q * y) * e := by
        have e1 : r - (x - q * y) * e = (a - x * e) - q * (b - y * e) := by
          have : r = a - q * b := by omega
          subst this; grind
        rw [e1]
        exact Int.dvd_sub h1 (Int.dvd_trans h2 (Int.dvd_mul_left _ _))
      obtain ⟨g, x', y', r1, r3⟩ := euclid e m hm hmb n b r y (x - q * y) Y (X + q * Y) hb a2 hbm (by omega) hY (by omega) hI2 (by
        rcases hxy with ⟨p1, p2⟩ | ⟨p1, p2⟩
        · exact .inr ⟨p2, p1⟩
        · exact .inl ⟨p2, p1⟩) h2 h3 (by omega)
      exact ⟨g, x', y', r1, r3⟩
theorem key_out {fu : Nat} (hf : 2000000100 ≤ fu) (p q e : Int) : ∃ k er, FareMakeKey fu p q e = some (k, er) ∧ (er ≠ 0 → k = FareKey.mk 0 0 0) ∧
    (er = 0 → ∃ a b t : Nat, Prm a ∧ Prm b ∧ a ≠ b ∧ k.N.toNat = a * b ∧ k.D.toNat * k.E.toNat = 1 + t * ((a - 1) * (b - 1)) ∧ 1018081 ≤ k.N ∧ k.N ≤ 1072497001 ∧ 3 ≤ k.E ∧ k.E ≤ 32749 ∧ 1 ≤ k.D ∧ k.D ≤ k.N - 1) := by
  unfold FareMakeKey
  simp only [bnd_eq]
  by_cases hc : (1009 ≤ p ∧ p ≤ 32749) ∧ (1009 ≤ q ∧ q ≤ 32749) ∧ (3 ≤ e ∧ e ≤ 32749)
  · have e1 : (if (!Farewithin p 1009 32749) = true then true else if (!Farewithin q 1009 32749) = true then true else !Farewithin e 3 32749) = false := by
      simp [within_iff, hc.1, hc.2.1, hc.2.2]
    rw [e1]
    simp only [Bool.false_eq_true, if_false]
    obtain ⟨hp, hq, he⟩ := hc
    obtain ⟨z1, p1, p2⟩ := prime_out (fu := fu) (by omega) p (by omega) (by omega)
    obtain ⟨z2, q1, q2⟩ := prime_out (fu := fu) (by omega) q (by omega) (by omega)
    rw [p1, q1]
    simp only [Option.bind_some]
    cases z1 with
    | false => exact ⟨FareKey.mk 0 0 0, 1, by simp, fun _ => rfl, fun h => by omega⟩
    | true => cases z2 with
    | false => exact ⟨FareKey.mk 0 0 0, 1, by simp, fun _ => rfl, fun h => by omega⟩
    | true =>
    by_cases hpq : p = q
    · exact ⟨FareKey.mk 0 0 0, 1, by simp [hpq], fun _ => rfl, fun h => by omega⟩
    have hne : (p == q) = false := by simpa using hpq
    simp only [Bool.not_true, Bool.false_eq_true, if_false, hne, Option.bind_some]
    have hm : w64 (w64 (p - 1) * w64 (q - 1)) = (p - 1) * (q - 1) := by
      have h1 : 1008 * 1008 ≤ (p - 1) * (q - 1) := Int.mul_le_mul (by omega) (by omega) (by omega) (by omega)
      have h2 : (p - 1) * (q - 1) ≤ 32748 * 32748 := Int.mul_le_mul (by omega) (by omega) (by omega) (by omega)
      rw [w64_id (x := p - 1) (by omega), w64_id (x := q - 1) (by omega), w64_id (by omega)]
    have hm1 : 1008 * 1008 ≤ (p - 1) * (q - 1) := Int.mul_le_mul (by omega) (by omega) (by omega) (by omega)
    have hm2 : (p - 1) * (q - 1) ≤ 32748 * 32748 := Int.mul_le_mul (by omega) (by omega) (by omega) (by omega)
    have hn1 : 1009 * 1009 ≤ p * q := Int.mul_le_mul (by omega) (by omega) (by omega) (by omega)
    have hn2 : p * q ≤ 32749 * 32749 := Int.mul_le_mul (by omega) (by omega) (by omega) (by omega)
    have hmn : (p - 1) * (q - 1) = p * q - p - q + 1 := by grind
    have hmN : ((p.toNat - 1) * (q.toNat - 1) : Nat) = ((p - 1) * (q - 1)).toNat := by
      have h1 : (((p.toNat - 1) * (q.toNat - 1) : Nat) : Int) = (p - 1) * (q - 1) := by
        rw [Int.natCast_mul]
        rw [show ((p.toNat - 1 : Nat) : Int) = p - 1 by omega, show ((q.toNat - 1 : Nat) : Int) = q - 1 by omega]
      omega
    have hpN : (p.toNat * q.toNat : Nat) = (p * q).toNat := by
      have h1 : ((p.toNat * q.toNat : Nat) : Int) = p * q := by
        rw [Int.natCast_mul, Int.toNat_of_nonneg (by omega), Int.toNat_of_nonneg (by omega)]
      omega
    rw [hm, w64_id (x := p * q) (by omega)]
    have hPne : p.toNat ≠ q.toNat := by omega
    have hP := p2 rfl
    have hQ := q2 rfl
    generalize (p - 1) * (q - 1) = m at hm1 hm2 hmn hmN
    generalize p * q = n at hn1 hn2 hmn hpN
    obtain ⟨g, x', y', i1, i3⟩ := euclid e m (by omega) (by omega) fu e m 1 0 1 0 (by omega) (by omega) (by omega) (by omega) (by omega) (by omega) (by omega) (.inl ⟨rfl, rfl⟩) (by simp) (by simp) (by omega)
    have hr : rm e m = some e := by unfold rm; rw [if_neg (by omega), Int.tmod_eq_emod_of_nonneg (by omega), Int.emod_eq_of_lt (by omega) (by omega)]
    unfold Fareinverse
    rw [hr]
    simp only [Option.bind_some, i1]
    by_cases hg : g = 1
    · subst hg
      have n1 : ((1 : Int) != 1) = false := by simp
      have hr1 : rm x' m = some (Int.tmod x' m) := by unfold rm; rw [if_neg (by omega)]
      have ht1 := Int.tmod_lt_of_pos x' (show 0 < m by omega)
      have ht2 := Int.lt_tmod_of_pos x' (show 0 < m by omega)
      have ht3 : m ∣ x' - Int.tmod x' m := ⟨Int.tdiv x' m, by have := Int.tmod_add_mul_tdiv x' m; omega⟩
      have hr2 : rm (Int.tmod x' m + m) m = some ((Int.tmod x' m + m) % m) := by unfold rm; rw [if_neg (by omega), Int.tmod_eq_emod_of_nonneg (by omega)]
      simp only [n1, Bool.false_eq_true, if_false, hr1, Option.bind_some]
      rw [w64_id (x := Int.tmod x' m + m) (by omega), hr2]
      simp only [Option.bind_some, Bool.not_true, Bool.false_eq_true, if_false]
      generalize hd : (Int.tmod x' m + m) % m = d
      have d1 : 0 ≤ d := by rw [← hd]; exact Int.emod_nonneg _ (by omega)
      have d2 : d < m := by rw [← hd]; exact Int.emod_lt_of_pos _ (by omega)
      have d3 : m ∣ x' - d := by
        have h1 : m ∣ (Int.tmod x' m + m) - d := ⟨(Int.tmod x' m + m) / m, by have := Int.emod_add_mul_ediv (Int.tmod x' m + m) m; omega⟩
        have h2 : x' - d = (x' - Int.tmod x' m) + ((Int.tmod x' m + m) - d) - m := by omega
        rw [h2]
        exact Int.dvd_sub (Int.dvd_add ht3 h1) (Int.dvd_refl _)
      have d4 : m ∣ e * d - 1 := by
        have h2 : e * d - 1 = - ((1 - x' * e) + e * (x' - d)) := by grind
        rw [h2]
        exact (Int.dvd_neg).2 (Int.dvd_add i3 (Int.dvd_trans d3 (Int.dvd_mul_left _ _)))
      obtain ⟨k, hk⟩ := d4
      have hcm : m * k = k * m := Int.mul_comm _ _
      have hdk : e * d = k * m + 1 := by omega
      have hd0 : d ≠ 0 := by
        intro h; rw [h, Int.mul_zero] at hdk
        have hk' : k * m = -1 := by omega
        by_cases h0 : 0 ≤ k
        · have := Int.mul_nonneg h0 (show 0 ≤ m by omega); omega
        · have : k * m ≤ (-1) * m := Int.mul_le_mul_of_nonneg_right (by omega) (by omega)
          omega
      have hk0 : 0 ≤ k := by
        by_cases h0 : 0 ≤ k
        · exact h0
        · have h3 : k * m ≤ (-1) * m := Int.mul_le_mul_of_nonneg_right (by omega) (by omega)
          have h4 : 0 ≤ e * d := Int.mul_nonneg (by omega) d1
          omega
      refine ⟨_, 0, rfl, fun h => absurd rfl h, fun _ => ⟨p.toNat, q.toNat, k.toNat, hP, hQ, hPne, ?_, ?_, by show (1018081 : Int) ≤ n; omega, by show n ≤ 1072497001; omega, he.1, he.2, by show 1 ≤ d; omega, by show d ≤ n - 1; omega⟩⟩
      · show n.toNat = _
        rw [hpN]
      · show d.toNat * e.toNat = _
        rw [hmN]
        have h1 : ((d.toNat * e.toNat : Nat) : Int) = e * d := by rw [Int.natCast_mul, Int.toNat_of_nonneg (by omega), Int.toNat_of_nonneg (by omega), Int.mul_comm]
        have h2 : ((k.toNat * m.toNat : Nat) : Int) = k * m := by rw [Int.natCast_mul, Int.toNat_of_nonneg (by omega), Int.toNat_of_nonneg (by omega)]
        omega
    · have n1 : (g != 1) = true := by simpa using hg
      simp only [n1, if_true, Option.bind_some, Bool.not_false]
      exact ⟨_, 1, rfl, fun _ => rfl, fun h => by omega⟩
  · have e1 : (if (!Farewithin p 1009 32749) = true then true else if (!Farewithin q 1009 32749) = true then true else !Farewithin e 3 32749) = true := by
      simp only [within_iff]
      by_cases h1 : 1009 ≤ p ∧ p ≤ 32749
      · by_cases h2 : 1009 ≤ q ∧ q ≤ 32749
        · have h3 : ¬ (3 ≤ e ∧ e ≤ 32749) := fun h => hc ⟨h1, h2, h⟩
          simp [h1, h2, h3]
        · simp [h1, h2]
      · simp [h1]
    rw [e1]
    exact ⟨_, 2, rfl, fun _ => rfl, fun h => by omega⟩
/-! issued, opened -/
/-- a good key -/
structure KeyOk (k : FareKey) (a b t : Nat) : Prop where
  pa : Prm a
  pb : Prm b
  ne : a ≠ b
  n : k.N.toNat = a * b
  de : k.D.toNat * k.E.toNat = 1 + t * ((a - 1) * (b - 1))
  n1 : 1018081 ≤ k.N
  n2 : k.N ≤ 1072497001
  e1 : 3 ≤ k.E
  e2 : k.E ≤ 32749
  d1 : 1 ≤ k.D
  d2 : k.D ≤ k.N - 1
theorem KeyOk.chk {k : FareKey} {a b t : Nat} (h : KeyOk k a b t) : FareKeycheck k true = 0 := by
  obtain ⟨_, _, _, _, _, n1, n2, e1, e2, d1, d2⟩ := h
  unfold FareKeycheck
  rw [w64_id (by omega)]
  simp only [bnd_eq, within_iff]
  simp [n1, n2, e1, e2, d1, d2]
theorem KeyOk.chk2 {k : FareKey} {a b t : Nat} (h : KeyOk k a b t) : FareKeycheck (FareKey.mk k.N k.E 0) false = 0 := by
  obtain ⟨_, _, _, _, _, n1, n2, e1, e2, d1, d2⟩ := h
  unfold FareKeycheck
  simp only [bnd_eq, within_iff]
  simp [n1, n2, e1, e2]
theorem KeyOk.back {k : FareKey} {a b t : Nat} (h : KeyOk k a b t) {z : Int} (z0 : 0 ≤ z) (z1 : z < k.N) : (z ^ k.D.toNat % k.N) ^ k.E.toNat % k.N = z := by
  obtain ⟨pa, pb, ne, hn, de, n1, n2, e1, e2, d1, d2⟩ := h
  have hr := rsa pa pb ne z.toNat k.D.toNat k.E.toNat t de
  rw [← hn] at hr
  have hlt : z.toNat % k.N.toNat = z.toNat := Nat.mod_eq_of_lt (by omega)
  rw [hlt] at hr
  have hc : (((z.toNat ^ k.D.toNat % k.N.toNat) ^ k.E.toNat % k.N.toNat : Nat) : Int) = (z.toNat : Int) := by rw [hr]
  rw [Int.natCast_emod, Int.natCast_pow, Int.natCast_emod, Int.natCast_pow, Int.toNat_of_nonneg z0, Int.toNat_of_nonneg (by omega)] at hc
  exact hc
/-- a ticket as it is issued -/
structure TickOk (t : FareTicket) : Prop where
  chk : FareTicketcheck t = some 0
  no : 0 ≤ t.No ∧ t.No ≤ 999999
  day : 0 ≤ t.Day ∧ t.Day ≤ 6
  st : 0 ≤ t.Start ∧ t.Start ≤ 28800
  en : 0 ≤ t.End ∧ t.End ≤ 28800
  pr : 0 ≤ t.Price ∧ t.Price ≤ 100000
  z1 : 1 ≤ t.Zones.length
  z2 : t.Zones.length ≤ 10
  zs : ∀ x ∈ t.Zones, 0 ≤ x ∧ x ≤ 19
theorem ticket_trip {fu : Nat} (hf : 1060 ≤ fu) {k : FareKey} {a b c : Nat} (hk : KeyOk k a b c) {t : FareTicket} (ht : TickOk t) : ∃ s, FareIssue fu k t = some (s, 0) ∧ FareOpen fu (FareKey.mk k.N k.E 0) s = some (t, 0) := by
  obtain ⟨chk, hno, hday, hst, hen, hpr, hz1, hz2, hzs⟩ := ht
  generalize hL : [t.No, t.Day, t.Start, t.End, t.Price] ++ t.Zones = L
  have hLl : L.length = t.Zones.length + 5 := by rw [← hL]; simp
  have hLb : ∀ x ∈ L, 0 ≤ x ∧ x ≤ 999999 := by
    intro x hx
    rw [← hL] at hx
    rcases List.mem_append.1 hx with hx | hx
    · simp at hx; rcases hx with rfl | rfl | rfl | rfl | rfl <;> omega
    · have := hzs x hx; omega
  have s6 : (str [116, 105, 99, 107, 101, 116]).size = 6 := rfl
  have s3 : (str [32, 58, 32]).size = 3 := rfl
  have s1 : (str [10]).size = 1 := rfl
  obtain ⟨z, z2, z3⟩ := issue_loop L L 0 (str [116, 105, 99, 107, 101, 116]) (List.drop_zero ..) hLb (by omega)
  have htl := tl_len L hLb
  have zsz : z.size = 6 + (tl L).length := by rw [ba_size, z3, List.length_append]; rfl
  have ez : (z ++ str [32, 58, 32]).size = z.size + 3 := by rw [ByteArray.size_append, s3]
  obtain ⟨dg, g1, _, g3, g4⟩ := digest_ok (z ++ str [32, 58, 32]) (by omega)
  have n1 := hk.n1
  have n2 := hk.n2
  have pw := power_ok (fu := fu) (by omega) dg k.D k.N g3 (by have := hk.d1; omega) (by have := hk.d2; omega) (by omega) (by omega)
  have hb := hk.back g3 (by omega)
  have hc1 := hk.chk
  have hc2 := hk.chk2
  generalize hsg : dg ^ k.D.toNat % k.N = sg at pw hb
  have sg0 : 0 ≤ sg := by rw [← hsg]; exact Int.emod_nonneg _ (by omega)
  have sg1 : sg < k.N := by rw [← hsg]; exact Int.emod_lt_of_pos _ (by omega)
  have h10 : (10 : Nat) ^ (9 + 1) = 10000000000 := by decide
  have hsl := itoa_len 9 sg0 (by rw [h10]; omega)
  have hts : (tx sg).size = (Lib.itoa sg).length := by rw [ba_size, tx_list]
  have e3 : ((z ++ str [32, 58, 32]) ++ tx sg).size = z.size + 3 + (tx sg).size := by rw [ByteArray.size_append, ez]
  have hi : FareIssue fu k t = some ((z ++ str [32, 58, 32] ++ tx sg) ++ str [10], 0) := by
    unfold FareIssue
    rw [hc1, if_neg (by decide), chk, Option.bind_some, if_neg (by decide), apd_lt (by simp; omega), Option.bind_some, hL, z2, Option.bind_some, scat_in (by omega), Option.bind_some]
    unfold FareSign
    rw [hc1, if_neg (by decide), g1, Option.bind_some, pw, Option.bind_some, Option.bind_some]
    dsimp only
    rw [itoa_tx (n := sg) (by omega), Option.bind_some, scat_in (by omega), Option.bind_some, scat_in (by omega), Option.bind_some]
  refine ⟨_, hi, ?_⟩
  generalize hS : (z ++ str [32, 58, 32] ++ tx sg) ++ str [10] = s
  have hd0 : (z ++ str [32, 58, 32]).data.toList = [116, 105, 99, 107, 101, 116] ++ tl L ++ [32, 58] ++ [32] := by
    rw [ByteArray.data_append, Array.toList_append, z3]
    show [116, 105, 99, 107, 101, 116] ++ tl L ++ [32, 58, 32] = _
    simp
  have hd : s.data.toList = [116, 105, 99, 107, 101, 116] ++ tl L ++ [32, 58] ++ 32 :: (Lib.itoa sg ++ [10]) := by
    rw [← hS, ByteArray.data_append, Array.toList_append, ByteArray.data_append, Array.toList_append, hd0, tx_list]
    show _ ++ [10] = _
    simp
  obtain ⟨hsz, ho⟩ := open_text hLb (by omega) (by omega) ⟨sg0, by omega⟩ hd
  generalize hpre : ([116, 105, 99, 107, 101, 116] ++ tl L ++ [32, 58] : List UInt8) = pre at hd hd0
  have hno10 : (32 : UInt8) ∉ Lib.itoa sg ++ [10] := by
    intro hm
    rcases List.mem_append.1 hm with hm | hm
    · exact itoa_no sg0 (.inl (by decide)) hm
    · simp at hm
  have hla := last_ok hd hno10 (by omega) (fu := fu) (by simp; omega)
  have hps : pre.length + 1 ≤ s.size := by rw [ba_size, hd]; simp
  have hcut : scut s 0 (((pre.length : Nat) : Int) + 1) = some (z ++ str [32, 58, 32]) := by
    unfold scut
    rw [if_pos (by omega)]
    congr 1
    refine ba_ext ?_
    rw [hd0, cut_list]
    have : (((pre.length : Nat) : Int) + 1).toNat = pre.length + 1 := by omega
    rw [this]
    show (s.data.toList.take (pre.length + 1)).drop 0 = _
    rw [List.drop_zero, hd, List.take_append, List.take_of_length_le (by omega), show pre.length + 1 - pre.length = 1 by omega]
    rfl
  have hw : Farewithin sg 0 (w64 (k.N - 1)) = true := by rw [w64_id (by omega), within_iff]; simp; omega
  have pv := power_ok (fu := fu) (by omega) sg k.E k.N sg0 (by have := hk.e1; omega) (by have := hk.e2; omega) (by omega) (by omega)
  rw [hb] at pv
  have hv : FareVerify fu (FareKey.mk k.N k.E 0) (z ++ str [32, 58, 32]) sg = some (true, 0) := by
    unfold FareVerify
    rw [hc2, if_neg (by decide)]
    dsimp only
    rw [hw, if_pos rfl, pv, Option.bind_some, g1, Option.bind_some]
    simp
  have q0 : gx L 0 = some t.No := gx_get (k := 0) (by rw [← hL]; rfl)
  have q1 : gx L 1 = some t.Day := gx_get (k := 1) (by rw [← hL]; rfl)
  have q2 : gx L 2 = some t.Start := gx_get (k := 2) (by rw [← hL]; rfl)
  have q3 : gx L 3 = some t.End := gx_get (k := 3) (by rw [← hL]; rfl)
  have q4 : gx L 4 = some t.Price := gx_get (k := 4) (by rw [← hL]; rfl)
  have q5 : cutl L 5 ((L.length : Nat) : Int) = some t.Zones := by
    rw [cutl_in (by omega) (by omega) (by omega)]
    have h1 : (((L.length : Nat) : Int)).toNat = L.length := by omega
    have h2 : ((5 : Int)).toNat = 5 := rfl
    rw [h1, h2, List.take_of_length_le (Nat.le_refl _), ← hL]
    rfl
  unfold FareOpen
  rw [hc2, if_neg (by decide), if_neg (by simp; omega), ho, Option.bind_some]
  dsimp only
  rw [if_neg (by decide), hla, Option.bind_some, w64_id (by omega), hcut, Option.bind_some, hv, Option.bind_some]
  dsimp only
  rw [if_neg (by decide), q0, Option.bind_some, q1, Option.bind_some, q2, Option.bind_some, q3, Option.bind_some, q4, Option.bind_some, q5, Option.bind_some, chk, Option.bind_some]
  rfl
end TB
namespace TC
/-! texts of numbers -/
/-- a number's text -/
def tx (n : Int) : ByteArray := ⟨(Lib.itoa n).toArray⟩
theorem itoa_tx {n : Int} (h : -9223372036854775808 ≤ n ∧ n ≤ 9223372036854775807) : itoa n = some (tx n) := by unfold itoa; rw [if_pos h]; rfl
theorem tx_size {n : Int} (h : -9223372036854775808 ≤ n ∧ n ≤ 9223372036854775807) : (tx n).size ≤ 21 := by
  have := Lib.itoa_length_le n h.1 h.2
  unfold tx
  show ((Lib.itoa n).toArray).size ≤ 21
  simpa using this
theorem scat_in {a b : ByteArray} (h : a.size + b.size ≤ 9223372036854775807) : scat a b = some (a ++ b) := by unfold scat; rw [if_pos h]
theorem sbw_in {y x : ByteArray} (h0 : 0 < x.size) (h : y.size + x.size < 4294967296) : sbw y x = some (y ++ x) := by unfold sbw; rw [if_pos ⟨h0, h⟩]
theorem mget_put (m : List (Int × Bool)) (k j : Int) (v : Bool) : mget (mput m k v) j = if j = k then some v else mget m j := by
  induction m with
  | nil => simp [mput, mget]
  | cons p r ih =>
    obtain ⟨a, b⟩ := p
    simp only [mput]
    by_cases h : k = a
    · subst h
      simp only [beq_self_eq_true, if_true, mget]
      by_cases h2 : j = k <;> simp [h2]
    · have hb : (k == a) = false := by simpa using h
      simp only [hb, Bool.false_eq_true, if_false, mget]
      by_cases h2 : j = a
      · subst h2; have : ¬ j = k := fun e => h e.symm; simp [this]
      · have hb2 : (j == a) = false := by simpa using h2
        simp [hb2, ih]
/-! days: what Text says, what Check says -/
def wi (x : Int) : Bool := Planwithin x 0 999999
theorem form2 : ∀ l, Fishref2TextFault.loop2 l = Planform.loop2 l
  | [] => rfl
  | x :: r => by simp only [Fishref2TextFault.loop2, Planform.loop2, form2 r]
theorem form3 : ∀ l, Fishref2TextFault.loop3 l = Planform.loop3 l
  | [] => rfl
  | x :: r => by simp only [Fishref2TextFault.loop3, Planform.loop3, form3 r]
theorem form4 : ∀ l, Fishref2TextFault.loop4 l = Planform.loop4 l
  | [] => rfl
  | x :: r => by simp only [Fishref2TextFault.loop4, Planform.loop4, form4 r]
theorem form1 : ∀ l, Fishref2TextFault.loop1 l = Planform.loop1 l
  | [] => rfl
  | x :: r => by simp only [Fishref2TextFault.loop1, Planform.loop1, form1 r, form2, form3]

def trainForm (t : ApiTrain) : Prop := 1 ≤ t.Stops.length ∧ t.Stops.length ≤ 8 ∧ t.Legs.length + 1 = t.Stops.length ∧ ∀ g ∈ t.Legs, g.length ≤ 4
def dayForm (d : ApiDay) : Prop := d.Trains.length ≤ 12 ∧ d.Turns.length ≤ 8 ∧ (∀ t ∈ d.Trains, trainForm t) ∧ ∀ g ∈ d.Turns, g.length ≤ 12
theorem form3_out : ∀ l, (Planform.loop3 l = .ret 4) ∨ (Planform.loop3 l = .next () ∧ ∀ g ∈ l, g.length ≤ 4)
  | [] => .inr ⟨rfl, by simp⟩
  | x :: r => by
    rw [Planform.loop3]
    by_cases c : ((x.length : Nat) : Int) > 4
    · rw [if_pos (by simpa using c)]; exact .inl rfl
    · rw [if_neg (by simpa using c)]
      rcases form3_out r with h | ⟨h, k⟩
      · exact .inl h
      · refine .inr ⟨h, ?_⟩
        intro g hg
        rcases List.mem_cons.1 hg with rfl | hg
        · omega
        · exact k g hg
theorem form2_out : ∀ l, (Planform.loop2 l = .ret 1) ∨ (Planform.loop2 l = .next ())
  | [] => .inr rfl
  | x :: r => by
    rw [Planform.loop2]
    split
    · exact .inl rfl
    · exact form2_out r
theorem form4_out : ∀ l, (∃ e, e ≠ 0 ∧ Planform.loop4 l = .ret e) ∨ (Planform.loop4 l = .next () ∧ ∀ g ∈ l, g.length ≤ 12)
  | [] => .inr ⟨rfl, by simp⟩
  | x :: r => by
    rw [Planform.loop4]
    split
    · exact .inl ⟨1, by decide, rfl⟩
    · by_cases c : ((x.length : Nat) : Int) > 12
      · rw [if_pos (by simpa using c)]; exact .inl ⟨4, by decide, rfl⟩
      · rw [if_neg (by simpa using c)]
        rcases form4_out r with h | ⟨h, k⟩
        · exact .inl h
        · refine .inr ⟨h, ?_⟩
          intro g hg
          rcases List.mem_cons.1 hg with rfl | hg
          · omega
          · exact k g hg
theorem form1_out : ∀ l, (∃ e, e ≠ 0 ∧ Planform.loop1 l = .ret e) ∨ (Planform.loop1 l = .next () ∧ ∀ t ∈ l, trainForm t)
  | [] => .inr ⟨rfl, by simp⟩
  | x :: r => by
    rw [Planform.loop1, bnd_eq]
    generalize hq : (if (((x.Stops).length : Int) == 0) = true then true else (((x.Legs).length : Int) != (w64 (((x.Stops).length : Int) - 1)))) = q
    cases q with
    | true => exact .inl ⟨1, by decide, rfl⟩
    | false =>
      rw [if_neg (by decide), bnd_eq]
      rcases form2_out x.Legs with h | h
      · rw [h]; exact .inl ⟨1, by decide, rfl⟩
      · rw [h]
        dsimp only
        by_cases c : ((x.Stops.length : Nat) : Int) > 8
        · rw [if_pos (by simpa using c)]; exact .inl ⟨4, by decide, rfl⟩
        · rw [if_neg (by simpa using c), bnd_eq]
          rcases form3_out x.Legs with h3 | ⟨h3, k3⟩
          · rw [h3]; exact .inl ⟨4, by decide, rfl⟩
          · rw [h3]
            dsimp only
            rcases form1_out r with h1 | ⟨h1, k1⟩
            · exact .inl h1
            · refine .inr ⟨h1, ?_⟩
              intro t ht
              rcases List.mem_cons.1 ht with rfl | ht
              · split at hq
                · cases hq
                · rename_i hz
                  rw [w64_id (by omega)] at hq
                  have hq2 : ((t.Legs.length : Nat) : Int) = ((t.Stops.length : Nat) : Int) - 1 := by simpa using hq
                  have hz2 : ¬ t.Stops.length = 0 := by simpa using hz
                  exact ⟨by omega, by omega, by omega, k3⟩
              · exact k1 t ht
theorem form_out (d : ApiDay) : Planform d ≠ 0 ∨ (Planform d = 0 ∧ dayForm d) := by
  rw [Planform, bnd_eq]
  by_cases c : ((d.Trains.length : Nat) : Int) > 12 ∨ ((d.Turns.length : Nat) : Int) > 8
  · left
    rw [if_pos (by rcases c with c | c <;> simp [c])]; decide
  · have c1 : ¬ ((d.Trains.length : Nat) : Int) > 12 := fun h => c (.inl h)
    have c2 : ¬ ((d.Turns.length : Nat) : Int) > 8 := fun h => c (.inr h)
    rw [if_neg (by simp [c1, c2]), bnd_eq]
    rcases form1_out d.Trains with ⟨e, he, h⟩ | ⟨h, k⟩
    · rw [h]; exact .inl he
    · rw [h]
      dsimp only
      rw [bnd_eq]
      rcases form4_out d.Turns with ⟨e, he, h4⟩ | ⟨h4, k4⟩
      · rw [h4]; exact .inl he
      · rw [h4]; exact .inr ⟨rfl, by omega, by omega, k, k4⟩

/-! the numbers -/
def numS (x : ApiStop) : List Int := [x.Station, x.Track, x.Arr, x.Dep]
def numT (t : ApiTrain) : List (List Int) := [t.No, t.Stock] :: (t.Stops.map numS ++ t.Legs)
theorem num2 : ∀ (l : List ApiStop) (q : List (List Int)), q.length + l.length < 4294967296 → Fishref2numbersIn.loop2 l q = some (q ++ l.map numS)
  | [], q, _ => by simp [Fishref2numbersIn.loop2]
  | x :: r, q, h => by
    simp only [List.length_cons] at h
    rw [Fishref2numbersIn.loop2, apd_lt (by simp; omega), Option.bind_some, num2 r _ (by simp; omega)]
    simp [numS]
theorem num1 : ∀ (l : List ApiTrain) (q : List (List Int)), (∀ t ∈ l, trainForm t) → q.length + 17 * l.length < 4294967296 → Fishref2numbersIn.loop1 l q = some (q ++ l.flatMap numT)
  | [], q, _, _ => by simp [Fishref2numbersIn.loop1]
  | t :: r, q, ht, h => by
    simp only [List.length_cons] at h
    obtain ⟨t1, t2, t3, t4⟩ := ht t (List.mem_cons_self ..)
    rw [Fishref2numbersIn.loop1, apd_lt (by simp; omega), Option.bind_some, num2 _ _ (by simp; omega), Option.bind_some, apd_lt (by simp; omega), Option.bind_some,
      num1 r _ (fun t h => ht t (List.mem_cons_of_mem _ h)) (by simp; omega)]
    simp [numT]
theorem numT_len {t : ApiTrain} (h : trainForm t) : (numT t).length ≤ 16 := by
  obtain ⟨t1, t2, t3, t4⟩ := h
  simp [numT]; omega
theorem num_all {d : ApiDay} (h : dayForm d) : Fishref2numbersIn d = some (d.Trains.flatMap numT ++ d.Turns) := by
  obtain ⟨h1, h2, h3, h4⟩ := h
  have hl : ∀ l : List ApiTrain, (∀ t ∈ l, trainForm t) → (l.flatMap numT).length ≤ 16 * l.length := by
    intro l
    induction l with
    | nil => intro _; simp
    | cons t r ih =>
      intro ht
      have := numT_len (ht t (List.mem_cons_self ..))
      have := ih fun t h => ht t (List.mem_cons_of_mem _ h)
      simp only [List.flatMap_cons, List.length_append, List.length_cons]; omega
  have := hl _ h3
  rw [Fishref2numbersIn, num1 _ _ h3 (by simp; omega), Option.bind_some, List.nil_append, apd_lt (by omega)]
  rfl
theorem num6 : ∀ l : List Int, Fishref2TextFault.loop6 l = if l.all wi then .next () else .ret 2
  | [] => rfl
  | x :: r => by
    rw [Fishref2TextFault.loop6, num6 r]
    show (if (!wi x) = true then _ else _) = _
    cases h : wi x <;> simp [h]
theorem num5 (L : List (List Int)) : ∀ (r : List (List Int)) (k : Nat), L.drop k = r → Fishref2TextFault.loop5 L r.length k = some (if r.all (·.all wi) then .next () else .ret 2)
  | [], k, _ => rfl
  | x :: r, k, hd => by
    obtain ⟨d1, d2, d3⟩ := drop_cons hd
    rw [List.length_cons, Fishref2TextFault.loop5, gx_nat, d2, Option.bind_some, bnd_eq, num6]
    cases h : x.all wi with
    | true => simp [h, num5 L r (k + 1) d3]
    | false => simp [h]

/-! the text -/
theorem flag1 : ∀ (l : List Int) (b : Bool), PlanText_1_v1.loop1 l b = (b && l.all wi)
  | [], b => by simp [PlanText_1_v1.loop1]
  | x :: r, b => by
    rw [PlanText_1_v1.loop1, bnd_eq, flag1 r]
    show ((if b = true then wi x else false) && r.all wi) = _
    cases b <;> simp
theorem sent1 : ∀ (l : List Int) (q : ByteArray), inL inI l → q.size + 22 * l.length < 4294967296 → ∃ z, Plansentence.loop1 l q = some z ∧ z.size ≤ q.size + 22 * l.length
  | [], q, _, _ => ⟨q, rfl, by simp⟩
  | x :: r, q, hi, h => by
    simp only [List.length_cons] at h
    have hx := hi x (List.mem_cons_self ..)
    have hs := tx_size hx
    have s32 : (str [32]).size = 1 := rfl
    have e1 : (str [32] ++ tx x).size = 1 + (tx x).size := by rw [ByteArray.size_append, s32]
    have e4 : (q ++ (str [32] ++ tx x)).size = q.size + (1 + (tx x).size) := by rw [ByteArray.size_append, e1]
    obtain ⟨z, h1, h2⟩ := sent1 r (q ++ (str [32] ++ tx x)) (fun y h => hi y (List.mem_cons_of_mem _ h)) (by omega)
    refine ⟨z, ?_, by simp only [List.length_cons]; omega⟩
    rw [Plansentence.loop1, itoa_tx hx, Option.bind_some, scat_in (by omega), Option.bind_some, scat_in (by omega), Option.bind_some]
    exact h1
theorem sent {l : List Int} {w : ByteArray} (hi : inL inI l) (h : w.size + 22 * l.length < 4294967295) : ∃ z, Plansentence w l = some z ∧ 0 < z.size ∧ z.size ≤ w.size + 22 * l.length + 1 := by
  obtain ⟨z, h1, h2⟩ := sent1 l w hi (by omega)
  have s10 : (str [10]).size = 1 := rfl
  have e : (z ++ str [10]).size = z.size + 1 := by rw [ByteArray.size_append, s10]
  exact ⟨z ++ str [10], by rw [Plansentence, h1, Option.bind_some, scat_in (by omega)]; rfl, by omega, by omega⟩
theorem wr {l : List Int} {w y : ByteArray} {b : Bool} (hi : inL inI l) (hw : w.size ≤ 5) (h : y.size + (22 * l.length + 6) < 4294967295) :
    ∃ z, PlanText_1_v1 w l b y = some (b && l.all wi, z) ∧ z.size ≤ y.size + (22 * l.length + 6) := by
  obtain ⟨z, h1, h2, h3⟩ := sent (w := w) hi (by omega)
  have e : (y ++ z).size = y.size + z.size := ByteArray.size_append
  exact ⟨y ++ z, by rw [PlanText_1_v1, flag1, bnd_eq, h1, Option.bind_some, sbw_in h2 (by omega)]; rfl, by omega⟩
theorem txt2 : ∀ (l : List ApiStop) (y : ByteArray) (b : Bool), inL InApiStop l → y.size + 94 * l.length < 4294967000 →
    ∃ z, PlanText.loop2 l y b = some (z, b && (l.map numS).all (·.all wi)) ∧ z.size ≤ y.size + 94 * l.length
  | [], y, b, _, _ => ⟨y, by simp [PlanText.loop2], by simp⟩
  | x :: r, y, b, hi, h => by
    simp only [List.length_cons] at h
    have hx := hi x (List.mem_cons_self ..)
    obtain ⟨z, h1, h2⟩ := wr (l := numS x) (w := str [115, 116, 111, 112]) (y := y) (b := b) (by
      intro v hv
      simp only [numS, List.mem_cons, List.not_mem_nil, or_false] at hv
      rcases hv with rfl | rfl | rfl | rfl
      · exact hx.1
      · exact hx.2.1
      · exact hx.2.2.1
      · exact hx.2.2.2) (by decide) (by simp [numS]; omega)
    simp only [numS, List.length_cons, List.length_nil] at h2
    obtain ⟨z2, h3, h4⟩ := txt2 r z (b && (numS x).all wi) (fun y h => hi y (List.mem_cons_of_mem _ h)) (by omega)
    refine ⟨z2, ?_, by simp only [List.length_cons]; omega⟩
    rw [PlanText.loop2]
    rw [show [x.Station, x.Track, x.Arr, x.Dep] = numS x from rfl, h1, Option.bind_some]
    dsimp only
    rw [h3, List.map_cons, List.all_cons, Bool.and_assoc]
theorem txt3 (w : ByteArray) (hw : w.size ≤ 5) (F : List (List Int) → ByteArray → Bool → Option (ByteArray × Bool)) (hn : ∀ y b, F [] y b = some (y, b))
    (hc : ∀ x r y b, F (x :: r) y b = (PlanText_1_v1 w x b y).bind fun q => F r q.2 q.1) (m : Nat) (hm : m ≤ 100) : ∀ (l : List (List Int)) (y : ByteArray) (b : Bool), inL (inL inI) l → (∀ g ∈ l, g.length ≤ m) → y.size + (22 * m + 6) * l.length < 4294960000 →
    ∃ z, F l y b = some (z, b && l.all (·.all wi)) ∧ z.size ≤ y.size + (22 * m + 6) * l.length
  | [], y, b, _, _, _ => ⟨y, by simp [hn], by simp⟩
  | x :: r, y, b, hi, hl, h => by
    simp only [List.length_cons, Nat.mul_add, Nat.mul_one] at h
    have hx := hi x (List.mem_cons_self ..)
    have hxl := hl x (List.mem_cons_self ..)
    obtain ⟨z, h1, h2⟩ := wr (l := x) (w := w) (y := y) (b := b) hx hw (by omega)
    obtain ⟨z2, h3, h4⟩ := txt3 w hw F hn hc m hm r z (b && x.all wi) (fun y h => hi y (List.mem_cons_of_mem _ h)) (fun g h => hl g (List.mem_cons_of_mem _ h)) (by omega)
    refine ⟨z2, ?_, by simp only [List.length_cons, Nat.mul_add, Nat.mul_one]; omega⟩
    rw [hc, h1, Option.bind_some]
    dsimp only
    rw [h3, List.all_cons, Bool.and_assoc]
theorem txt1 : ∀ (l : List ApiTrain) (y : ByteArray) (b : Bool), inL InApiTrain l → (∀ t ∈ l, trainForm t) → y.size + 1700 * l.length < 4294900000 →
    ∃ z, PlanText.loop1 l y b = some (z, b && (l.flatMap numT).all (·.all wi)) ∧ z.size ≤ y.size + 1700 * l.length
  | [], y, b, _, _, _ => ⟨y, by simp [PlanText.loop1], by simp⟩
  | t :: r, y, b, hi, hf, h => by
    simp only [List.length_cons] at h
    obtain ⟨i1, i2, i3, i4⟩ := hi t (List.mem_cons_self ..)
    obtain ⟨t1, t2, t3, t4⟩ := hf t (List.mem_cons_self ..)
    obtain ⟨z, h1, h2⟩ := wr (l := [t.No, t.Stock]) (w := str [116, 114, 97, 105, 110]) (y := y) (b := b) (by
      intro v hv
      simp only [List.mem_cons, List.not_mem_nil, or_false] at hv
      rcases hv with rfl | rfl
      · exact i1
      · exact i2) (by decide) (by simp; omega)
    simp only [List.length_cons, List.length_nil] at h2
    obtain ⟨z2, h3, h4⟩ := txt2 t.Stops z (b && [t.No, t.Stock].all wi) i3 (by omega)
    obtain ⟨z3, h5, h6⟩ := txt3 (str [108, 101, 103]) (by decide) PlanText.loop3 (fun _ _ => rfl) (fun _ _ _ _ => rfl) 4 (by omega) t.Legs z2 ((b && [t.No, t.Stock].all wi) && (t.Stops.map numS).all (·.all wi)) i4 t4 (by omega)
    obtain ⟨z4, h7, h8⟩ := txt1 r z3 (((b && [t.No, t.Stock].all wi) && (t.Stops.map numS).all (·.all wi)) && t.Legs.all (·.all wi)) (fun y h => hi y (List.mem_cons_of_mem _ h)) (fun y h => hf y (List.mem_cons_of_mem _ h)) (by omega)
    refine ⟨z4, ?_, by simp only [List.length_cons]; omega⟩
    rw [PlanText.loop1, h1, Option.bind_some]
    dsimp only
    rw [h3, Option.bind_some]
    dsimp only
    rw [h5, Option.bind_some]
    dsimp only
    rw [h7]
    simp only [List.flatMap_cons, numT, List.cons_append, List.all_cons, List.all_append, Bool.and_assoc, List.all_nil]
theorem text_ok {d : ApiDay} (hi : InApiDay d) : ∃ e b, Fishref2TextFault d = some e ∧ PlanText d = some (b, e) ∧ (e = 0 → dayForm d) := by
  rcases form_out d with h | ⟨h, k⟩
  · refine ⟨Planform d, str [], ?_, ?_, fun e => absurd e h⟩
    · revert h
      rw [Fishref2TextFault, Planform]
      simp only [form1, form4, bnd_eq]
      cases (if decide (((d.Trains).length : Int) > 12) = true then true else decide (((d.Turns).length : Int) > 8)) with
      | true => intro _; rfl
      | false =>
        simp only [Bool.false_eq_true, if_false]
        cases Planform.loop1 d.Trains with
        | ret r => intro _; rfl
        | next u =>
          dsimp only
          cases Planform.loop4 d.Turns with
          | ret r => intro _; rfl
          | next u => intro h; exact absurd rfl h
    · rw [PlanText, if_pos (by simpa using h)]
  · obtain ⟨k1, k2, k3, k4⟩ := k
    have hnum := num_all ⟨k1, k2, k3, k4⟩
    obtain ⟨z, h1, h2⟩ := txt1 d.Trains ByteArray.empty true hi.1 k3 (by simp; omega)
    have h2' : z.size ≤ 1700 * d.Trains.length := by simpa using h2
    obtain ⟨z2, h3, h4⟩ := txt3 (str [116, 117, 114, 110]) (by decide) PlanText.loop4 (fun _ _ => rfl) (fun _ _ _ _ => rfl) 12 (by omega) d.Turns z (true && (d.Trains.flatMap numT).all (·.all wi)) hi.2 k4 (by omega)
    have hT : Fishref2TextFault d = some (if (d.Trains.flatMap numT ++ d.Turns).all (·.all wi) then 0 else 2) := by
      have h' := h
      rw [Planform] at h'
      simp only [bnd_eq] at h'
      rw [Fishref2TextFault]
      simp only [form1, form4, bnd_eq]
      cases hc : (if decide (((d.Trains).length : Int) > 12) = true then true else decide (((d.Turns).length : Int) > 8)) with
      | true => rw [hc] at h'; cases h'
      | false =>
        rw [hc] at h'
        simp only [Bool.false_eq_true, if_false] at h' ⊢
        cases hA : Planform.loop1 d.Trains with
        | ret r =>
          rw [hA] at h'
          rcases form1_out d.Trains with ⟨e, he, hh⟩ | ⟨hh, _⟩
          · rw [hA] at hh; injection hh with hh; dsimp only at h'; rw [hh] at h'; exact absurd h' he
          · rw [hA] at hh; cases hh
        | next u =>
          rw [hA] at h'
          dsimp only at h' ⊢
          cases hB : Planform.loop4 d.Turns with
          | ret r =>
            rw [hB] at h'
            rcases form4_out d.Turns with ⟨e, he, hh⟩ | ⟨hh, _⟩
            · rw [hB] at hh; injection hh with hh; dsimp only at h'; rw [hh] at h'; exact absurd h' he
            · rw [hB] at hh; cases hh
          | next u =>
            dsimp only
            rw [hnum, Option.bind_some, num5 _ _ 0 (List.drop_zero), Option.bind_some]
            cases (d.Trains.flatMap numT ++ d.Turns).all (·.all wi) <;> rfl
    refine ⟨_, if (d.Trains.flatMap numT ++ d.Turns).all (·.all wi) then z2 else str [], hT, ?_, fun _ => ⟨k1, k2, k3, k4⟩⟩
    rw [PlanText, if_neg (by simp [h]), h1, Option.bind_some]
    dsimp only
    rw [h3, Option.bind_some]
    dsimp only
    rw [List.all_append]
    cases hA : (d.Trains.flatMap numT).all (·.all wi) <;> cases hB : d.Turns.all (·.all wi) <;> simp [hA, hB]

/-! Check -/
theorem chk2 (t : ApiTrain) : ∀ (l : List ApiStop) (k : Nat), Fishref2GuideFault.loop3 t l k = GuideCheck.loop2 t l k
  | [], _ => rfl
  | x :: r, k => by
    simp only [Fishref2GuideFault.loop3, GuideCheck.loop2, chk2 t r]
    rfl
/-- the stops of a train are in order -/
def stopsOk (l : List ApiStop) : Prop := (∀ x ∈ l, 0 ≤ x.Station ∧ x.Station ≤ 11 ∧ 0 ≤ x.Arr ∧ x.Arr ≤ 28800 ∧ 0 ≤ x.Dep ∧ x.Dep ≤ 28800 ∧ x.Arr ≤ x.Dep) ∧ ∀ k x y, l[k]? = some x → l[k + 1]? = some y → x.Dep < y.Arr
theorem within_iff (x a b : Int) : Guidewithin x a b = true ↔ a ≤ x ∧ x ≤ b := by
  unfold Guidewithin bnd
  by_cases h : x ≥ a <;> simp [h] <;> omega
theorem chk2_out (t : ApiTrain) (hl : t.Stops.length ≤ 9223372036854775807) : ∀ (r : List ApiStop) (k : Nat), t.Stops.drop k = r →
    (∃ e, e ≠ 0 ∧ GuideCheck.loop2 t r k = some (.ret e)) ∨ (GuideCheck.loop2 t r k = some (.next ()) ∧ (∀ x ∈ r, 0 ≤ x.Station ∧ x.Station ≤ 11 ∧ 0 ≤ x.Arr ∧ x.Arr ≤ 28800 ∧ 0 ≤ x.Dep ∧ x.Dep ≤ 28800 ∧ x.Arr ≤ x.Dep) ∧ ∀ j x y, k ≤ j + 1 → t.Stops[j]? = some x → t.Stops[j + 1]? = some y → x.Dep < y.Arr)
  | [], k, hd => .inr ⟨rfl, by simp, fun j x y hj hx hy => by
      have := drop_nil hd
      have := (List.getElem?_eq_some_iff.1 hy).1
      omega⟩
  | x :: r, k, hd => by
    obtain ⟨d1, d2, d3⟩ := drop_cons hd
    rw [GuideCheck.loop2, bnd_eq]
    cases c1 : Guidewithin x.Station 0 11 with
    | false => exact .inl ⟨2, by decide, by simp⟩
    | true =>
      cases c2 : Guidewithin x.Arr 0 28800 with
      | false => exact .inl ⟨2, by decide, by simp⟩
      | true =>
        cases c3 : Guidewithin x.Dep 0 28800 with
        | false => exact .inl ⟨2, by decide, by simp⟩
        | true =>
          have w1 := (within_iff _ _ _).1 c1
          have w2 := (within_iff _ _ _).1 c2
          have w3 := (within_iff _ _ _).1 c3
          simp only [Bool.not_true, Bool.false_eq_true, if_false]
          by_cases c4 : x.Dep < x.Arr
          · exact .inl ⟨5, by decide, by simp [c4]⟩
          · simp only [decide_eq_false c4, Bool.false_eq_true, if_false]
            rcases Nat.eq_zero_or_pos k with c5 | c5
            · subst c5
              simp only [Int.ofNat_eq_natCast, Int.natCast_zero, gt_iff_lt, Int.lt_irrefl, decide_false, Bool.false_eq_true, if_false, Option.bind_some]
              rcases chk2_out t hl r 1 d3 with h | ⟨h, k1, k2⟩
              · exact .inl h
              · refine .inr ⟨h, ?_, fun j a b _ ha hb => k2 j a b (by omega) ha hb⟩
                intro y hy
                rcases List.mem_cons.1 hy with rfl | hy
                · omega
                · exact k1 y hy
            · rw [if_pos (by simpa using c5), gx_prev c5 (by omega) hl, Option.bind_some, Option.bind_some]
              by_cases c6 : x.Arr ≤ (t.Stops[k - 1]'(by omega)).Dep
              · exact .inl ⟨5, by decide, by simp [c6]⟩
              · simp only [decide_eq_false c6, Bool.false_eq_true, if_false]
                rcases chk2_out t hl r (k + 1) d3 with h | ⟨h, k1, k2⟩
                · exact .inl h
                · refine .inr ⟨h, ?_, fun j a b hj ha hb => ?_⟩
                  · intro y hy
                    rcases List.mem_cons.1 hy with rfl | hy
                    · omega
                    · exact k1 y hy
                  · by_cases e : j + 1 = k
                    · subst e
                      rw [d2] at hb
                      injection hb with hb
                      subst hb
                      have : t.Stops[j + 1 - 1]'(by omega) = a := by
                        have := List.getElem?_eq_some_iff.1 ha
                        obtain ⟨_, h2⟩ := this
                        simpa using h2
                      rw [this] at c6
                      omega
                    · exact k2 j a b (by omega) ha hb
theorem chkno (t : ApiTrain) : ∀ l : List ApiTrain, Fishref2GuideFault.loop2 t l = if l.any (·.No == t.No) then .ret 6 else .next ()
  | [] => rfl
  | x :: r => by
    rw [Fishref2GuideFault.loop2, chkno t r]
    cases h : (x.No == t.No) <;> simp [h]
/-- a day that can be read -/
structure DayOk (d : ApiDay) : Prop where
  form : dayForm d
  two : ∀ t ∈ d.Trains, 2 ≤ t.Stops.length
  stops : ∀ t ∈ d.Trains, stopsOk t.Stops
  nos : ∀ t ∈ d.Trains, 1 ≤ t.No ∧ t.No ≤ 9999
  apart : ∀ (i j : Nat) (s t : ApiTrain), i < j → d.Trains[i]? = some s → d.Trains[j]? = some t → s.No ≠ t.No
theorem chk1 (d : ApiDay) (hl : d.Trains.length ≤ 9223372036854775807) (hs : ∀ t ∈ d.Trains, t.Stops.length ≤ 9223372036854775807) : ∀ (r : List ApiTrain) (k : Nat) (q : List (Int × Bool)), d.Trains.drop k = r →
    (∀ n, (mget q n).getD false = (d.Trains.take k).any (·.No == n)) →
    (∃ e, e ≠ 0 ∧ Fishref2GuideFault.loop1 d r k = some (.ret e) ∧ GuideCheck.loop1 r q = some (.ret e)) ∨
    (Fishref2GuideFault.loop1 d r k = some (.next ()) ∧ (∃ q', GuideCheck.loop1 r q = some (.next q')) ∧ (∀ t ∈ r, 2 ≤ t.Stops.length ∧ stopsOk t.Stops ∧ 1 ≤ t.No ∧ t.No ≤ 9999) ∧ ∀ i j s t, i < j → k ≤ j → d.Trains[i]? = some s → d.Trains[j]? = some t → s.No ≠ t.No)
  | [], k, q, hd, _ => .inr ⟨rfl, ⟨q, rfl⟩, by simp, fun i j s t _ hj _ ht => by
      have := drop_nil hd
      have := (List.getElem?_eq_some_iff.1 ht).1
      omega⟩
  | t :: r, k, q, hd, hq => by
    obtain ⟨d1, d2, d3⟩ := drop_cons hd
    have htm : t ∈ d.Trains := List.mem_of_getElem? d2
    rw [Fishref2GuideFault.loop1, GuideCheck.loop1, cutl_in (by omega) (by omega) (by omega), Option.bind_some, bnd_eq, chkno, hq]
    rw [show Fishref2within t.No 1 9999 = Guidewithin t.No 1 9999 from rfl]
    cases c1 : Guidewithin t.No 1 9999 with
    | false => exact .inl ⟨2, by decide, by simp, by simp⟩
    | true =>
      have w1 := (within_iff _ _ _).1 c1
      simp only [Bool.not_true, Bool.false_eq_true, if_false]
      have e0 : List.drop (Int.toNat 0) (List.take (((k : Nat) : Int).toNat) d.Trains) = d.Trains.take k := by simp
      rw [e0]
      cases c2 : (d.Trains.take k).any (·.No == t.No) with
      | true => exact .inl ⟨6, by decide, by simp, by simp⟩
      | false =>
        simp only [Bool.false_eq_true, if_false]
        by_cases c3 : ((t.Stops.length : Nat) : Int) < 2
        · exact .inl ⟨1, by decide, by simp [c3], by simp [c3]⟩
        · simp only [decide_eq_false c3, Bool.false_eq_true, if_false, chk2]
          rcases chk2_out t (hs t htm) t.Stops 0 rfl with ⟨e, he, h⟩ | ⟨h, k1, k2⟩
          · exact .inl ⟨e, he, by rw [h]; rfl, by rw [h]; rfl⟩
          · rw [h, Option.bind_some, Option.bind_some]
            dsimp only
            have hq2 : ∀ n, (mget (mput q t.No true) n).getD false = (d.Trains.take (k + 1)).any (·.No == n) := by
              intro n
              rw [mget_put, List.take_add_one, d2]
              simp only [Option.toList_some, List.any_append, List.any_cons, List.any_nil, Bool.or_false]
              by_cases c : n = t.No
              · subst c; simp
              · have : (t.No == n) = false := by simpa using fun h => c h.symm
                rw [if_neg c, this, Bool.or_false]; exact hq n
            rcases chk1 d hl hs r (k + 1) (mput q t.No true) d3 hq2 with ⟨e, he, h1, h2⟩ | ⟨h1, ⟨q', h2⟩, h3, h4⟩
            · exact .inl ⟨e, he, h1, h2⟩
            · refine .inr ⟨h1, ⟨q', h2⟩, ?_, ?_⟩
              · intro u hu
                rcases List.mem_cons.1 hu with rfl | hu
                · exact ⟨by omega, ⟨k1, fun j x y hx hy => k2 j x y (by omega) hx hy⟩, w1.1, w1.2⟩
                · exact h3 u hu
              · intro i j s u hij hj hi hu
                by_cases e : j = k
                · subst e
                  rw [d2] at hu
                  injection hu with hu
                  subst hu
                  intro e
                  have : (d.Trains.take j).any (·.No == t.No) = true := by
                    rw [List.any_eq_true]
                    refine ⟨s, ?_, by simpa using e⟩
                    apply List.mem_of_getElem? (i := i)
                    rw [List.getElem?_take, if_pos hij]; exact hi
                  rw [this] at c2; cases c2
                · exact h4 i j s u hij (by omega) hi hu
theorem check_ok {d : ApiDay} (hi : InApiDay d) : ∃ e, Fishref2GuideFault d = some e ∧ GuideCheck d = some e ∧ (e = 0 → DayOk d) := by
  obtain ⟨e, b, h1, h2, h3⟩ := text_ok hi
  rw [Fishref2GuideFault, GuideCheck, h1, h2, Option.bind_some, Option.bind_some]
  by_cases c : e = 0
  · subst c
    have hf := h3 rfl
    simp only [bne_self_eq_false, Bool.false_eq_true, if_false]
    rcases chk1 d (by have := hf.1; omega) (fun t ht => by have := (hf.2.2.1 t ht).2.1; omega) d.Trains 0 [] rfl (by simp [mget]) with ⟨e, he, k1, k2⟩ | ⟨k1, ⟨q', k2⟩, k3, k4⟩
    · exact ⟨e, by rw [k1]; rfl, by rw [k2]; rfl, fun h => absurd h he⟩
    · refine ⟨0, by rw [k1]; rfl, by rw [k2]; rfl, fun _ => ⟨hf, fun t ht => (k3 t ht).1, fun t ht => (k3 t ht).2.1, fun t ht => (k3 t ht).2.2, fun i j s t hij hs ht => k4 i j s t hij (by omega) hs ht⟩⟩
  · have : (e != 0) = true := by simpa using c
    simp only [this, if_true]
    exact ⟨e, rfl, rfl, fun h => absurd h c⟩
theorem gx_mem {α : Type} {l : List α} {i : Int} {x : α} (h : gx l i = some x) : x ∈ l := List.mem_of_getElem? (gx_some h).2.2
/-! journeys -/
def validR (d : ApiDay) (p : GuideRide) : Prop := ∃ t a b, gx d.Trains p.Train = some t ∧ gx t.Stops p.On = some a ∧ gx t.Stops p.Off = some b
theorem within_len {x : Int} {n : Nat} (hn : n ≤ 1000) : Guidewithin x 0 (w64 ((n : Int) - 1)) = decide (0 ≤ x ∧ x < n) := by
  rw [w64_id (by omega)]
  cases h : Guidewithin x 0 ((n : Int) - 1) with
  | true => have := (within_iff _ _ _).1 h; exact (decide_eq_true (by omega)).symm
  | false =>
    refine (decide_eq_false ?_).symm
    intro c
    have := (within_iff x 0 ((n : Int) - 1)).2 (by omega)
    rw [h] at this; cases this
theorem jour1 {d : ApiDay} (hd : DayOk d) (j : GuideJourney) (hj : j.Rides.length ≤ 9223372036854775807) (ls : Int) (tm : Bool) : ∀ (r : List GuideRide) (k : Nat), j.Rides.drop k = r → (0 < k → ∃ p, j.Rides[k - 1]? = some p ∧ validR d p) →
    ∃ z, GuideNetjourney.loop1 ⟨d, ls⟩ j tm r k = some z ∧ Fishref2JourneyFault.loop1 d j ls tm r k = some z ∧ (z = .next () → ∀ p ∈ r, validR d p ∧ p.On < p.Off) ∧ ∀ e, z = .ret e → e ≠ 0
  | [], k, _, _ => ⟨_, rfl, rfl, fun _ => by simp, fun _ h => by cases h⟩
  | x :: r, k, hdr, hp => by
    obtain ⟨d1, d2, d3⟩ := drop_cons hdr
    have ht := hd.form.1
    rw [GuideNetjourney.loop1, Fishref2JourneyFault.loop1, bnd_eq, within_len (show d.Trains.length ≤ 1000 by omega)]
    dsimp only
    by_cases c1 : 0 ≤ x.Train ∧ x.Train < d.Trains.length
    · obtain ⟨t, ht1, ht2⟩ := gx_in c1.1 c1.2
      have hs := (hd.form.2.2.1 t ht2).2.1
      have e1 : (if decide (x.Train < 0) = true then true else decide (x.Train ≥ ((d.Trains).length : Int))) = false := by
        rw [if_neg (by simp; omega)]; exact decide_eq_false (by omega)
      have e2 : (!decide (0 ≤ x.Train ∧ x.Train < d.Trains.length)) = false := by rw [decide_eq_true c1]; rfl
      rw [e1, e2]
      simp only [Bool.false_eq_true, if_false, ht1, Option.bind_some, bnd_eq]
      rw [within_len (by omega), within_len (by omega)]
      by_cases c2 : 0 ≤ x.On ∧ x.On < t.Stops.length
      · by_cases c3 : 0 ≤ x.Off ∧ x.Off < t.Stops.length
        · obtain ⟨a, ha1, ha2⟩ := gx_in c2.1 c2.2
          obtain ⟨b, hb1, hb2⟩ := gx_in c3.1 c3.2
          have e3 : (if (!decide (0 ≤ x.On ∧ x.On < t.Stops.length)) = true then true else !decide (0 ≤ x.Off ∧ x.Off < t.Stops.length)) = false := by
            rw [decide_eq_true c2, decide_eq_true c3]; rfl
          have e4 : (if decide (x.On < 0) = true then true else (if decide (x.On ≥ ((t.Stops).length : Int)) = true then true else (if decide (x.Off < 0) = true then true else decide (x.Off ≥ ((t.Stops).length : Int))))) = false := by
            rw [if_neg (by simp; omega), if_neg (by simp; omega), if_neg (by simp; omega)]; exact decide_eq_false (by omega)
          rw [e3, e4]
          simp only [Bool.false_eq_true, if_false]
          by_cases c4 : x.On ≥ x.Off
          · exact ⟨.ret 1, by simp [c4], by simp [c4], (fun h => by cases h), (fun e h => by injection h with h; omega)⟩
          · simp only [decide_eq_false c4, Bool.false_eq_true, if_false]
            have hv : validR d x := ⟨t, a, b, ht1, ha1, hb1⟩
            obtain ⟨z, z1, z2, z3, z4⟩ := jour1 hd j hj ls tm r (k + 1) d3 (fun _ => ⟨x, d2, hv⟩)
            have hz : z = .next () → ∀ p ∈ x :: r, validR d p ∧ p.On < p.Off := by
              intro h p hp
              rcases List.mem_cons.1 hp with rfl | hp
              · exact ⟨hv, by omega⟩
              · exact z3 h p hp
            rcases Nat.eq_zero_or_pos k with c5 | c5
            · subst c5
              simp only [Int.natCast_zero, beq_self_eq_true, if_true]
              exact ⟨z, z1, z2, hz, z4⟩
            · have e5 : (((k : Nat) : Int) == 0) = false := by
                have : ¬ ((k : Nat) : Int) = 0 := by omega
                simpa using this
              rw [e5]
              obtain ⟨p, hp1, t2, a2, b2, hp2, hp3, hp4⟩ := hp c5
              have hpk : j.Rides[k - 1]'(by omega) = p := by
                obtain ⟨_, h⟩ := List.getElem?_eq_some_iff.1 hp1
                exact h
              simp only [Bool.false_eq_true, if_false]
              rw [gx_prev c5 (by omega) hj, hpk]
              simp only [Option.bind_some, hp2, hp4, ha1]
              have f1 : GuideNeton ⟨d, ls⟩ x = some a := by rw [GuideNeton]; simp only [ht1, Option.bind_some, ha1]
              have f2 : GuideNetoff ⟨d, ls⟩ p = some b2 := by rw [GuideNetoff]; simp only [hp2, Option.bind_some, hp4]
              simp only [f1, f2, Option.bind_some]
              have e6 : (x.Train == p.Train) = (p.Train == x.Train) := by rw [Bool.eq_iff_iff, beq_iff_eq, beq_iff_eq]; exact eq_comm
              rw [e6]
              cases c6 : (p.Train == x.Train) with
              | true => exact ⟨.ret 1, by simp, by simp, (fun h => by cases h), (fun e h => by injection h with h; omega)⟩
              | false =>
                simp only [Bool.false_eq_true, if_false]
                rw [Option.bind_some, Option.bind_some]
                cases c7 : (a.Station != b2.Station) with
                | true => exact ⟨.ret 1, by simp, by simp, (fun h => by cases h), (fun e h => by injection h with h; omega)⟩
                | false =>
                  simp only [Bool.false_eq_true, if_false]
                  cases tm with
                  | false => exact ⟨z, z1, z2, hz, z4⟩
                  | true =>
                    simp only [if_true, Option.bind_some]
                    cases c8 : decide (a.Dep < w64 (b2.Arr + ls)) with
                    | true => exact ⟨.ret 13, if_pos rfl, if_pos rfl, (fun h => by cases h), (fun e h => by injection h with h; omega)⟩
                    | false => simp only [Bool.false_eq_true, if_false]; exact ⟨z, z1, z2, hz, z4⟩
        · have e3 : (if (!decide (0 ≤ x.On ∧ x.On < t.Stops.length)) = true then true else !decide (0 ≤ x.Off ∧ x.Off < t.Stops.length)) = true := by
            rw [decide_eq_true c2, decide_eq_false c3]; rfl
          have e4 : (if decide (x.On < 0) = true then true else (if decide (x.On ≥ ((t.Stops).length : Int)) = true then true else (if decide (x.Off < 0) = true then true else decide (x.Off ≥ ((t.Stops).length : Int))))) = true := by
            rw [if_neg (by simp; omega), if_neg (by simp; omega)]
            by_cases c : x.Off < 0
            · rw [if_pos (by simpa using c)]
            · rw [if_neg (by simpa using c)]; exact decide_eq_true (by omega)
          rw [e3, e4]
          exact ⟨.ret 3, by simp, by simp, (fun h => by cases h), (fun e h => by injection h with h; omega)⟩
      · have e3 : (if (!decide (0 ≤ x.On ∧ x.On < t.Stops.length)) = true then true else !decide (0 ≤ x.Off ∧ x.Off < t.Stops.length)) = true := by
          rw [decide_eq_false c2]; rfl
        have e4 : (if decide (x.On < 0) = true then true else (if decide (x.On ≥ ((t.Stops).length : Int)) = true then true else (if decide (x.Off < 0) = true then true else decide (x.Off ≥ ((t.Stops).length : Int))))) = true := by
          by_cases c : x.On < 0
          · rw [if_pos (by simpa using c)]
          · rw [if_neg (by simpa using c), if_pos (by simp; omega)]
        rw [e3, e4]
        exact ⟨.ret 3, by simp, by simp, (fun h => by cases h), (fun e h => by injection h with h; omega)⟩
    · have e1 : (if decide (x.Train < 0) = true then true else decide (x.Train ≥ ((d.Trains).length : Int))) = true := by
        by_cases c : x.Train < 0
        · rw [if_pos (by simpa using c)]
        · rw [if_neg (by simpa using c)]; exact decide_eq_true (by omega)
      rw [e1, decide_eq_false c1]
      exact ⟨.ret 3, by simp, by simp, (fun h => by cases h), (fun e h => by injection h with h; omega)⟩
theorem journey_ok {d : ApiDay} (hd : DayOk d) (j : GuideJourney) (ls : Int) (tm : Bool) (h0 : 0 ≤ ls ∧ ls ≤ 28800) :
    ∃ e, GuideNetjourney ⟨d, ls⟩ j tm = some e ∧ Fishref2JourneyFault d j ls tm = some e ∧ (e = 0 → 1 ≤ j.Rides.length ∧ j.Rides.length ≤ 4 ∧ ∀ p ∈ j.Rides, validR d p ∧ p.On < p.Off) := by
  rw [GuideNetjourney, Fishref2JourneyFault]
  rw [show Fishref2within ls 0 28800 = Guidewithin ls 0 28800 from rfl, (within_iff ls 0 28800).2 h0]
  rw [show Fishref2within ((j.Rides.length : Nat) : Int) 1 4 = Guidewithin ((j.Rides.length : Nat) : Int) 1 4 from rfl]
  cases c : Guidewithin ((j.Rides.length : Nat) : Int) 1 4 with
  | false => exact ⟨4, by simp, by simp, fun h => by cases h⟩
  | true =>
    have w := (within_iff _ _ _).1 c
    simp only [Bool.not_true, Bool.false_eq_true, if_false]
    obtain ⟨z, z1, z2, z3, z4⟩ := jour1 hd j (by omega) ls tm j.Rides 0 (List.drop_zero) (fun h => absurd h (Nat.lt_irrefl 0))
    rw [z1, z2]
    cases z with
    | ret r => exact ⟨r, rfl, rfl, fun h => absurd h (z4 r rfl)⟩
    | next u => exact ⟨0, rfl, rfl, fun _ => ⟨by omega, by omega, z3 rfl⟩⟩
/-! what a journey visits, and when -/
/-- a ride: its train, and the stops at which it begins and ends -/
def Leg (d : ApiDay) (x : GuideRide) (t : ApiTrain) (a b : ApiStop) : Prop := gx d.Trains x.Train = some t ∧ gx t.Stops x.On = some a ∧ gx t.Stops x.Off = some b ∧ x.On < x.Off
theorem Leg.same {d : ApiDay} {x : GuideRide} {t t' : ApiTrain} {a b a' b' : ApiStop} (h : Leg d x t a b) (k : Leg d x t' a' b') : t = t' ∧ a = a' ∧ b = b' := by
  obtain ⟨h1, h2, h3, _⟩ := h
  obtain ⟨k1, k2, k3, _⟩ := k
  obtain rfl := Option.some.inj (h1.symm.trans k1)
  exact ⟨rfl, Option.some.inj (h2.symm.trans k2), Option.some.inj (h3.symm.trans k3)⟩
/-- rides that follow each other, none ahead of T -/
def Chain (d : ApiDay) : Int → List GuideRide → Prop
  | _, [] => True
  | T, x :: r => ∃ t a b, Leg d x t a b ∧ T ≤ a.Dep ∧ Chain d b.Arr r
theorem jour_chain {d : ApiDay} (hd : DayOk d) (j : GuideJourney) (hj : j.Rides.length ≤ 9223372036854775807) : ∀ (r : List GuideRide) (k : Nat) (T : Int), j.Rides.drop k = r → (k = 0 → T ≤ 0) → (0 < k → ∃ p t b, j.Rides[k - 1]? = some p ∧ gx d.Trains p.Train = some t ∧ gx t.Stops p.Off = some b ∧ T = b.Arr) →
    Fishref2JourneyFault.loop1 d j 0 true r k = some (.next ()) → Chain d T r
  | [], _, _, _, _, _, _ => trivial
  | x :: r, k, T, hdr, h0, hp, h => by
    obtain ⟨d1, d2, d3⟩ := drop_cons hdr
    rw [Fishref2JourneyFault.loop1, bnd_eq] at h
    by_cases c1 : (if decide (x.Train < 0) = true then true else decide (x.Train ≥ ((d.Trains).length : Int))) = true
    · rw [if_pos c1] at h; cases h
    rw [if_neg c1] at h
    obtain ⟨t, ht, h⟩ := bindS h
    rw [bnd_eq] at h
    have htm := gx_mem ht
    have hst := hd.stops t htm
    by_cases c2 : (if decide (x.On < 0) = true then true else (if decide (x.On ≥ ((t.Stops).length : Int)) = true then true else (if decide (x.Off < 0) = true then true else decide (x.Off ≥ ((t.Stops).length : Int))))) = true
    · rw [if_pos c2] at h; cases h
    rw [if_neg c2] at h
    have hr : 0 ≤ x.On ∧ x.On < t.Stops.length ∧ 0 ≤ x.Off ∧ x.Off < t.Stops.length := by
      by_cases e1 : x.On < 0
      · exact absurd (by rw [if_pos (by simpa using e1)]) c2
      by_cases e2 : x.On ≥ ((t.Stops).length : Int)
      · exact absurd (by rw [if_neg (by simpa using e1), if_pos (by simpa using e2)]) c2
      by_cases e3 : x.Off < 0
      · exact absurd (by rw [if_neg (by simpa using e1), if_neg (by simpa using e2), if_pos (by simpa using e3)]) c2
      by_cases e4 : x.Off ≥ ((t.Stops).length : Int)
      · exact absurd (by rw [if_neg (by simpa using e1), if_neg (by simpa using e2), if_neg (by simpa using e3)]; simpa using e4) c2
      omega
    by_cases c3 : decide (x.On ≥ x.Off) = true
    · rw [if_pos c3] at h; cases h
    rw [if_neg c3] at h
    have c3 : x.On < x.Off := by simp at c3; omega
    obtain ⟨a, ha, ham⟩ := gx_in (l := t.Stops) hr.1 hr.2.1
    obtain ⟨b, hb, hbm⟩ := gx_in (l := t.Stops) hr.2.2.1 hr.2.2.2
    have hnext : 0 < k + 1 → ∃ p t' b', j.Rides[k + 1 - 1]? = some p ∧ gx d.Trains p.Train = some t' ∧ gx t'.Stops p.Off = some b' ∧ b.Arr = b'.Arr := fun _ => ⟨x, t, b, by rw [show k + 1 - 1 = k by omega]; exact d2, ht, hb, rfl⟩
    have a0 := hst.1 a ham
    by_cases ck : k = 0
    · have e : (((k : Nat) : Int) == 0) = true := by simp [ck]
      rw [if_pos e] at h
      exact ⟨t, a, b, ⟨ht, ha, hb, c3⟩, by have := h0 ck; omega, jour_chain hd j hj r (k + 1) b.Arr d3 (fun hh => by omega) hnext h⟩
    · have e : (((k : Nat) : Int) == 0) = false := by simpa using ck
      rw [if_neg (by rw [e]; decide)] at h
      obtain ⟨p, tp, bp, p1, p2, p3, p4⟩ := hp (by omega)
      have hpk : gx j.Rides (w64 (((k : Nat) : Int) - 1)) = some p := by
        rw [w64_id (by omega), show ((k : Nat) : Int) - 1 = ((k - 1 : Nat) : Int) by omega, gx_nat, p1]
      rw [hpk, Option.bind_some, p2, Option.bind_some, p3, Option.bind_some] at h
      obtain ⟨q, _, h⟩ := bindS h
      cases q with
      | true => simp at h
      | false =>
        rw [if_neg (by decide), if_pos rfl, ha, Option.bind_some, Option.bind_some] at h
        have b0 := (hd.stops tp (gx_mem p2)).1 bp (gx_mem p3)
        rw [w64_id (by omega)] at h
        by_cases c4 : decide (a.Dep < bp.Arr + 0) = true
        · rw [if_pos c4] at h; cases h
        · rw [if_neg c4] at h
          have c4 : bp.Arr ≤ a.Dep := by simp at c4; omega
          exact ⟨t, a, b, ⟨ht, ha, hb, c3⟩, by omega, jour_chain hd j hj r (k + 1) b.Arr d3 (fun hh => by omega) hnext h⟩
theorem stops_up {l : List ApiStop} (h : stopsOk l) : ∀ (n i : Nat) (x y : ApiStop), l[i]? = some x → l[i + n + 1]? = some y → x.Dep < y.Arr
  | 0, i, x, y, hx, hy => h.2 i x y hx hy
  | n + 1, i, x, y, hx, hy => by
    have hl := (List.getElem?_eq_some_iff.1 hy).1
    have hz : l[i + n + 1]? = some (l[i + n + 1]'(by omega)) := List.getElem?_eq_getElem (by omega)
    have h1 := stops_up h n i x _ hx hz
    have h2 := h.2 (i + n + 1) _ y hz hy
    have h3 := h.1 _ (List.getElem_mem (show i + n + 1 < l.length by omega))
    omega
/-- the stops of a ride -/
theorem leg_view {d : ApiDay} (hd : DayOk d) {x : GuideRide} {t : ApiTrain} {a b : ApiStop} (h : Leg d x t a b) : a.Dep ≤ b.Arr ∧ ∃ V, cutl t.Stops x.On (w64 (x.Off + 1)) = some V ∧ V ≠ [] ∧ V.length ≤ 8 ∧ (∀ s ∈ V, 0 ≤ s.Station ∧ s.Station ≤ 11) ∧
    ∀ (k : Nat) s, V[k]? = some s → a.Dep ≤ (if (((k : Nat) : Int) == 0) = true then s.Dep else s.Arr) ∧ (if (((k : Nat) : Int) == 0) = true then s.Dep else s.Arr) ≤ b.Arr := by
  obtain ⟨h1, h2, h3, h4⟩ := h
  have htm := gx_mem h1
  have hst := hd.stops t htm
  have hlen := (hd.form.2.2.1 t htm).2.1
  obtain ⟨a1, a2, a3⟩ := gx_some h2
  obtain ⟨b1, b2, b3⟩ := gx_some h3
  have hab : a.Dep < b.Arr := stops_up hst (x.Off.toNat - x.On.toNat - 1) x.On.toNat a b a3 (by rw [show x.On.toNat + (x.Off.toNat - x.On.toNat - 1) + 1 = x.Off.toNat by omega]; exact b3)
  refine ⟨by omega, (t.Stops.take (x.Off.toNat + 1)).drop x.On.toNat, ?_, ?_⟩
  · rw [w64_id (by omega), cutl_in (by omega) (by omega) (by omega), show (x.Off + 1).toNat = x.Off.toNat + 1 by omega]
  · have hk : ∀ (k : Nat) s, ((t.Stops.take (x.Off.toNat + 1)).drop x.On.toNat)[k]? = some s → x.On.toNat + k ≤ x.Off.toNat ∧ t.Stops[x.On.toNat + k]? = some s := by
      intro k s hs
      rw [List.getElem?_drop] at hs
      have hl := (List.getElem?_eq_some_iff.1 hs).1
      rw [List.length_take] at hl
      refine ⟨by omega, ?_⟩
      rw [List.getElem?_take_of_lt (by omega)] at hs
      exact hs
    refine ⟨?_, ?_, ?_, ?_⟩
    · intro he
      have := congrArg List.length he
      rw [List.length_drop, List.length_take] at this
      simp at this; omega
    · rw [List.length_drop, List.length_take]; omega
    · intro s hs
      have := hst.1 s (List.mem_of_mem_take (List.mem_of_mem_drop hs))
      omega
    · intro k s hs
      obtain ⟨k1, k2⟩ := hk k s hs
      by_cases ck : k = 0
      · subst ck
        rw [if_pos (show (((0 : Nat) : Int) == 0) = true from rfl)]
        rw [Nat.add_zero, a3] at k2
        obtain rfl := Option.some.inj k2
        omega
      · have e : (((k : Nat) : Int) == 0) = false := by simpa using ck
        rw [if_neg (by rw [e]; decide)]
        have u1 := stops_up hst (k - 1) x.On.toNat a s a3 (by rw [show x.On.toNat + (k - 1) + 1 = x.On.toNat + k by omega]; exact k2)
        refine ⟨by omega, ?_⟩
        by_cases ce : x.On.toNat + k = x.Off.toNat
        · rw [ce, b3] at k2
          obtain rfl := Option.some.inj k2
          omega
        · have u2 := stops_up hst (x.Off.toNat - (x.On.toNat + k) - 1) (x.On.toNat + k) s b k2 (by rw [show x.On.toNat + k + (x.Off.toNat - (x.On.toNat + k) - 1) + 1 = x.Off.toNat by omega]; exact b3)
          have := hst.1 s (List.mem_of_getElem? k2)
          omega
theorem chain_span {d : ApiDay} (hd : DayOk d) : ∀ (r : List GuideRide) (T : Int), Chain d T r → r ≠ [] → ∃ L E, (∃ x t a b, r.head? = some x ∧ Leg d x t a b ∧ L = a.Dep) ∧ (∃ x t a b, r.getLast? = some x ∧ Leg d x t a b ∧ E = b.Arr) ∧ T ≤ L ∧ L ≤ E ∧ ∀ x ∈ r, ∃ t a b, Leg d x t a b ∧ L ≤ a.Dep ∧ b.Arr ≤ E
  | [], _, _, h => absurd rfl h
  | [x], T, ⟨t, a, b, hl, ht, _⟩, _ => ⟨a.Dep, b.Arr, ⟨x, t, a, b, rfl, hl, rfl⟩, ⟨x, t, a, b, rfl, hl, rfl⟩, ht, (leg_view hd hl).1, by
      intro y hy
      rw [List.mem_singleton] at hy
      subst hy
      exact ⟨t, a, b, hl, Int.le_refl _, Int.le_refl _⟩⟩
  | x :: y :: r, T, ⟨t, a, b, hl, ht, hc⟩, _ => by
    obtain ⟨L, E, ⟨x1, t1, a1, b1, h1, h2, h3⟩, ⟨x2, t2, a2, b2, g1, g2, g3⟩, h4, h5, h6⟩ := chain_span hd (y :: r) b.Arr hc (by simp)
    have hv := (leg_view hd hl).1
    refine ⟨a.Dep, E, ⟨x, t, a, b, rfl, hl, rfl⟩, ⟨x2, t2, a2, b2, by rw [List.getLast?_cons_cons]; exact g1, g2, g3⟩, ht, by omega, ?_⟩
    intro z hz
    rcases List.mem_cons.1 hz with rfl | hz
    · exact ⟨t, a, b, hl, Int.le_refl _, by omega⟩
    · obtain ⟨t', a', b', k1, k2, k3⟩ := h6 z hz
      exact ⟨t', a', b', k1, by omega, k3⟩
theorem way_stops : ∀ (l : List ApiStop) (q : List Int), q.length + l.length ≤ 1000 → (∀ s ∈ l, 0 ≤ s.Station ∧ s.Station ≤ 11) → ∃ q', FishtopTopTicketed.loop2 l q = some q' ∧ q'.length ≤ q.length + l.length ∧ (∀ z ∈ q, z ∈ q') ∧ (∀ z ∈ q', z ∈ q ∨ (0 ≤ z ∧ z ≤ 11)) ∧ ∀ s ∈ l, s.Station ∈ q'
  | [], q, _, _ => ⟨q, rfl, by simp, fun z h => h, fun z h => .inl h, by simp⟩
  | x :: l, q, hl, hs => by
    simp only [List.length_cons] at hl
    rw [FishtopTopTicketed.loop2]
    have hx := hs x (by simp)
    have hlast : ∃ f, (if (((q.length : Nat) : Int) == 0) = true then some true else ((gx q (w64 (((q.length : Nat) : Int) - 1))).bind fun x149 => some (x149 != x.Station))) = some f ∧ (f = false → x.Station ∈ q) := by
      by_cases c : q.length = 0
      · exact ⟨true, by rw [if_pos (by simpa using c)], fun h => by cases h⟩
      · rw [if_neg (by simpa using c), gx_prev (by omega) (Nat.le_refl _) (by omega)]
        refine ⟨_, rfl, fun h => ?_⟩
        have : q[q.length - 1]'(by omega) = x.Station := by simpa using h
        rw [← this]; exact List.getElem_mem _
    obtain ⟨f, f1, f2⟩ := hlast
    rw [f1, Option.bind_some]
    cases f with
    | true =>
      rw [if_pos rfl, apd_lt (by simp; omega), Option.bind_some, Option.bind_some]
      obtain ⟨q', w1, w2, w3, w4, w5⟩ := way_stops l (q ++ [x.Station]) (by simp; omega) (fun s h => hs s (by simp [h]))
      refine ⟨q', w1, by simp at w2 ⊢; omega, fun z h => w3 z (by simp [h]), fun z h => ?_, fun s h => ?_⟩
      · rcases w4 z h with h | h
        · rcases List.mem_append.1 h with h | h
          · exact .inl h
          · rw [List.mem_singleton] at h; exact .inr (by omega)
        · exact .inr h
      · rcases List.mem_cons.1 h with rfl | h
        · exact w3 _ (by simp)
        · exact w5 s h
    | false =>
      rw [if_neg (by decide), Option.bind_some]
      obtain ⟨q', w1, w2, w3, w4, w5⟩ := way_stops l q (by omega) (fun s h => hs s (by simp [h]))
      refine ⟨q', w1, by simp; omega, w3, w4, fun s h => ?_⟩
      rcases List.mem_cons.1 h with rfl | h
      · exact w3 _ (f2 rfl)
      · exact w5 s h
theorem way_rides {d : ApiDay} (hd : DayOk d) : ∀ (r : List GuideRide) (q : List Int), q.length + 8 * r.length ≤ 900 → (∀ x ∈ r, ∃ t a b, Leg d x t a b) → ∃ q', FishtopTopTicketed.loop1 d r q = some q' ∧ q'.length ≤ q.length + 8 * r.length ∧ (∀ z ∈ q, z ∈ q') ∧ (∀ z ∈ q', z ∈ q ∨ (0 ≤ z ∧ z ≤ 11)) ∧ (r ≠ [] → q' ≠ []) ∧ ∀ x ∈ r, ∀ t V, gx d.Trains x.Train = some t → cutl t.Stops x.On (w64 (x.Off + 1)) = some V → ∀ s ∈ V, s.Station ∈ q'
  | [], q, _, _ => ⟨q, rfl, by simp, fun z h => h, fun z h => .inl h, fun h => absurd rfl h, by simp⟩
  | x :: r, q, hl, hx => by
    simp only [List.length_cons] at hl
    obtain ⟨t, a, b, hleg⟩ := hx x (by simp)
    obtain ⟨_, V, v1, v2, v3, v4, _⟩ := leg_view hd hleg
    obtain ⟨q1, w1, w2, w3, w4, w5⟩ := way_stops V q (by omega) v4
    obtain ⟨q', y1, y2, y3, y4, y5, y6⟩ := way_rides hd r q1 (by omega) (fun z h => hx z (by simp [h]))
    rw [FishtopTopTicketed.loop1, hleg.1, Option.bind_some, v1, Option.bind_some, w1, Option.bind_some]
    refine ⟨q', y1, by simp only [List.length_cons]; omega, fun z h => y3 z (w3 z h), fun z h => ?_, fun _ => ?_, fun z hz t' V' ht' hV' s hs => ?_⟩
    · rcases y4 z h with h | h
      · exact w4 z h
      · exact .inr h
    · obtain ⟨s, S, rfl⟩ := List.exists_cons_of_ne_nil v2
      intro he
      have := y3 _ (w5 s (by simp))
      rw [he] at this; cases this
    · rcases List.mem_cons.1 hz with rfl | hz
      · obtain rfl := Option.some.inj (hleg.1.symm.trans ht')
        obtain rfl := Option.some.inj (v1.symm.trans hV')
        exact y3 _ (w5 s hs)
      · exact y6 z hz t' V' ht' hV' s hs
/-! a list that is sorted and made compact rises -/
theorem mem_isort {l : List Int} {y : Int} : y ∈ isort l ↔ y ∈ l := (List.mergeSort_perm l _).mem_iff
theorem isort_up (l : List Int) : (isort l).Pairwise (· ≤ ·) := by
  have h := List.pairwise_mergeSort (le := fun x y : Int => decide (x ≤ y)) (fun a b c h1 h2 => by simp at h1 h2 ⊢; omega) (fun a b => by simp; omega) l
  exact h.imp fun h => by simpa using h
theorem comp_up {l : List Int} (hs : l.Pairwise (· ≤ ·)) : ∀ m, m ≤ l.length → (Lib.compactUpTo l.toArray m).Pairwise (· < ·) ∧ ∀ x, x ∈ Lib.compactUpTo l.toArray m ↔ x ∈ l.take m
  | 0, _ => by simp [Lib.compactUpTo]
  | m + 1, hm => by
    obtain ⟨h1, h2⟩ := comp_up hs m (by omega)
    have hg : l.toArray[m]! = l[m]'(by omega) := by simp [List.getElem?_eq_getElem (show m < l.length by omega), getElem!_def]
    rw [Lib.compactUpTo_succ, List.take_add_one, List.getElem?_eq_getElem (by omega)]
    by_cases hk : Lib.keeps l.toArray m = true
    · rw [if_pos hk, hg]
      refine ⟨List.pairwise_append.2 ⟨h1, List.pairwise_singleton _ _, fun x hx y hy => ?_⟩, fun x => ?_⟩
      · rw [List.mem_singleton] at hy
        subst hy
        have hx := (h2 x).1 hx
        obtain ⟨i, hi, rfl⟩ := List.mem_iff_getElem.1 hx
        rw [List.length_take] at hi
        rw [List.getElem_take]
        have hp : l.toArray[m - 1]! = l[m - 1]'(by omega) := by simp [List.getElem?_eq_getElem (show m - 1 < l.length by omega), getElem!_def]
        have hne : l[m]'(by omega) ≠ l[m - 1]'(by omega) := by
          intro he
          have := Lib.keeps_neg (d := l.toArray) (m := m) (by omega) (by rw [hg, hp]; exact he)
          rw [this] at hk; cases hk
        have hle1 : l[i]'(by omega) ≤ l[m - 1]'(by omega) := by
          rcases Nat.lt_or_ge i (m - 1) with c | c
          · exact List.pairwise_iff_getElem.1 hs i (m - 1) (by omega) (by omega) c
          · have : i = m - 1 := by omega
            subst this; exact Int.le_refl _
        have hle2 : l[m - 1]'(by omega) ≤ l[m]'(by omega) := List.pairwise_iff_getElem.1 hs (m - 1) m (by omega) (by omega) (by omega)
        omega
      · rw [List.mem_append, List.mem_append, h2]
        simp only [Option.toList_some, List.mem_singleton]
    · rw [if_neg hk, List.append_nil]
      refine ⟨h1, fun x => ?_⟩
      have hm0 : 0 < m := by
        rcases Nat.eq_zero_or_pos m with h | h
        · exact absurd (by rw [h]; exact Lib.keeps_lt_one _ 0 (by omega)) hk
        · exact h
      have hp : l.toArray[m - 1]! = l[m - 1]'(by omega) := by simp [List.getElem?_eq_getElem (show m - 1 < l.length by omega), getElem!_def]
      have he : l[m]'(by omega) = l[m - 1]'(by omega) := by
        by_cases he : l[m]'(by omega) = l[m - 1]'(by omega)
        · exact he
        · exact absurd (Lib.keeps_pos (d := l.toArray) (m := m) (by rw [hg, hp]; exact he)) hk
      have hmem : l[m - 1]'(by omega) ∈ l.take m := List.mem_iff_getElem.2 ⟨m - 1, by rw [List.length_take]; omega, List.getElem_take⟩
      rw [h2]
      simp only [Option.toList_some, List.mem_append, List.mem_singleton]
      constructor
      · exact .inl
      · rintro (h | rfl)
        · exact h
        · rw [he]; exact hmem
theorem zones_of (w : List Int) : (Lib.compact (isort w)).Pairwise (· < ·) ∧ (∀ x, x ∈ Lib.compact (isort w) ↔ x ∈ w) ∧ (Lib.compact (isort w)).length ≤ w.length := by
  obtain ⟨h1, h2⟩ := comp_up (isort_up w) (isort w).length (Nat.le_refl _)
  refine ⟨h1, fun x => ?_, ?_⟩
  · show x ∈ Lib.compactUpTo _ _ ↔ _
    rw [h2, List.take_length, mem_isort]
  · have := Lib.compact_length_le (isort w)
    rw [isort_length] at this; exact this
theorem zones_loop {l : List Int} (hu : l.Pairwise (· < ·)) (hb : ∀ x ∈ l, 0 ≤ x ∧ x ≤ 19) (hl : l.length ≤ 1000) : ∀ (r : List Int) (k : Nat), l.drop k = r → FarecheckZones.loop1 l true r k = some (.next ())
  | [], _, _ => rfl
  | x :: r, k, hd => by
    obtain ⟨d1, d2, d3⟩ := drop_cons hd
    have hx := hb x (List.mem_of_getElem? d2)
    have hw : Farewithin x 0 19 = true := by unfold Farewithin; rw [bnd_eq, if_pos (by simp; omega)]; simp; omega
    rw [FarecheckZones.loop1, hw, if_neg (by decide)]
    have hc : (if decide (((k : Nat) : Int) > 0) = true then ((gx l (w64 (((k : Nat) : Int) - 1))).bind fun x75 => (if (x == x75) = true then some true else (if True then ((gx l (w64 (((k : Nat) : Int) - 1))).bind fun x86 => some (decide (x < x86))) else some false))) else some false) = some false := by
      by_cases c : k = 0
      · rw [if_neg (by simp [c])]
      · rw [if_pos (by simp; omega), gx_prev (by omega) (by omega) (by omega), Option.bind_some, Option.bind_some]
        have h1 := List.pairwise_iff_getElem.1 hu (k - 1) k (by omega) d1 (by omega)
        have h2 : l[k]'d1 = x := by rw [List.getElem?_eq_getElem d1] at d2; exact Option.some.inj d2
        rw [h2] at h1
        rw [if_neg (by simp; omega), if_pos trivial]
        congr 1
        exact decide_eq_false (by omega)
    have hc2 : (if decide (((k : Nat) : Int) > 0) = true then ((gx l (w64 (((k : Nat) : Int) - 1))).bind fun x75 => (if (x == x75) = true then some true else (if true = true then ((gx l (w64 (((k : Nat) : Int) - 1))).bind fun x86 => some (decide (x < x86))) else some false))) else some false) = some false := by simpa using hc
    rw [hc2, Option.bind_some, if_neg (by decide)]
    exact zones_loop hu hb hl r (k + 1) d3
end TC
/-! the law -/
theorem awake_true : FishtopawakeGuide = some true := by kernel_rfl
theorem idx_cont (l : List Int) (x : Int) : SlicesContainsLint l x = decide (x ∈ l) := by
  have key : ∀ (r : List Int) (k : Nat), (SlicesIndexLint.loop1 x r k = .next () ∧ x ∉ r) ∨ (∃ i : Nat, SlicesIndexLint.loop1 x r k = .ret (i : Int) ∧ x ∈ r) := by
    intro r
    induction r with
    | nil => intro k; exact .inl ⟨rfl, by simp⟩
    | cons y r ih =>
      intro k
      rw [SlicesIndexLint.loop1]
      by_cases c : x = y
      · rw [if_pos (by simpa using c)]; exact .inr ⟨k, rfl, by simp [c]⟩
      · rw [if_neg (by simpa using c)]
        rcases ih (k + 1) with ⟨h1, h2⟩ | ⟨i, h1, h2⟩
        · exact .inl ⟨h1, by simp [c, h2]⟩
        · exact .inr ⟨i, h1, by simp [h2]⟩
  unfold SlicesContainsLint SlicesIndexLint
  rcases key l 0 with ⟨h1, h2⟩ | ⟨i, h1, h2⟩
  · rw [h1, bnd_eq, decide_eq_false h2]; rfl
  · rw [h1, bnd_eq, decide_eq_true h2]; show decide ((i : Int) ≥ 0) = true; exact decide_eq_true (by omega)
theorem in_true {x a b : Int} (h : a ≤ x ∧ x ≤ b) : Farewithin x a b = true := by unfold Farewithin; rw [bnd_eq, if_pos (by simp; omega)]; simp; omega
theorem in_false {x a b : Int} (h : ¬ (a ≤ x ∧ x ≤ b)) : Farewithin x a b = false := by
  unfold Farewithin
  rw [bnd_eq]
  by_cases c : a ≤ x
  · rw [if_pos (by simpa using c)]; exact decide_eq_false (by omega)
  · rw [if_neg (by simpa using c)]
/-- what a ticket that opens is worth -/
theorem accept_in {fu : Nat} {k : FareKey} {s : ByteArray} {t : FareTicket} (ho : FareOpen fu k s = some (t, 0)) {at_ zone : Int} (l : List Int) (h : t.Start ≤ at_ ∧ at_ ≤ t.End) (hd : t.Day = 3) :
    FareAccept fu k s 3 at_ zone l = some (if zone ∈ t.Zones then (if t.No ∈ l then 7 else 0) else 9) := by
  have hq : (if (t.Day != 3) = true then true else !(Farewithin at_ t.Start t.End)) = false := by rw [if_neg (by simp [hd]), in_true h]; rfl
  unfold FareAccept
  rw [ho, Option.bind_some, if_neg (show ¬ ((0 : Int) != 0) = true by decide), bnd_eq]
  dsimp only
  rw [hq, if_neg (by decide), idx_cont, idx_cont]
  by_cases c : zone ∈ t.Zones
  · by_cases c2 : t.No ∈ l <;> simp [c, c2]
  · simp [c]
theorem accept_out {fu : Nat} {k : FareKey} {s : ByteArray} {t : FareTicket} (ho : FareOpen fu k s = some (t, 0)) {day at_ zone : Int} (l : List Int) (h : t.Day ≠ day ∨ ¬ (t.Start ≤ at_ ∧ at_ ≤ t.End)) :
    FareAccept fu k s day at_ zone l = some 13 := by
  have hq : (if (t.Day != day) = true then true else !(Farewithin at_ t.Start t.End)) = true := by
    by_cases c : t.Day = day
    · have h2 := h.resolve_left (by simpa using c)
      rw [if_neg (by simpa using c), in_false h2]; rfl
    · rw [if_pos (by simpa using c)]
  unfold FareAccept
  rw [ho, Option.bind_some, if_neg (show ¬ ((0 : Int) != 0) = true by decide), bnd_eq]
  dsimp only
  rw [hq, if_pos rfl]
theorem stops_good {fu : Nat} {q : FareKey × Int} {u : ByteArray × Int} {t : FareTicket} (ho : FareOpen fu (FareKey.mk q.1.N q.1.E 0) u.1 = some (t, 0)) (hd : t.Day = 3) (hn : 0 ≤ t.No ∧ t.No ≤ 999999) : ∀ (l : List ApiStop) (k : Nat),
    (∀ (i : Nat) s, l[i]? = some s → s.Station ∈ t.Zones ∧ t.Start ≤ (if (((k + i : Nat) : Int) == 0) = true then s.Dep else s.Arr) ∧ (if (((k + i : Nat) : Int) == 0) = true then s.Dep else s.Arr) ≤ t.End) →
    FishtopTopTicketed.loop4 t.No fu q u l k = some (.next ())
  | [], _, _ => rfl
  | s :: l, k, h => by
    obtain ⟨h1, h2, h3⟩ := h 0 s rfl
    rw [Nat.add_zero] at h2 h3
    rw [FishtopTopTicketed.loop4, bnd_eq, w64_id (by omega), accept_in ho [t.No + 1] ⟨h2, h3⟩ hd, Option.bind_some, if_pos h1, if_neg (by simp; omega)]
    rw [accept_out ho [] (.inl (by omega)), Option.bind_some, if_neg (show ¬ ((13 : Int) != 13) = true by decide), accept_in ho [t.No] ⟨h2, h3⟩ hd, Option.bind_some, if_pos h1, if_pos (by simp), Option.bind_some, if_neg (show ¬ ((7 : Int) != 7) = true by decide)]
    refine stops_good ho hd hn l (k + 1) fun i x hx => ?_
    have := h (i + 1) x (by simpa using hx)
    rw [show k + 1 + i = k + (i + 1) by omega]; exact this
theorem rides_good {d : ApiDay} (hd : TC.DayOk d) {fu : Nat} {q : FareKey × Int} {u : ByteArray × Int} {t : FareTicket} (ho : FareOpen fu (FareKey.mk q.1.N q.1.E 0) u.1 = some (t, 0)) (h3 : t.Day = 3) (hn : 0 ≤ t.No ∧ t.No ≤ 999999) : ∀ (r : List GuideRide),
    (∀ x ∈ r, (∃ y a b, TC.Leg d x y a b ∧ t.Start ≤ a.Dep ∧ b.Arr ≤ t.End) ∧ ∀ y V, gx d.Trains x.Train = some y → cutl y.Stops x.On (w64 (x.Off + 1)) = some V → ∀ s ∈ V, s.Station ∈ t.Zones) →
    FishtopTopTicketed.loop3 d t.No fu q u r = some (.next ())
  | [], _ => rfl
  | x :: r, h => by
    obtain ⟨⟨y, a, b, hl, ha, hb⟩, hz⟩ := h x (by simp)
    obtain ⟨_, V, v1, _, _, _, v2⟩ := TC.leg_view hd hl
    rw [FishtopTopTicketed.loop3, hl.1, Option.bind_some, v1, Option.bind_some, stops_good ho h3 hn V 0 (fun i s hs => ?_), Option.bind_some]
    · exact rides_good hd ho h3 hn r fun z hz => h z (by simp [hz])
    · have := v2 i s hs
      rw [Nat.zero_add]
      refine ⟨hz y V hl.1 v1 s (List.mem_of_getElem? hs), ?_, ?_⟩ <;> omega
theorem all_zones {d : ApiDay} {j : GuideJourney} {fu : Nat} {q : FareKey × Int} {u : ByteArray × Int} {t : FareTicket} (ho : FareOpen fu (FareKey.mk q.1.N q.1.E 0) u.1 = some (t, 0)) (hd : t.Day = 3) (hL : Fishref2Leaves d j = some t.Start) (hse : t.Start ≤ t.End) : ∀ (n k : Nat),
    FishtopTopTicketed.loop5 d j fu t.Zones q u n k = some (.next ())
  | 0, _ => rfl
  | n + 1, k => by
    rw [FishtopTopTicketed.loop5, hL, Option.bind_some, accept_in ho [] ⟨Int.le_refl _, hse⟩ hd, Option.bind_some, idx_cont]
    by_cases c : ((k : Nat) : Int) ∈ t.Zones
    · rw [if_pos c, if_neg (by simp [c])]
      exact all_zones ho hd hL hse n (k + 1)
    · rw [if_neg c, if_neg (by simp [c])]
      exact all_zones ho hd hL hse n (k + 1)
theorem tick_ok {t : FareTicket} (hno : 0 ≤ t.No ∧ t.No ≤ 999999) (hday : t.Day = 3) (hst : 0 ≤ t.Start ∧ t.Start ≤ 28800) (hen : 0 ≤ t.End ∧ t.End ≤ 28800) (hse : t.Start ≤ t.End) (hpr : 0 ≤ t.Price ∧ t.Price ≤ 100000) (z1 : 1 ≤ t.Zones.length) (z2 : t.Zones.length ≤ 10)
    (hu : t.Zones.Pairwise (· < ·)) (hz : ∀ x ∈ t.Zones, 0 ≤ x ∧ x ≤ 19) : TB.TickOk t := by
  refine ⟨?_, hno, by omega, hst, hen, hpr, z1, z2, hz⟩
  unfold FareTicketcheck
  rw [bnd_eq, in_true hno, in_true (x := t.Day) (by omega), in_true hst, in_true hen, in_true hpr, in_true (x := ((t.Zones.length : Nat) : Int)) (by omega)]
  have hc : ¬ t.End < t.Start := by omega
  simp only [Bool.not_true, Bool.false_eq_true, if_false, hc, decide_false]
  unfold FarecheckZones
  rw [TC.zones_loop hu hz (by omega) t.Zones 0 rfl]
  rfl
theorem tick_bad {t : FareTicket} (h : ¬ (0 ≤ t.No ∧ t.No ≤ 999999) ∨ ¬ (0 ≤ t.Price ∧ t.Price ≤ 100000)) : FareTicketcheck t = some 2 := by
  unfold FareTicketcheck
  rw [bnd_eq]
  by_cases c1 : 0 ≤ t.No ∧ t.No ≤ 999999
  · have c2 := h.resolve_left (by simpa using c1)
    rw [in_true c1, in_false c2]
    cases Farewithin t.Day 0 6 <;> cases Farewithin t.Start 0 28800 <;> cases Farewithin t.End 0 28800 <;> rfl
  · rw [in_false c1]; rfl
theorem TopTicketed_go (m : Nat) (d : ApiDay) (j : GuideJourney) (x2 : FareTariff) (p q e no age : Int) (i0 : InApiDay d) (hj : j.Rides.length ≤ 9223372036854775807) (hb : x2.Bands.length ≤ 9223372036854775807) (hz : ∀ x ∈ x2.Rules, TA.cL x.If ≤ m + 2000000100 + 60) :
    FishtopTopTicketed (m + 2000000100 + 60) d j x2 p q e no age = some true := by
  unfold FishtopTopTicketed
  rw [awake_true, Option.bind_some, if_neg (by decide)]
  obtain ⟨e0, h1, _, h3⟩ := TC.check_ok i0
  rw [h1, Option.bind_some]
  by_cases c0 : e0 = 0
  rotate_left
  · rw [if_pos (by simpa using c0), Option.bind_some, if_pos rfl]
  subst c0
  have hd := h3 rfl
  rw [if_neg (by decide)]
  obtain ⟨e1, j1, j2, j3⟩ := TC.journey_ok hd j 0 true ⟨by omega, by omega⟩
  rw [j2, Option.bind_some, Option.bind_some]
  by_cases c1 : e1 = 0
  rotate_left
  · rw [if_pos (by simpa using c1)]
  subst c1
  obtain ⟨r1, r2, _⟩ := j3 rfl
  rw [if_neg (by decide)]
  have hne : j.Rides ≠ [] := by intro h; rw [h] at r1; simp at r1
  have hloop : Fishref2JourneyFault.loop1 d j 0 true j.Rides 0 = some (.next ()) := by
    obtain ⟨z, _, z2, _, z4⟩ := TC.jour1 hd j hj 0 true j.Rides 0 (List.drop_zero) (fun h => absurd h (Nat.lt_irrefl 0))
    rw [z2]
    unfold Fishref2JourneyFault at j2
    rw [z2] at j2
    cases z with
    | next u => rfl
    | ret r =>
      exfalso
      have hr := z4 r rfl
      have w1 : Fishref2within 0 0 28800 = true := by decide
      have w2 : Fishref2within ((j.Rides.length : Nat) : Int) 1 4 = true := in_true (by omega)
      rw [w1, w2, if_neg (by decide), if_neg (by decide), Option.bind_some] at j2
      exact hr (Option.some.inj j2)
  have hch := TC.jour_chain hd j hj j.Rides 0 0 (List.drop_zero) (fun _ => Int.le_refl _) (fun h => absurd h (Nat.lt_irrefl 0)) hloop
  obtain ⟨L, E, ⟨xa, ta, aa, ba, f1, f2, f3⟩, ⟨xb, tb, ab, bb, g1, g2, g3⟩, k1, k2, k3⟩ := TC.chain_span hd j.Rides 0 hch hne
  obtain ⟨way, w1, w2, _, w4, w5, w6⟩ := TC.way_rides hd j.Rides [] (by simp; omega) (fun x hx => by obtain ⟨t, a, b, h, _⟩ := k3 x hx; exact ⟨t, a, b, h⟩)
  have hwl : way.length ≤ 32 := by simp at w2; omega
  have hwne := w5 hne
  have hso : SlicesSortedint_v1 way = some (isort way) := by
    unfold SlicesSortedint_v1 SlicesCollectint_v1
    rw [apd_lt (by simp; omega)]
    have hlt : way.length < 4294967296 := by omega
    simp [srt, hlt]
  rw [w1, Option.bind_some, hso, Option.bind_some, bnd_eq]
  obtain ⟨zu, zm, zl⟩ := TC.zones_of way
  generalize Lib.compact (isort way) = zones at zu zm zl
  by_cases c2 : ((way.length : Nat) : Int) > 10
  · rw [if_pos (by simpa using c2)]
  rw [if_neg (by simpa using c2)]
  have hLv : Fishref2Leaves d j = some L := by
    unfold Fishref2Leaves
    have : gx j.Rides 0 = some xa := by rw [gx_zero]; rw [List.head?_eq_getElem?] at f1; exact f1
    rw [this, Option.bind_some, f2.1, Option.bind_some, f2.2.1, Option.bind_some, f3]
  have hAr : Fishref2Arrives d j = some E := by
    unfold Fishref2Arrives
    have : gx j.Rides (w64 (((j.Rides.length : Nat) : Int) - 1)) = some xb := by
      rw [List.getLast?_eq_getElem?] at g1
      rw [w64_id (by omega), show ((j.Rides.length : Nat) : Int) - 1 = ((j.Rides.length - 1 : Nat) : Int) by omega, gx_nat]; exact g1
    rw [this, Option.bind_some, g2.1, Option.bind_some, g2.2.2.1, Option.bind_some, g3]
  have hL0 : 0 ≤ L ∧ L ≤ 28800 := by
    have := (hd.stops ta (TC.gx_mem f2.1)).1 aa (TC.gx_mem f2.2.1); omega
  have hE0 : 0 ≤ E ∧ E ≤ 28800 := by
    have := (hd.stops tb (TC.gx_mem g2.1)).1 bb (TC.gx_mem g2.2.2.1); omega
  rw [hLv, Option.bind_some]
  obtain ⟨pr, pl, pe, p1, p2, p3⟩ := TA.price_outw (fu := m + 2000000100 + 60) x2 (FareTrip.mk 0 L ((way.length : Nat) : Int) age false way) hb (by show way.length ≤ _; omega) hz
  rw [p1, Option.bind_some]
  by_cases c3 : pe = 0
  rotate_left
  · rw [if_pos (by simpa using c3), p2 c3]; rfl
  rw [if_neg (by simpa using c3)]
  obtain ⟨k, er, m1, m2, m3⟩ := TB.key_out (fu := m + 2000000100 + 60) (by omega) p q e
  rw [m1, Option.bind_some]
  by_cases c4 : er = 0
  rotate_left
  · rw [if_pos (by simpa using c4), m2 c4]; rfl
  rw [if_neg (by simpa using c4), Option.bind_some, hAr, Option.bind_some]
  obtain ⟨a, b, tt, o1, o2, o3, o4, o5, o6, o7, o8, o9, o10, o11⟩ := m3 c4
  have hk : TB.KeyOk k a b tt := ⟨o1, o2, o3, o4, o5, o6, o7, o8, o9, o10, o11⟩
  dsimp only
  by_cases c5 : (0 ≤ no ∧ no ≤ 999999) ∧ pr ≤ 100000
  rotate_left
  · have hbad : FareTicketcheck (FareTicket.mk no 3 L E pr zones) = some 2 := tick_bad (by
      by_cases c6 : 0 ≤ no ∧ no ≤ 999999
      · exact .inr (by show ¬ (0 ≤ pr ∧ pr ≤ 100000); omega)
      · exact .inl c6)
    have hi : FareIssue (m + 2000000100 + 60) k (FareTicket.mk no 3 L E pr zones) = some (str [], 2) := by
      unfold FareIssue
      rw [hk.chk, if_neg (by decide), hbad, Option.bind_some, if_pos (by decide)]
    rw [hi, Option.bind_some, if_pos (by decide), bnd_eq]
    by_cases c6 : no < 0
    · rw [if_pos (by simpa using c6)]
    · rw [if_neg (by simpa using c6)]
      by_cases c7 : no > 999999
      · rw [if_pos (by simpa using c7)]
      · rw [if_neg (by simpa using c7)]; congr 1; exact decide_eq_true (by omega)
  have hzin : ∀ x ∈ zones, 0 ≤ x ∧ x ≤ 19 := by
    intro x hx
    rcases w4 x ((zm x).1 hx) with h | h
    · cases h
    · omega
  have hz1 : 1 ≤ zones.length := by
    obtain ⟨y, Y, rfl⟩ := List.exists_cons_of_ne_nil hwne
    have : y ∈ zones := (zm y).2 (by simp)
    exact List.length_pos_of_mem this
  have ht : TB.TickOk (FareTicket.mk no 3 L E pr zones) := tick_ok c5.1 rfl hL0 hE0 k2 ⟨p3, c5.2⟩ hz1 (by show zones.length ≤ 10; omega) zu hzin
  obtain ⟨s, s1, s2⟩ := TB.ticket_trip (fu := m + 2000000100 + 60) (by omega) hk ht
  rw [s1, Option.bind_some, if_neg (show ¬ ((0 : Int) != 0) = true by decide)]
  have hr := rides_good hd (q := (k, er)) (u := (s, 0)) s2 rfl c5.1 j.Rides (fun x hx => ⟨k3 x hx, fun y V hy hV st hst => (zm _).2 (w6 x hx y V hy hV st hst)⟩)
  have hr2 : FishtopTopTicketed.loop3 d no (m + 2000000100 + 60) (k, er) (s, 0) j.Rides = some (.next ()) := hr
  rw [hr2, Option.bind_some]
  dsimp only
  obtain ⟨y, Y, hY⟩ := List.exists_cons_of_ne_nil hwne
  have hg0 : gx way 0 = some y := by rw [hY, gx_zero]; rfl
  have a1 : FareAccept (m + 2000000100 + 60) (FareKey.mk k.N k.E 0) s 3 (w64 (L - 1)) y [] = some 13 := accept_out s2 [] (.inr (by rw [w64_id (by omega)]; show ¬ (L ≤ L - 1 ∧ _); omega))
  have a2 : FareAccept (m + 2000000100 + 60) (FareKey.mk k.N k.E 0) s 3 (w64 (E + 1)) y [] = some 13 := accept_out s2 [] (.inr (by rw [w64_id (by omega)]; show ¬ (_ ∧ E + 1 ≤ E); omega))
  have hz5 : FishtopTopTicketed.loop5 d j (m + 2000000100 + 60) zones (k, er) (s, 0) 20 0 = some (.next ()) := all_zones (q := (k, er)) (u := (s, 0)) s2 rfl hLv k2 20 0
  rw [hg0, Option.bind_some, Option.bind_some, a1, Option.bind_some, if_neg (show ¬ ((13 : Int) != 13) = true by decide), Option.bind_some, a2, Option.bind_some, Option.bind_some, if_neg (by decide), hz5]
  rfl
theorem TopTicketed_law (x0 : ApiDay) (x1 : GuideJourney) (x2 : FareTariff) (x3 x4 x5 x6 x7 : Int) (_ : x0.Trains.length ≤ 9223372036854775807) (_ : x0.Turns.length ≤ 9223372036854775807) (h3 : x1.Rides.length ≤ 9223372036854775807) (h4 : x2.Bands.length ≤ 9223372036854775807) (_ : x2.Rules.length ≤ 9223372036854775807)
    (_ : -9223372036854775808 ≤ x3 ∧ x3 ≤ 9223372036854775807) (_ : -9223372036854775808 ≤ x4 ∧ x4 ≤ 9223372036854775807) (_ : -9223372036854775808 ≤ x5 ∧ x5 ≤ 9223372036854775807) (_ : -9223372036854775808 ≤ x6 ∧ x6 ≤ 9223372036854775807) (_ : -9223372036854775808 ≤ x7 ∧ x7 ≤ 9223372036854775807)
    (i0 : InApiDay x0) (_ : InGuideJourney x1) (_ : InFareTariff x2) : ∃ fu, FishtopTopTicketed fu x0 x1 x2 x3 x4 x5 x6 x7 = some true :=
  ⟨_, TopTicketed_go (TA.cLs (x2.Rules.map (·.If))) x0 x1 x2 x3 x4 x5 x6 x7 i0 h3 h4 fun x hx => Nat.le_trans (TA.cL_mem hx) (by omega)⟩
end Go.Fp
