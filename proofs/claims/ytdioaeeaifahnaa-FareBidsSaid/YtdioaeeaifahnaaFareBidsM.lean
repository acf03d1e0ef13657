/- The mirrors of the functions that FareBids reaches: plain Lean functions on data. No condition. -/
import Derived.Test.YtdioaeeaifahnaaFpCopy
namespace Go.Fp
structure FareBand where
  Upto : Int
  Price : Int
  deriving DecidableEq, Inhabited
-- FareBand is of one size
def FareBand.cells (x : FareBand) : List Go.Value := [.int .i64 x.Upto, .int .i64 x.Price]
def RFareBand : Rd FareBand := fun _ cs x => cs = x.cells
theorem RFareBand.mono : Rmono RFareBand := fun _ _ _ _ _ h => h
theorem RFareBand.one : Rone RFareBand := by intro s cs x h; subst h; rfl

structure FareCond where
  Kind : Int
  A : Int
  B : Int
  Kids : List FareCond
instance : Inhabited FareCond := ⟨⟨0, 0, 0, []⟩⟩
mutual
def szFareCond : FareCond → Nat
  | ⟨_, _, _, k⟩ => szsFareCond k + 1
def szsFareCond : List FareCond → Nat
  | [] => 1
  | x :: r => szFareCond x + szsFareCond r
end
theorem szsFareCond_eq : ∀ l, szsFareCond l = szL szFareCond l
  | [] => rfl
  | x :: r => by rw [szsFareCond, szsFareCond_eq r]; simp only [szL, List.map_cons, List.sum_cons]; omega
def RNFareCond : Nat → Rd FareCond
  | 0 => fun _ _ _ => False
  | n + 1 => fun s cs x => ∃ a0 c0, cs = [.int .i64 x.Kind, .int .i64 x.A, .int .i64 x.B, .slice a0 x.Kids.length c0] ∧ Sl 4 (RNFareCond n) s a0 c0 x.Kids
def RFareCond : Rd FareCond := fun s cs x => ∃ n, RNFareCond n s cs x
theorem RNFareCond.mono : ∀ n, Rmono (RNFareCond n)
  | 0 => fun _ _ _ _ _ h => h.elim
  | n + 1 => fun _ _ h _ _ ⟨a0, c0, e, h0⟩ => ⟨a0, c0, e, h0.mono (RNFareCond.mono n) h⟩
theorem RFareCond.mono : Rmono RFareCond := fun s t h cs x ⟨n, q⟩ => ⟨n, RNFareCond.mono n s t h cs x q⟩
theorem RNFareCond.up : ∀ n s cs x, RNFareCond n s cs x → RNFareCond (n + 1) s cs x
  | 0 => fun _ _ _ h => h.elim
  | n + 1 => fun _ _ _ ⟨a0, c0, e, h0⟩ => ⟨a0, c0, e, h0.impl (RNFareCond.up n)⟩
theorem RFareCond.unf {s : Sg} {cs : List Value} {x : FareCond} (h : RFareCond s cs x) : ∃ a0 c0, cs = [.int .i64 x.Kind, .int .i64 x.A, .int .i64 x.B, .slice a0 x.Kids.length c0] ∧ Sl 4 RFareCond s a0 c0 x.Kids := by
  obtain ⟨n, h⟩ := h
  cases n with
  | zero => exact h.elim
  | succ n => obtain ⟨a0, c0, e, h0⟩ := h; exact ⟨a0, c0, e, h0.impl (fun _ _ _ q => ⟨n, q⟩)⟩
theorem RFareCond.fold {s : Sg} {cs : List Value} {x : FareCond} (h : ∃ a0 c0, cs = [.int .i64 x.Kind, .int .i64 x.A, .int .i64 x.B, .slice a0 x.Kids.length c0] ∧ Sl 4 RFareCond s a0 c0 x.Kids) : RFareCond s cs x := by
  obtain ⟨a0, c0, e, h0⟩ := h
  obtain ⟨n, q⟩ := Sl.level RNFareCond.up h0
  exact ⟨n + 1, a0, c0, e, q⟩
theorem RFareCond.one : Rone RFareCond := by intro s cs x h; obtain ⟨a0, c0, rfl, _⟩ := h.unf; rfl

structure FareOffer where
  From : Int
  To : Int
  Value : Int
  deriving DecidableEq, Inhabited
-- FareOffer is of one size
def FareOffer.cells (x : FareOffer) : List Go.Value := [.int .i64 x.From, .int .i64 x.To, .int .i64 x.Value]
def RFareOffer : Rd FareOffer := fun _ cs x => cs = x.cells
theorem RFareOffer.mono : Rmono RFareOffer := fun _ _ _ _ _ h => h
theorem RFareOffer.one : Rone RFareOffer := by intro s cs x h; subst h; rfl

structure FareRule where
  If : FareCond
  Do : Int
  N : Int
  Stop : Bool
  deriving Inhabited
def szFareRule (x : FareRule) : Nat := szFareCond x.If + 1
def RFareRule : Rd FareRule := fun s cs x => ∃ a0 c0, cs = [.int .i64 x.If.Kind, .int .i64 x.If.A, .int .i64 x.If.B, .slice a0 x.If.Kids.length c0, .int .i64 x.Do, .int .i64 x.N, .bool x.Stop] ∧ Sl 4 RFareCond s a0 c0 x.If.Kids
theorem RFareRule.one : Rone RFareRule := by rintro s cs x ⟨a0, c0, rfl, _⟩; rfl
theorem RFareRule.mono : Rmono RFareRule := fun _ _ h _ _ ⟨a0, c0, e, h0⟩ => ⟨a0, c0, e, h0.mono RFareCond.mono h⟩

structure FareTariff where
  ByKm : Bool
  Bands : List FareBand
  Round : Int
  Rules : List FareRule
  deriving Inhabited
def szFareTariff (x : FareTariff) : Nat := (szL sz1) x.Bands + (szL szFareRule) x.Rules + 1
def RFareTariff : Rd FareTariff := fun s cs x => ∃ a0 c0 a1 c1, cs = [.bool x.ByKm, .slice a0 x.Bands.length c0, .int .i64 x.Round, .slice a1 x.Rules.length c1] ∧ Sl 2 RFareBand s a0 c0 x.Bands ∧ Sl 7 RFareRule s a1 c1 x.Rules
theorem RFareTariff.one : Rone RFareTariff := by rintro s cs x ⟨a0, c0, a1, c1, rfl, _⟩; rfl
theorem RFareTariff.mono : Rmono RFareTariff := fun _ _ h _ _ ⟨a0, c0, a1, c1, e, h0, h1⟩ => ⟨a0, c0, a1, c1, e, h0.mono RFareBand.mono h, h1.mono RFareRule.mono h⟩

structure FareTrip where
  Day : Int
  At : Int
  Km : Int
  Age : Int
  Card : Bool
  Zones : List Int
  deriving DecidableEq, Inhabited
def szFareTrip (x : FareTrip) : Nat := (szL sz1) x.Zones + 1
def RFareTrip : Rd FareTrip := fun s cs x => ∃ a0 c0, cs = [.int .i64 x.Day, .int .i64 x.At, .int .i64 x.Km, .int .i64 x.Age, .bool x.Card, .slice a0 x.Zones.length c0] ∧ Sl 1 (RI .i64) s a0 c0 x.Zones
theorem RFareTrip.one : Rone RFareTrip := by rintro s cs x ⟨a0, c0, rfl, _⟩; rfl
theorem RFareTrip.mono : Rmono RFareTrip := fun _ _ h _ _ ⟨a0, c0, e, h0⟩ => ⟨a0, c0, e, h0.mono RI.mono h⟩
def Farewithin (x0 : Int) (x1 : Int) (x2 : Int) : Bool := (bnd ((if decide (x0 ≥ x1) then decide (x0 ≤ x2) else false) : Bool) fun q55 => q55)
def Farespan (x0 : Int) (x1 : Int) (x2 : Int) : Bool := (bnd ((if decide (x0 ≥ 0) then (if decide (x0 < x1) then decide (x1 < x2) else false) else false) : Bool) fun q55 => q55)
def FarecheckOffers.loop1 (x2 : Int) : (List FareOffer) → Out Int Unit
  | [] => (.next ())
  | x63 :: rest64 => (bnd ((if !(Farespan x63.From x63.To x2) then true else !(Farewithin x63.Value 1 200)) : Bool) fun q81 => (if q81 then (.ret 2) else FarecheckOffers.loop1 x2 rest64))
def FarecheckOffers (x0 : List FareOffer) (x1 : Int) (x2 : Int) : Int := (if decide (((x0).length : Int) > 12) then 4 else (bnd ((if !(Farewithin x1 1 12) then true else !(Farewithin x2 2 12)) : Bool) fun q56 => (if q56 then 2 else (bnd (FarecheckOffers.loop1 x2 x0) fun q61 => match q61 with | .ret r => r | .next () => 0))))
def FareBids_1_v1.loop1 (x0 : List Int) (y1 : Int) : Nat → Int → Option (Out Int Int)
  | 0, _ => none
  | n62 + 1, q66 => (if decide (q66 < y1) then ((gx x0 q66).bind fun x69 => ((gx x0 (w64 (q66 - 1))).bind fun x78 => (if decide (x69 < x78) then some (.ret (-1)) else FareBids_1_v1.loop1 x0 y1 n62 (w64 (q66 + 1))))) else some (.next q66))
def FareBids_1_v1.loop2 (x0 : List Int) : (List FareOffer) → Int → Option Int
  | [], q99 => some q99
  | x91 :: rest92, q99 => ((gx x0 x91.To).bind fun x106 => ((gx x0 x91.From).bind fun x115 => FareBids_1_v1.loop2 x0 rest92 (w64 (q99 + (mx 0 (w64 ((w64 (x91.Value - x106)) + x115)))))))
def FareBids_1_v1 (fu : Nat) (x0 : List Int) (y0 : Int) (y1 : Int) (y2 : List FareOffer) : Option Int := ((gx x0 (w64 (y1 - 1))).bind fun x51 => ((FareBids_1_v1.loop1 x0 y1 fu 1).bind fun q61 => match q61 with | .ret r => some r | .next _ => ((FareBids_1_v1.loop2 x0 y2 (w64 (y0 * x51))).bind fun q99 => some q99)))
def SlicesCloneLint (x0 : List Int) : Option (List Int) := ((apd [] x0).bind fun x56 => some x56)
def FareBids.loop5 (q120 : Int) (x127 : Int) : Nat → Nat → (List Int) → Option (List Int)
  | 0, _, q169 => some q169
  | rest161 + 1, k159, q169 => (((if ((IntKind.wrap .i64 ((BitVec.ofInt (IntKind.bits .i64) (Int.fdiv q120 (2 ^ (min (Int.toNat ((k159 : Nat) : Int)) (IntKind.bits .i64)))) &&& BitVec.ofInt (IntKind.bits .i64) 1).toNat : Int)) == 1) then ((gx q169 ((k159 : Nat) : Int)).bind fun x188 => ((ix q169 ((k159 : Nat) : Int)).bind fun _ => ((sx q169 ((k159 : Nat) : Int) (w64 (x188 + x127))).bind fun x203 => some x203))) else some q169) : Option (List Int)).bind fun q180 => FareBids.loop5 q120 x127 rest161 (k159 + 1) q180)
def FareBids.loop4 (x0 : List FareOffer) (x1 : Int) (x2 : Int) (fu : Nat) (q120 : Int) : (List Int) → (List Int) → Int → Bool → Option ((List Int) × Int × Bool)
  | [], q135, q142, q143 => some (q135, q142, q143)
  | x127 :: rest128, q135, q142, q143 => ((SlicesCloneLint q135).bind fun q145 => ((FareBids.loop5 q120 x127 q145.length 0 q145).bind fun q169 => ((FareBids_1_v1 fu q169 x1 x2 x0).bind fun q208 => (bnd ((if decide (q208 ≥ 0) then decide (q208 < q142) else false) : Bool) fun q218 => (bnd ((if q218 then (q169, q208, true) else (q135, q142, q143)) : (List Int) × Int × Bool) fun q222 => match q222 with | (q225, q232, q233) => FareBids.loop4 x0 x1 x2 fu q120 rest128 q225 q232 q233)))))
def FareBids.loop3 (x0 : List FareOffer) (x1 : Int) (x2 : Int) (fu : Nat) (x71 : Int) : Nat → (List Int) → Int → Bool → Int → Option ((List Int) × Int × Bool × Int)
  | 0, _, _, _, _ => none
  | n107 + 1, q111, q118, q119, q120 => ((nn x2).bind fun _ => (if decide (q120 < (IntKind.wrap .i64 (1 * (2 ^ (min (Int.toNat x2) (IntKind.bits .i64)))))) then ((FareBids.loop4 x0 x1 x2 fu q120 [x71, w64 (0 - x71)] q111 q118 q119).bind fun q125 => match q125 with | (q135, q142, q143) => FareBids.loop3 x0 x1 x2 fu x71 n107 q135 q142 q143 (w64 (q120 + 2))) else some (q111, q118, q119, q120)))
def FareBids.loop2 (x0 : List FareOffer) (x1 : Int) (x2 : Int) (fu : Nat) (x71 : Int) : Nat → (List Int) → Int → Bool → Option ((List Int) × Int × Bool)
  | 0, _, _, _ => none
  | n90 + 1, q94, q101, q102 => (if q102 then ((FareBids.loop3 x0 x1 x2 fu x71 fu q94 q101 false 2).bind fun q106 => match q106 with | (q111, q118, q119, _) => FareBids.loop2 x0 x1 x2 fu x71 n90 q111 q118 q119) else some (q94, q101, q102))
def FareBids.loop1 (x0 : List FareOffer) (x1 : Int) (x2 : Int) (fu : Nat) : (List Int) → (List Int) → Int → Option ((List Int) × Int)
  | [], q79, q86 => some (q79, q86)
  | x71 :: rest72, q79, q86 => ((FareBids.loop2 x0 x1 x2 fu x71 fu q79 q86 true).bind fun q89 => match q89 with | (q94, q101, _) => FareBids.loop1 x0 x1 x2 fu rest72 q94 q101)
def FareBids.loop6 (x2 : Int) (q79 : List Int) : Nat → (List Int) → Int → Option ((List Int) × Int)
  | 0, _, _ => none
  | n239 + 1, q243, q250 => (if decide (q250 < x2) then ((gx q79 q250).bind fun x254 => ((gx q79 (w64 (q250 - 1))).bind fun x264 => ((apd q243 [w64 (x254 - x264)]).bind fun x275 => FareBids.loop6 x2 q79 n239 x275 (w64 (q250 + 1))))) else some (q243, q250))
def FareBids (fu : Nat) (x0 : List FareOffer) (x1 : Int) (x2 : Int) : Option ((List Int) × Int) := (if ((FarecheckOffers x0 x1 x2) != 0) then some ([], (FarecheckOffers x0 x1 x2)) else ((mks x2 (0 : Int)).bind fun x56 => ((FareBids_1_v1 fu x56 x1 x2 x0).bind fun q62 => ((FareBids.loop1 x0 x1 x2 fu [64, 16, 4, 1, 1] x56 q62).bind fun q69 => match q69 with | (q79, _) => ((FareBids.loop6 x2 q79 fu [] 1).bind fun q238 => match q238 with | (q243, _) => some (q243, 0))))))
def Fishref2within (x0 : Int) (x1 : Int) (x2 : Int) : Bool := (bnd ((if decide (x0 ≥ x1) then decide (x0 ≤ x2) else false) : Bool) fun q55 => q55)
def Fishref2OffersFault.loop1 (x2 : Int) : (List FareOffer) → Out Int Unit
  | [] => (.next ())
  | x63 :: rest64 => (bnd ((if decide (x63.From < 0) then true else (if decide (x63.From ≥ x63.To) then true else (if decide (x63.To ≥ x2) then true else !(Fishref2within x63.Value 1 200)))) : Bool) fun q81 => (if q81 then (.ret 2) else Fishref2OffersFault.loop1 x2 rest64))
def Fishref2OffersFault (x0 : List FareOffer) (x1 : Int) (x2 : Int) : Int := (if decide (((x0).length : Int) > 12) then 4 else (bnd ((if !(Fishref2within x1 1 12) then true else !(Fishref2within x2 2 12)) : Bool) fun q56 => (if q56 then 2 else (bnd (Fishref2OffersFault.loop1 x2 x0) fun q61 => match q61 with | .ret r => r | .next () => 0))))
def FareCondsize.loop1 (self_FareCondsize : FareCond → Option (Int × Int)) : (List FareCond) → Int → Int → Option (Int × Int)
  | [], q63, q64 => some (q63, q64)
  | x55 :: rest56, q63, q64 => ((self_FareCondsize x55).bind fun q74 => FareCondsize.loop1 self_FareCondsize rest56 (w64 (q63 + q74.1)) (mx q64 q74.2))
def FareCondsize : Nat → FareCond → Option (Int × Int)
  | 0, _ => none
  | fu + 1, x0 => ((FareCondsize.loop1 (FareCondsize fu) x0.Kids 1 0).bind fun q53 => match q53 with | (q63, q64) => some (q63, w64 (q64 + 1)))
def Farenumbers (x0 : Int) : Int := (bnd ((if (x0 == 2) then (x0 == 2) else (bnd ((if (x0 == 3) then (x0 == 3) else (bnd ((if (x0 == 4) then (x0 == 4) else (x0 == 5)) : Bool) fun q69 => q69)) : Bool) fun q62 => q62)) : Bool) fun q55 => (if q55 then 2 else (bnd ((if (x0 == 6) then (x0 == 6) else (bnd ((if (x0 == 7) then (x0 == 7) else (x0 == 8)) : Bool) fun q84 => q84)) : Bool) fun q77 => (if q77 then 1 else 0))))
def FareCondnode.loop1 (self_FareCondnode : FareCond → Option Int) : (List FareCond) → Option (Out Int Unit)
  | [] => some (.next ())
  | x98 :: rest99 => ((self_FareCondnode x98).bind fun q115 => (if (q115 != 0) then some (.ret q115) else FareCondnode.loop1 self_FareCondnode rest99))
def FareCondnode : Nat → FareCond → Option Int
  | 0, _ => none
  | fu + 1, x0 => (if !(Farewithin x0.Kind 0 11) then some 15 else (bnd ((if !(Farewithin x0.A 0 28800) then true else !(Farewithin x0.B 0 28800)) : Bool) fun q57 => (if q57 then some 2 else (bnd ((if decide ((Farenumbers x0.Kind) < 1) then (if (x0.A != 0) then true else (if decide ((Farenumbers x0.Kind) < 2) then (if (x0.B != 0) then true else (if ((Farenumbers x0.Kind) == 2) then decide (x0.A > x0.B) else false)) else (if ((Farenumbers x0.Kind) == 2) then decide (x0.A > x0.B) else false))) else (if decide ((Farenumbers x0.Kind) < 2) then (if (x0.B != 0) then true else (if ((Farenumbers x0.Kind) == 2) then decide (x0.A > x0.B) else false)) else (if ((Farenumbers x0.Kind) == 2) then decide (x0.A > x0.B) else false))) : Bool) fun q65 => (if q65 then some 1 else (bnd ((if (x0.Kind == 9) then (if (((x0.Kids).length : Int) != 1) then true else (if decide (x0.Kind > 9) then (if decide (((x0.Kids).length : Int) < 2) then true else (if decide (x0.Kind < 9) then decide (((x0.Kids).length : Int) > 0) else false)) else (if decide (x0.Kind < 9) then decide (((x0.Kids).length : Int) > 0) else false))) else (if decide (x0.Kind > 9) then (if decide (((x0.Kids).length : Int) < 2) then true else (if decide (x0.Kind < 9) then decide (((x0.Kids).length : Int) > 0) else false)) else (if decide (x0.Kind < 9) then decide (((x0.Kids).length : Int) > 0) else false))) : Bool) fun q82 => (if q82 then some 1 else ((FareCondnode.loop1 (FareCondnode fu) x0.Kids).bind fun q96 => match q96 with | .ret r => some r | .next () => some 0))))))))
def FareCondcheck (fu : Nat) (x0 : FareCond) : Option Int := ((FareCondsize fu x0).bind fun q52 => (bnd ((if decide (q52.1 > 40) then true else decide (q52.2 > 6)) : Bool) fun q58 => (if q58 then some 4 else ((FareCondnode fu x0).bind fun q62 => some q62))))
def FareCheckTariff.loop1 (x0 : FareTariff) : (List FareBand) → Nat → Option (Out Int Unit)
  | [], _ => some (.next ())
  | x63 :: rest64, k62 => (bnd ((if !(Farewithin x63.Upto 1 1000) then true else !(Farewithin x63.Price 0 100000)) : Bool) fun q81 => (if q81 then some (.ret 2) else (((if decide (((k62 : Nat) : Int) > 0) then ((gx x0.Bands (w64 (((k62 : Nat) : Int) - 1))).bind fun x92 => (if decide (x63.Upto ≤ x92.Upto) then some true else ((gx x0.Bands (w64 (((k62 : Nat) : Int) - 1))).bind fun x102 => some (decide (x63.Price < x102.Price))))) else some false) : Option Bool).bind fun q89 => (if q89 then some (.ret 1) else FareCheckTariff.loop1 x0 rest64 (k62 + 1)))))
def FareCheckTariff.loop2 (fu : Nat) : (List FareRule) → Option (Out Int Unit)
  | [] => some (.next ())
  | x116 :: rest117 => ((FareCondcheck fu x116.If).bind fun q133 => (if (q133 != 0) then some (.ret q133) else (bnd ((if (x116.Do == 1) then 200 else 100000) : Int) fun q140 => (if !(Farewithin x116.Do 1 6) then some (.ret 15) else (if !(Farewithin x116.N 0 q140) then some (.ret 2) else FareCheckTariff.loop2 fu rest117)))))
def FareCheckTariff (fu : Nat) (x0 : FareTariff) : Option Int := (bnd ((if !(Farewithin ((x0.Bands).length : Int) 1 8) then true else decide (((x0.Rules).length : Int) > 20)) : Bool) fun q56 => (if q56 then some 4 else ((FareCheckTariff.loop1 x0 x0.Bands 0).bind fun q61 => match q61 with | .ret r => some r | .next () => (if !(Farewithin x0.Round 1 100) then some 2 else ((FareCheckTariff.loop2 fu x0.Rules).bind fun q114 => match q114 with | .ret r => some r | .next () => some 0)))))
def FarecheckZones.loop1 (x0 : List Int) (x1 : Bool) : (List Int) → Nat → Option (Out Int Unit)
  | [], _ => some (.next ())
  | x54 :: rest55, k53 => (if !(Farewithin x54 0 19) then some (.ret 2) else (((if decide (((k53 : Nat) : Int) > 0) then ((gx x0 (w64 (((k53 : Nat) : Int) - 1))).bind fun x75 => (if (x54 == x75) then some true else (if x1 then ((gx x0 (w64 (((k53 : Nat) : Int) - 1))).bind fun x86 => some (decide (x54 < x86))) else some false))) else some false) : Option Bool).bind fun q72 => (if q72 then some (.ret 1) else FarecheckZones.loop1 x0 x1 rest55 (k53 + 1))))
def FarecheckZones (x0 : List Int) (x1 : Bool) : Option Int := ((FarecheckZones.loop1 x0 x1 x0 0).bind fun q52 => match q52 with | .ret r => some r | .next () => some 0)
def FareCheckTrip (x0 : FareTrip) : Option Int := (bnd ((if !(Farewithin x0.Day 0 6) then true else (if !(Farewithin x0.At 0 28800) then true else (if !(Farewithin x0.Km 0 1000) then true else !(Farewithin x0.Age 0 120)))) : Bool) fun q56 => (if q56 then some 2 else (if !(Farewithin ((x0.Zones).length : Int) 1 10) then some 4 else ((FarecheckZones x0.Zones false).bind fun q63 => some q63))))
def FareTariffprice_1_v1 (x0 : FareBand) (y0 : Int) : Bool := decide (x0.Upto ≥ y0)
def SlicesIndexFuncLfareBand_v1.loop1 (y0 : Int) : (List FareBand) → Nat → Out Int Unit
  | [], _ => (.next ())
  | x54 :: rest55, k53 => (if (FareTariffprice_1_v1 x54 y0) then (.ret ((k53 : Nat) : Int)) else SlicesIndexFuncLfareBand_v1.loop1 y0 rest55 (k53 + 1))
def SlicesIndexFuncLfareBand_v1 (x0 : List FareBand) (y0 : Int) : Int := (bnd (SlicesIndexFuncLfareBand_v1.loop1 y0 x0 0) fun q52 => match q52 with | .ret r => r | .next () => (-1))
def FareCondholds_1_v1 (x0 : Int) (y0 : FareCond) : Bool := (Farewithin x0 y0.A y0.B)
def SlicesIndexLint.loop1 (x1 : Int) : (List Int) → Nat → Out Int Unit
  | [], _ => (.next ())
  | x54 :: rest55, k53 => (if (x1 == x54) then (.ret ((k53 : Nat) : Int)) else SlicesIndexLint.loop1 x1 rest55 (k53 + 1))
def SlicesIndexLint (x0 : List Int) (x1 : Int) : Int := (bnd (SlicesIndexLint.loop1 x1 x0 0) fun q52 => match q52 with | .ret r => r | .next () => (-1))
def SlicesContainsLint (x0 : List Int) (x1 : Int) : Bool := decide ((SlicesIndexLint x0 x1) ≥ 0)
def FareCondholds_2_v1 (self_FareCondholds : FareCond → FareTrip → Option Bool) (x0 : FareCond) (y0 : FareTrip) : Option Bool := ((self_FareCondholds x0 y0).bind fun q52 => some !q52)
def SlicesIndexFuncLfareCond_v1.loop1 (y0 : FareTrip) (self_FareCondholds : FareCond → FareTrip → Option Bool) : (List FareCond) → Nat → Option (Out Int Unit)
  | [], _ => some (.next ())
  | x54 :: rest55, k53 => ((FareCondholds_2_v1 self_FareCondholds x54 y0).bind fun q70 => (if q70 then some (.ret ((k53 : Nat) : Int)) else SlicesIndexFuncLfareCond_v1.loop1 y0 self_FareCondholds rest55 (k53 + 1)))
def SlicesIndexFuncLfareCond_v1 (self_FareCondholds : FareCond → FareTrip → Option Bool) (x0 : List FareCond) (y0 : FareTrip) : Option Int := ((SlicesIndexFuncLfareCond_v1.loop1 y0 self_FareCondholds x0 0).bind fun q52 => match q52 with | .ret r => some r | .next () => some (-1))
def SlicesContainsFuncLfareCond_v1 (self_FareCondholds : FareCond → FareTrip → Option Bool) (x0 : List FareCond) (y0 : FareTrip) : Option Bool := ((SlicesIndexFuncLfareCond_v1 self_FareCondholds x0 y0).bind fun q51 => some (decide (q51 ≥ 0)))
def FareCondholds_3_v1 (self_FareCondholds : FareCond → FareTrip → Option Bool) (x0 : FareCond) (y0 : FareTrip) : Option Bool := ((self_FareCondholds x0 y0).bind fun q52 => some q52)
def SlicesIndexFuncLfareCond_v2.loop1 (y0 : FareTrip) (self_FareCondholds : FareCond → FareTrip → Option Bool) : (List FareCond) → Nat → Option (Out Int Unit)
  | [], _ => some (.next ())
  | x54 :: rest55, k53 => ((FareCondholds_3_v1 self_FareCondholds x54 y0).bind fun q70 => (if q70 then some (.ret ((k53 : Nat) : Int)) else SlicesIndexFuncLfareCond_v2.loop1 y0 self_FareCondholds rest55 (k53 + 1)))
def SlicesIndexFuncLfareCond_v2 (self_FareCondholds : FareCond → FareTrip → Option Bool) (x0 : List FareCond) (y0 : FareTrip) : Option Int := ((SlicesIndexFuncLfareCond_v2.loop1 y0 self_FareCondholds x0 0).bind fun q52 => match q52 with | .ret r => some r | .next () => some (-1))
def SlicesContainsFuncLfareCond_v2 (self_FareCondholds : FareCond → FareTrip → Option Bool) (x0 : List FareCond) (y0 : FareTrip) : Option Bool := ((SlicesIndexFuncLfareCond_v2 self_FareCondholds x0 y0).bind fun q51 => some (decide (q51 ≥ 0)))
def FareCondholds : Nat → FareCond → FareTrip → Option Bool
  | 0, _, _ => none
  | fu + 1, x0, x1 => (if (x0.Kind == 1) then some x1.Card else (if (x0.Kind == 2) then some (FareCondholds_1_v1 x1.Age x0) else (if (x0.Kind == 3) then some (FareCondholds_1_v1 x1.At x0) else (if (x0.Kind == 4) then some (FareCondholds_1_v1 x1.Km x0) else (if (x0.Kind == 5) then some (FareCondholds_1_v1 ((x1.Zones).length : Int) x0) else (if (x0.Kind == 6) then some (SlicesContainsLint x1.Zones x0.A) else (if (x0.Kind == 7) then ((gx x1.Zones 0).bind fun x60 => some (x60 == x0.A)) else (if (x0.Kind == 8) then ((gx x1.Zones (w64 (((x1.Zones).length : Int) - 1))).bind fun x70 => some (x70 == x0.A)) else (if (x0.Kind == 9) then ((gx x0.Kids 0).bind fun x80 => (((FareCondholds fu) x80 x1).bind fun q92 => some !q92)) else (if (x0.Kind == 10) then ((SlicesContainsFuncLfareCond_v1 (FareCondholds fu) x0.Kids x1).bind fun q95 => some !q95) else (if (x0.Kind == 11) then ((SlicesContainsFuncLfareCond_v2 (FareCondholds fu) x0.Kids x1).bind fun q98 => some q98) else some true)))))))))))
def FareRulechange (x0 : FareRule) (x1 : Int) : Int := (if (x0.Do == 1) then mn 100000 (w64 (Int.tdiv (w64 (x1 * x0.N)) 100)) else (if (x0.Do == 2) then mx 0 (w64 (x1 - x0.N)) else (if (x0.Do == 3) then mn 100000 (w64 (x1 + x0.N)) else (if (x0.Do == 4) then x0.N else (if (x0.Do == 5) then mn x1 x0.N else mx x1 x0.N)))))
def FareTariffprice.loop1 (x1 : FareTrip) (fu : Nat) : (List FareRule) → Nat → Int → (List Int) → Option (Int × (List Int))
  | [], _, q89, q90 => some (q89, q90)
  | x81 :: rest82, k80, q89, q90 => ((FareCondholds fu x81.If x1).bind fun q106 => (if !q106 then FareTariffprice.loop1 x1 fu rest82 (k80 + 1) q89 q90 else ((apd q90 [((k80 : Nat) : Int)]).bind fun x110 => (if x81.Stop then some ((FareRulechange x81 q89), x110) else FareTariffprice.loop1 x1 fu rest82 (k80 + 1) (FareRulechange x81 q89) x110))))
def FareTariffprice (fu : Nat) (x0 : FareTariff) (x1 : FareTrip) : Option (Int × (List Int)) := (bnd ((if x0.ByKm then x1.Km else ((x1.Zones).length : Int)) : Int) fun q58 => (bnd ((if decide ((SlicesIndexFuncLfareBand_v1 x0.Bands q58) < 0) then w64 (((x0.Bands).length : Int) - 1) else (SlicesIndexFuncLfareBand_v1 x0.Bands q58)) : Int) fun q65 => ((gx x0.Bands q65).bind fun x68 => ((FareTariffprice.loop1 x1 fu x0.Rules 0 x68.Price []).bind fun q79 => match q79 with | (q89, q90) => ((dv (w64 ((w64 (q89 + x0.Round)) - 1)) x0.Round).bind fun x117 => some (w64 (x117 * x0.Round), q90))))))
def FarePrice (fu : Nat) (x0 : FareTariff) (x1 : FareTrip) : Option (Int × (List Int) × Int) := ((FareCheckTariff fu x0).bind fun q53 => (if (q53 != 0) then some (0, [], q53) else ((FareCheckTrip x1).bind fun q57 => (if (q57 != 0) then some (0, [], q57) else ((FareTariffprice fu x0 x1).bind fun q61 => some (q61.1, q61.2, 0))))))
def SlicesEqualLint.loop1 (x1 : List Int) : (List Int) → Nat → Option (Out Bool Unit)
  | [], _ => some (.next ())
  | x55 :: rest56, k54 => ((gx x1 ((k54 : Nat) : Int)).bind fun x68 => (if (x55 != x68) then some (.ret false) else SlicesEqualLint.loop1 x1 rest56 (k54 + 1)))
def SlicesEqualLint (x0 : List Int) (x1 : List Int) : Option Bool := (if (((x0).length : Int) != ((x1).length : Int)) then some false else ((SlicesEqualLint.loop1 x1 x0 0).bind fun q53 => match q53 with | .ret r => some r | .next () => some true))
def Fishlaw2fares (fu : Nat) : Option Bool := ((FarePrice fu (FareTariff.mk false [(FareBand.mk 3 500)] 50 [(FareRule.mk (FareCond.mk 2 0 14 []) 1 50 false)]) (FareTrip.mk 0 0 0 10 false [1, 2])).bind fun q70 => (((if (q70.2.2 == 0) then (if (q70.1 == 250) then ((SlicesEqualLint q70.2.1 [0]).bind fun q92 => some q92) else some false) else some false) : Option Bool).bind fun q82 => some q82))
def SlicesMaxLint.loop1 (x0 : List Int) : Nat → Int → Int → Option (Int × Int)
  | 0, _, _ => none
  | n63 + 1, q67, q68 => (if decide (q68 < ((x0).length : Int)) then ((gx x0 q68).bind fun x71 => SlicesMaxLint.loop1 x0 n63 (mx q67 x71) (w64 (q68 + 1))) else some (q67, q68))
def SlicesMaxLint (fu : Nat) (x0 : List Int) : Option Int := (if decide (((x0).length : Int) < 1) then none else ((gx x0 0).bind fun x52 => ((SlicesMaxLint.loop1 x0 fu x52 1).bind fun q62 => match q62 with | (q67, _) => some q67)))
def CmpisNaNint (x0 : Int) : Bool := (x0 != x0)
def CmpCompareint (x0 : Int) (x1 : Int) : Int := (if (CmpisNaNint x0) then (if (CmpisNaNint x1) then 0 else (-1)) else (if (CmpisNaNint x1) then 1 else (if decide (x0 < x1) then (-1) else (if decide (x0 > x1) then 1 else 0))))
def SlicesCompareLint.loop1 (x1 : List Int) : (List Int) → Nat → Option (Out Int Unit)
  | [], _ => some (.next ())
  | x54 :: rest55, k53 => (if decide (((k53 : Nat) : Int) ≥ ((x1).length : Int)) then some (.ret 1) else ((gx x1 ((k53 : Nat) : Int)).bind fun x68 => (if ((CmpCompareint x54 x68) != 0) then some (.ret (CmpCompareint x54 x68)) else SlicesCompareLint.loop1 x1 rest55 (k53 + 1))))
def SlicesCompareLint (x0 : List Int) (x1 : List Int) : Option Int := ((SlicesCompareLint.loop1 x1 x0 0).bind fun q52 => match q52 with | .ret r => some r | .next () => (if decide (((x0).length : Int) < ((x1).length : Int)) then some (-1) else some 0))
def Fishref2PickOf.loop4 (x86 : FareOffer) : Nat → Int → (List Int) → Option (Int × (List Int))
  | 0, _, _ => none
  | n143 + 1, q147, q148 => (if decide (q147 < x86.To) then ((gx q148 q147).bind fun x156 => ((ix q148 q147).bind fun _ => ((sx q148 q147 (w64 (x156 + 1))).bind fun x171 => Fishref2PickOf.loop4 x86 n143 (w64 (q147 + 1)) x171))) else some (q147, q148))
def Fishref2PickOf.loop3 (fu : Nat) (q73 : Int) : (List FareOffer) → Nat → (List Int) → Int → (List Int) → Option ((List Int) × Int × (List Int))
  | [], _, q94, q101, q102 => some (q94, q101, q102)
  | x86 :: rest87, k85, q94, q101, q102 => (((if ((IntKind.wrap .i64 ((BitVec.ofInt (IntKind.bits .i64) (Int.fdiv q73 (2 ^ (min (Int.toNat ((k85 : Nat) : Int)) (IntKind.bits .i64)))) &&& BitVec.ofInt (IntKind.bits .i64) 1).toNat : Int)) == 1) then ((apd q94 [((k85 : Nat) : Int)]).bind fun x135 => ((Fishref2PickOf.loop4 x86 fu x86.From q102).bind fun q142 => match q142 with | (_, q148) => some (x135, w64 (q101 + x86.Value), q148))) else some (q94, q101, q102)) : Option ((List Int) × Int × (List Int))).bind fun q115 => match q115 with | (q118, q125, q126) => Fishref2PickOf.loop3 fu q73 rest87 (k85 + 1) q118 q125 q126)
def Fishref2PickOf.loop2 (x0 : List FareOffer) (x1 : Int) (x2 : Int) (fu : Nat) : Nat → (List Int) → Int → Int → Option ((List Int) × Int × Int)
  | 0, _, _, _ => none
  | n64 + 1, q68, q72, q73 => (if decide (q73 < (IntKind.wrap .i64 (1 * (2 ^ (min (Int.toNat ((x0).length : Int)) (IntKind.bits .i64)))))) then ((mks x2 (0 : Int)).bind fun x77 => ((Fishref2PickOf.loop3 fu q73 x0 0 [] 0 x77).bind fun q84 => match q84 with | (q94, q101, q102) => ((((SlicesMaxLint fu q102).bind fun q182 => (if decide (q182 ≤ x1) then (if decide (q101 > q72) then some true else (if (q101 == q72) then (if decide (q101 > 0) then ((SlicesCompareLint q94 q68).bind fun q192 => some (decide (q192 < 0))) else some false) else some false)) else some false)) : Option Bool).bind fun q180 => (bnd ((if q180 then (q94, q101) else (q68, q72)) : (List Int) × Int) fun q199 => match q199 with | (q202, q206) => Fishref2PickOf.loop2 x0 x1 x2 fu n64 q202 q206 (w64 (q73 + 1)))))) else some (q68, q72, q73))
def Fishref2PickOf (fu : Nat) (x0 : List FareOffer) (x1 : Int) (x2 : Int) : Option (Int × (List Int)) := ((Fishref2PickOf.loop2 x0 x1 x2 fu fu [] 0 0).bind fun q63 => match q63 with | (q68, q72, _) => some (q72, q68))
def Fishref2BidsSum.loop1 (x1 : Int) : (List Int) → Int → Int
  | [], q62 => q62
  | x54 :: rest55, q62 => Fishref2BidsSum.loop1 x1 rest55 (w64 (q62 + (w64 (x1 * x54))))
def Fishref2BidsSum.loop3 (x2 : List Int) (x71 : FareOffer) : Nat → Int → Int → Option (Int × Int)
  | 0, _, _ => none
  | n88 + 1, q92, q93 => (if decide (q93 < x71.To) then ((gx x2 q93).bind fun x96 => Fishref2BidsSum.loop3 x2 x71 n88 (w64 (q92 - x96)) (w64 (q93 + 1))) else some (q92, q93))
def Fishref2BidsSum.loop2 (x2 : List Int) (fu : Nat) : (List FareOffer) → Int → Option Int
  | [], q79 => some q79
  | x71 :: rest72, q79 => ((Fishref2BidsSum.loop3 x2 x71 fu x71.Value x71.From).bind fun q87 => match q87 with | (q92, _) => Fishref2BidsSum.loop2 x2 fu rest72 (w64 (q79 + (mx q92 0))))
def Fishref2BidsSum (fu : Nat) (x0 : List FareOffer) (x1 : Int) (x2 : List Int) : Option Int := (bnd (Fishref2BidsSum.loop1 x1 x2 0) fun q62 => ((Fishref2BidsSum.loop2 x2 fu x0 q62).bind fun q79 => some q79))
def Fishlaw2FareBids.loop1 (q51 : (List Int) × Int) : Nat → Nat → Option (Out Bool Unit)
  | 0, _ => some (.next ())
  | rest85 + 1, k83 => ((gx q51.1 ((k83 : Nat) : Int)).bind fun x94 => (bnd ((if decide (x94 < 0) then true else decide (x94 > 1099511627776)) : Bool) fun q108 => (if q108 then some (.ret false) else Fishlaw2FareBids.loop1 q51 rest85 (k83 + 1))))
def Fishlaw2FareBids (fu : Nat) (x0 : List FareOffer) (x1 : Int) (x2 : Int) : Option Bool := ((FareBids fu x0 x1 x2).bind fun q51 => (if ((Fishref2OffersFault x0 x1 x2) != 0) then ((((Fishlaw2fares fu).bind fun q66 => (if q66 then (if (q51.2 == (Fishref2OffersFault x0 x1 x2)) then some (((q51.1.length : Nat) : Int) == 0) else some false) else some false)) : Option Bool).bind fun q64 => some q64) else ((((Fishlaw2fares fu).bind fun q76 => (if !q76 then some true else (if (q51.2 != 0) then some true else some (((q51.1.length : Nat) : Int) != (w64 (x2 - 1)))))) : Option Bool).bind fun q74 => (if q74 then some false else ((Fishlaw2FareBids.loop1 q51 q51.1.length 0).bind fun q82 => match q82 with | .ret r => some r | .next () => ((Fishref2PickOf fu x0 x1 x2).bind fun q112 => ((Fishref2BidsSum fu x0 x1 q51.1).bind fun q119 => some (q119 == q112.1))))))))
end Go.Fp
