/- The mirrors of the functions that FareSettles reaches: plain Lean functions on data. No condition. -/
import Derived.Test.YtdioaeeaifahnaaFpCopy
namespace Go.Fp
structure FareBand where
  Upto : Int
  Price : Int
  deriving DecidableEq, Inhabited
-- FareBand is of one size
def FareBand.cells (x : FareBand) : List Go.Value := [.int .i64 x.Upto, .int .i64 x.Price]
def RFareBand : Rd FareBand := fun _ cs x => cs = x.cells
theorem RFareBand.mono : Rmono RFareBand := fun _ _ _ _ _ h => h
theorem RFareBand.one : Rone RFareBand := by intro s cs x h; subst h; rfl

structure FareCond where
  Kind : Int
  A : Int
  B : Int
  Kids : List FareCond
instance : Inhabited FareCond := ⟨⟨0, 0, 0, []⟩⟩
mutual
def szFareCond : FareCond → Nat
  | ⟨_, _, _, k⟩ => szsFareCond k + 1
def szsFareCond : List FareCond → Nat
  | [] => 1
  | x :: r => szFareCond x + szsFareCond r
end
theorem szsFareCond_eq : ∀ l, szsFareCond l = szL szFareCond l
  | [] => rfl
  | x :: r => by rw [szsFareCond, szsFareCond_eq r]; simp only [szL, List.map_cons, List.sum_cons]; omega
def RNFareCond : Nat → Rd FareCond
  | 0 => fun _ _ _ => False
  | n + 1 => fun s cs x => ∃ a0 c0, cs = [.int .i64 x.Kind, .int .i64 x.A, .int .i64 x.B, .slice a0 x.Kids.length c0] ∧ Sl 4 (RNFareCond n) s a0 c0 x.Kids
def RFareCond : Rd FareCond := fun s cs x => ∃ n, RNFareCond n s cs x
theorem RNFareCond.mono : ∀ n, Rmono (RNFareCond n)
  | 0 => fun _ _ _ _ _ h => h.elim
  | n + 1 => fun _ _ h _ _ ⟨a0, c0, e, h0⟩ => ⟨a0, c0, e, h0.mono (RNFareCond.mono n) h⟩
theorem RFareCond.mono : Rmono RFareCond := fun s t h cs x ⟨n, q⟩ => ⟨n, RNFareCond.mono n s t h cs x q⟩
theorem RNFareCond.up : ∀ n s cs x, RNFareCond n s cs x → RNFareCond (n + 1) s cs x
  | 0 => fun _ _ _ h => h.elim
  | n + 1 => fun _ _ _ ⟨a0, c0, e, h0⟩ => ⟨a0, c0, e, h0.impl (RNFareCond.up n)⟩
theorem RFareCond.unf {s : Sg} {cs : List Value} {x : FareCond} (h : RFareCond s cs x) : ∃ a0 c0, cs = [.int .i64 x.Kind, .int .i64 x.A, .int .i64 x.B, .slice a0 x.Kids.length c0] ∧ Sl 4 RFareCond s a0 c0 x.Kids := by
  obtain ⟨n, h⟩ := h
  cases n with
  | zero => exact h.elim
  | succ n => obtain ⟨a0, c0, e, h0⟩ := h; exact ⟨a0, c0, e, h0.impl (fun _ _ _ q => ⟨n, q⟩)⟩
theorem RFareCond.fold {s : Sg} {cs : List Value} {x : FareCond} (h : ∃ a0 c0, cs = [.int .i64 x.Kind, .int .i64 x.A, .int .i64 x.B, .slice a0 x.Kids.length c0] ∧ Sl 4 RFareCond s a0 c0 x.Kids) : RFareCond s cs x := by
  obtain ⟨a0, c0, e, h0⟩ := h
  obtain ⟨n, q⟩ := Sl.level RNFareCond.up h0
  exact ⟨n + 1, a0, c0, e, q⟩
theorem RFareCond.one : Rone RFareCond := by intro s cs x h; obtain ⟨a0, c0, rfl, _⟩ := h.unf; rfl

structure FarePayment where
  From : Int
  To : Int
  Sum : Int
  deriving DecidableEq, Inhabited
-- FarePayment is of one size
def FarePayment.cells (x : FarePayment) : List Go.Value := [.int .i64 x.From, .int .i64 x.To, .int .i64 x.Sum]
def RFarePayment : Rd FarePayment := fun _ cs x => cs = x.cells
theorem RFarePayment.mono : Rmono RFarePayment := fun _ _ _ _ _ h => h
theorem RFarePayment.one : Rone RFarePayment := by intro s cs x h; subst h; rfl

structure FareRule where
  If : FareCond
  Do : Int
  N : Int
  Stop : Bool
  deriving Inhabited
def szFareRule (x : FareRule) : Nat := szFareCond x.If + 1
def RFareRule : Rd FareRule := fun s cs x => ∃ a0 c0, cs = [.int .i64 x.If.Kind, .int .i64 x.If.A, .int .i64 x.If.B, .slice a0 x.If.Kids.length c0, .int .i64 x.Do, .int .i64 x.N, .bool x.Stop] ∧ Sl 4 RFareCond s a0 c0 x.If.Kids
theorem RFareRule.one : Rone RFareRule := by rintro s cs x ⟨a0, c0, rfl, _⟩; rfl
theorem RFareRule.mono : Rmono RFareRule := fun _ _ h _ _ ⟨a0, c0, e, h0⟩ => ⟨a0, c0, e, h0.mono RFareCond.mono h⟩

structure FareTariff where
  ByKm : Bool
  Bands : List FareBand
  Round : Int
  Rules : List FareRule
  deriving Inhabited
def szFareTariff (x : FareTariff) : Nat := (szL sz1) x.Bands + (szL szFareRule) x.Rules + 1
def RFareTariff : Rd FareTariff := fun s cs x => ∃ a0 c0 a1 c1, cs = [.bool x.ByKm, .slice a0 x.Bands.length c0, .int .i64 x.Round, .slice a1 x.Rules.length c1] ∧ Sl 2 RFareBand s a0 c0 x.Bands ∧ Sl 7 RFareRule s a1 c1 x.Rules
theorem RFareTariff.one : Rone RFareTariff := by rintro s cs x ⟨a0, c0, a1, c1, rfl, _⟩; rfl
theorem RFareTariff.mono : Rmono RFareTariff := fun _ _ h _ _ ⟨a0, c0, a1, c1, e, h0, h1⟩ => ⟨a0, c0, a1, c1, e, h0.mono RFareBand.mono h, h1.mono RFareRule.mono h⟩

structure FareTrip where
  Day : Int
  At : Int
  Km : Int
  Age : Int
  Card : Bool
  Zones : List Int
  deriving DecidableEq, Inhabited
def szFareTrip (x : FareTrip) : Nat := (szL sz1) x.Zones + 1
def RFareTrip : Rd FareTrip := fun s cs x => ∃ a0 c0, cs = [.int .i64 x.Day, .int .i64 x.At, .int .i64 x.Km, .int .i64 x.Age, .bool x.Card, .slice a0 x.Zones.length c0] ∧ Sl 1 (RI .i64) s a0 c0 x.Zones
theorem RFareTrip.one : Rone RFareTrip := by rintro s cs x ⟨a0, c0, rfl, _⟩; rfl
theorem RFareTrip.mono : Rmono RFareTrip := fun _ _ h _ _ ⟨a0, c0, e, h0⟩ => ⟨a0, c0, e, h0.mono RI.mono h⟩
def FareSettle_1_v1 (x0 : List Int) (y0 : Int) : Bool := (((x0).length : Int) != y0)
def SlicesIndexFuncLLint_v1.loop1 (y0 : Int) : (List (List Int)) → Nat → Out Int Unit
  | [], _ => (.next ())
  | x54 :: rest55, k53 => (if (FareSettle_1_v1 x54 y0) then (.ret ((k53 : Nat) : Int)) else SlicesIndexFuncLLint_v1.loop1 y0 rest55 (k53 + 1))
def SlicesIndexFuncLLint_v1 (x0 : List (List Int)) (y0 : Int) : Int := (bnd (SlicesIndexFuncLLint_v1.loop1 y0 x0 0) fun q52 => match q52 with | .ret r => r | .next () => (-1))
def SlicesContainsFuncLLint_v1 (x0 : List (List Int)) (y0 : Int) : Bool := decide ((SlicesIndexFuncLLint_v1 x0 y0) ≥ 0)
def Farewithin (x0 : Int) (x1 : Int) (x2 : Int) : Bool := (bnd ((if decide (x0 ≥ x1) then decide (x0 ≤ x2) else false) : Bool) fun q55 => q55)
def Faregroups.loop2 (q75 : Int) : (List Int) → Nat → (List Int) → Option (List Int)
  | [], _, q107 => some q107
  | x99 :: rest100, k98, q107 => (((if ((IntKind.wrap .i64 ((BitVec.ofInt (IntKind.bits .i64) (Int.fdiv q75 (2 ^ (min (Int.toNat ((k98 : Nat) : Int)) (IntKind.bits .i64)))) &&& BitVec.ofInt (IntKind.bits .i64) 1).toNat : Int)) == 1) then ((gx q107 q75).bind fun x130 => ((ix q107 q75).bind fun _ => ((sx q107 q75 (w64 (x130 + x99))).bind fun x145 => some x145))) else some q107) : Option (List Int)).bind fun q122 => Faregroups.loop2 q75 rest100 (k98 + 1) q122)
def Faregroups.loop3 (q75 : Int) (q107 : List Int) : Nat → Int → (List Int) → (List Int) → Option (Int × (List Int) × (List Int))
  | 0, _, _, _ => none
  | n183 + 1, q187, q188, q194 => (if decide (q187 > 0) then ((((gx q107 q187).bind fun x208 => (if (x208 == 0) then ((gx q188 (IntKind.wrap .i64 ((BitVec.ofInt (IntKind.bits .i64) q75 ^^^ BitVec.ofInt (IntKind.bits .i64) q187).toNat : Int))).bind fun x219 => ((gx q188 q75).bind fun x229 => some (decide ((w64 (x219 + 1)) > x229)))) else some false)) : Option Bool).bind fun q206 => (((if q206 then ((gx q188 (IntKind.wrap .i64 ((BitVec.ofInt (IntKind.bits .i64) q75 ^^^ BitVec.ofInt (IntKind.bits .i64) q187).toNat : Int))).bind fun x257 => ((ix q188 q75).bind fun _ => ((sx q188 q75 (w64 (x257 + 1))).bind fun x272 => ((ix q194 q75).bind fun _ => ((sx q194 q75 q187).bind fun x282 => some (x272, x282)))))) else some (q188, q194)) : Option ((List Int) × (List Int))).bind fun q240 => match q240 with | (q243, q249) => Faregroups.loop3 q75 q107 n183 (IntKind.wrap .i64 ((BitVec.ofInt (IntKind.bits .i64) (w64 (q187 - 1)) &&& BitVec.ofInt (IntKind.bits .i64) q75).toNat : Int)) q243 q249)) else some (q187, q188, q194))
def Faregroups.loop1 (x0 : List Int) (fu : Nat) : Nat → Int → (List Int) → (List Int) → (List Int) → Option (Int × (List Int) × (List Int) × (List Int))
  | 0, _, _, _, _ => none
  | n71 + 1, q75, q76, q82, q88 => (if decide (q75 ≤ (w64 ((IntKind.wrap .i64 (1 * (2 ^ (min (Int.toNat ((x0).length : Int)) (IntKind.bits .i64))))) - 1))) then ((Faregroups.loop2 q75 x0 0 q76).bind fun q107 => ((gx q107 q75).bind fun x150 => (if (x150 != 0) then Faregroups.loop1 x0 fu n71 (w64 (q75 + 1)) q107 q82 q88 else ((ix q82 q75).bind fun _ => ((sx q82 q75 1).bind fun x166 => ((ix q88 q75).bind fun _ => ((sx q88 q75 q75).bind fun x176 => ((Faregroups.loop3 q75 q107 fu (IntKind.wrap .i64 ((BitVec.ofInt (IntKind.bits .i64) (w64 (q75 - 1)) &&& BitVec.ofInt (IntKind.bits .i64) q75).toNat : Int)) x166 x176).bind fun q182 => match q182 with | (_, q188, q194) => Faregroups.loop1 x0 fu n71 (w64 (q75 + 1)) q107 q188 q194)))))))) else some (q75, q76, q82, q88))
def Faregroups.loop5 (q88 : List Int) (q301 : Int) : (List Int) → Nat → (List Int) → Option (List Int)
  | [], _, q316 => some q316
  | _ :: rest309, k307, q316 => ((gx q88 q301).bind fun x324 => (((if ((IntKind.wrap .i64 ((BitVec.ofInt (IntKind.bits .i64) (Int.fdiv x324 (2 ^ (min (Int.toNat ((k307 : Nat) : Int)) (IntKind.bits .i64)))) &&& BitVec.ofInt (IntKind.bits .i64) 1).toNat : Int)) == 1) then ((apd q316 [((k307 : Nat) : Int)]).bind fun x348 => some x348) else some q316) : Option (List Int)).bind fun q338 => Faregroups.loop5 q88 q301 rest309 (k307 + 1) q338))
def Faregroups.loop4 (x0 : List Int) (q88 : List Int) : Nat → (List (List Int)) → Int → Option ((List (List Int)) × Int)
  | 0, _, _ => none
  | n290 + 1, q294, q301 => (if decide (q301 > 0) then ((Faregroups.loop5 q88 q301 x0 0 []).bind fun q316 => ((apd q294 [q316]).bind fun x358 => ((gx q88 q301).bind fun x364 => Faregroups.loop4 x0 q88 n290 x358 (IntKind.wrap .i64 ((BitVec.ofInt (IntKind.bits .i64) q301 ^^^ BitVec.ofInt (IntKind.bits .i64) x364).toNat : Int))))) else some (q294, q301))
def Faregroups (fu : Nat) (x0 : List Int) : Option (List (List Int)) := ((mks (w64 ((w64 ((IntKind.wrap .i64 (1 * (2 ^ (min (Int.toNat ((x0).length : Int)) (IntKind.bits .i64))))) - 1)) + 1)) (0 : Int)).bind fun x51 => ((mks (w64 ((w64 ((IntKind.wrap .i64 (1 * (2 ^ (min (Int.toNat ((x0).length : Int)) (IntKind.bits .i64))))) - 1)) + 1)) (0 : Int)).bind fun x57 => ((mks (w64 ((w64 ((IntKind.wrap .i64 (1 * (2 ^ (min (Int.toNat ((x0).length : Int)) (IntKind.bits .i64))))) - 1)) + 1)) (0 : Int)).bind fun x63 => ((Faregroups.loop1 x0 fu fu 1 x51 x57 x63).bind fun q70 => match q70 with | (_, _, _, q88) => ((Faregroups.loop4 x0 q88 fu [] (w64 ((IntKind.wrap .i64 (1 * (2 ^ (min (Int.toNat ((x0).length : Int)) (IntKind.bits .i64))))) - 1))).bind fun q289 => match q289 with | (q294, _) => some q294)))))
def Faregroups_v1.loop2 (x0 : List Int) (q75 : Int) : Nat → Nat → (List Int) → Option (List Int)
  | 0, _, q108 => some q108
  | rest100 + 1, k98, q108 => ((gx x0 ((k98 : Nat) : Int)).bind fun x115 => (((if ((IntKind.wrap .i64 ((BitVec.ofInt (IntKind.bits .i64) (Int.fdiv q75 (2 ^ (min (Int.toNat ((k98 : Nat) : Int)) (IntKind.bits .i64)))) &&& BitVec.ofInt (IntKind.bits .i64) 1).toNat : Int)) == 1) then ((gx q108 q75).bind fun x137 => ((ix q108 q75).bind fun _ => ((sx q108 q75 (w64 (x137 + x115))).bind fun x152 => some x152))) else some q108) : Option (List Int)).bind fun q129 => Faregroups_v1.loop2 x0 q75 rest100 (k98 + 1) q129))
def Faregroups_v1.loop3 (q75 : Int) (q108 : List Int) : Nat → Int → (List Int) → (List Int) → Option (Int × (List Int) × (List Int))
  | 0, _, _, _ => none
  | n190 + 1, q194, q195, q201 => (if decide (q194 > 0) then ((((gx q108 q194).bind fun x215 => (if (x215 == 0) then ((gx q195 (IntKind.wrap .i64 ((BitVec.ofInt (IntKind.bits .i64) q75 ^^^ BitVec.ofInt (IntKind.bits .i64) q194).toNat : Int))).bind fun x226 => ((gx q195 q75).bind fun x236 => some (decide ((w64 (x226 + 1)) > x236)))) else some false)) : Option Bool).bind fun q213 => (((if q213 then ((gx q195 (IntKind.wrap .i64 ((BitVec.ofInt (IntKind.bits .i64) q75 ^^^ BitVec.ofInt (IntKind.bits .i64) q194).toNat : Int))).bind fun x264 => ((ix q195 q75).bind fun _ => ((sx q195 q75 (w64 (x264 + 1))).bind fun x279 => ((ix q201 q75).bind fun _ => ((sx q201 q75 q194).bind fun x289 => some (x279, x289)))))) else some (q195, q201)) : Option ((List Int) × (List Int))).bind fun q247 => match q247 with | (q250, q256) => Faregroups_v1.loop3 q75 q108 n190 (IntKind.wrap .i64 ((BitVec.ofInt (IntKind.bits .i64) (w64 (q194 - 1)) &&& BitVec.ofInt (IntKind.bits .i64) q75).toNat : Int)) q250 q256)) else some (q194, q195, q201))
def Faregroups_v1.loop1 (x0 : List Int) (fu : Nat) : Nat → Int → (List Int) → (List Int) → (List Int) → Option (Int × (List Int) × (List Int) × (List Int))
  | 0, _, _, _, _ => none
  | n71 + 1, q75, q76, q82, q88 => (if decide (q75 ≤ (w64 ((IntKind.wrap .i64 (1 * (2 ^ (min (Int.toNat ((x0.length : Nat) : Int)) (IntKind.bits .i64))))) - 1))) then ((Faregroups_v1.loop2 x0 q75 x0.length 0 q76).bind fun q108 => ((gx q108 q75).bind fun x157 => (if (x157 != 0) then Faregroups_v1.loop1 x0 fu n71 (w64 (q75 + 1)) q108 q82 q88 else ((ix q82 q75).bind fun _ => ((sx q82 q75 1).bind fun x173 => ((ix q88 q75).bind fun _ => ((sx q88 q75 q75).bind fun x183 => ((Faregroups_v1.loop3 q75 q108 fu (IntKind.wrap .i64 ((BitVec.ofInt (IntKind.bits .i64) (w64 (q75 - 1)) &&& BitVec.ofInt (IntKind.bits .i64) q75).toNat : Int)) x173 x183).bind fun q189 => match q189 with | (_, q195, q201) => Faregroups_v1.loop1 x0 fu n71 (w64 (q75 + 1)) q108 q195 q201)))))))) else some (q75, q76, q82, q88))
def Faregroups_v1.loop5 (q88 : List Int) (q308 : Int) : Nat → Nat → (List Int) → Option (List Int)
  | 0, _, q324 => some q324
  | rest316 + 1, k314, q324 => ((gx q88 q308).bind fun x332 => (((if ((IntKind.wrap .i64 ((BitVec.ofInt (IntKind.bits .i64) (Int.fdiv x332 (2 ^ (min (Int.toNat ((k314 : Nat) : Int)) (IntKind.bits .i64)))) &&& BitVec.ofInt (IntKind.bits .i64) 1).toNat : Int)) == 1) then ((apd q324 [((k314 : Nat) : Int)]).bind fun x356 => some x356) else some q324) : Option (List Int)).bind fun q346 => Faregroups_v1.loop5 q88 q308 rest316 (k314 + 1) q346))
def Faregroups_v1.loop4 (x0 : List Int) (q88 : List Int) : Nat → (List (List Int)) → Int → Option ((List (List Int)) × Int)
  | 0, _, _ => none
  | n297 + 1, q301, q308 => (if decide (q308 > 0) then ((Faregroups_v1.loop5 q88 q308 x0.length 0 []).bind fun q324 => ((apd q301 [q324]).bind fun x366 => ((gx q88 q308).bind fun x372 => Faregroups_v1.loop4 x0 q88 n297 x366 (IntKind.wrap .i64 ((BitVec.ofInt (IntKind.bits .i64) q308 ^^^ BitVec.ofInt (IntKind.bits .i64) x372).toNat : Int))))) else some (q301, q308))
def Faregroups_v1 (fu : Nat) (x0 : List Int) : Option (List (List Int)) := ((mks (w64 ((w64 ((IntKind.wrap .i64 (1 * (2 ^ (min (Int.toNat ((x0.length : Nat) : Int)) (IntKind.bits .i64))))) - 1)) + 1)) (0 : Int)).bind fun x51 => ((mks (w64 ((w64 ((IntKind.wrap .i64 (1 * (2 ^ (min (Int.toNat ((x0.length : Nat) : Int)) (IntKind.bits .i64))))) - 1)) + 1)) (0 : Int)).bind fun x57 => ((mks (w64 ((w64 ((IntKind.wrap .i64 (1 * (2 ^ (min (Int.toNat ((x0.length : Nat) : Int)) (IntKind.bits .i64))))) - 1)) + 1)) (0 : Int)).bind fun x63 => ((Faregroups_v1.loop1 x0 fu fu 1 x51 x57 x63).bind fun q70 => match q70 with | (_, _, _, q88) => ((Faregroups_v1.loop4 x0 q88 fu [] (w64 ((IntKind.wrap .i64 (1 * (2 ^ (min (Int.toNat ((x0.length : Nat) : Int)) (IntKind.bits .i64))))) - 1))).bind fun q296 => match q296 with | (q301, _) => some q301)))))
def MathBitsLen64 (x0 : Int) : Option Int := (bnd ((if decide (x0 ≥ 4294967296) then (Int.fdiv x0 (2 ^ (min (Int.toNat 32) (IntKind.bits .u64))), 32) else (x0, 0)) : Int × Int) fun q52 => match q52 with | (q55, q56) => (bnd ((if decide (q55 ≥ 65536) then (Int.fdiv q55 (2 ^ (min (Int.toNat 16) (IntKind.bits .u64))), w64 (q56 + 16)) else (q55, q56)) : Int × Int) fun q60 => match q60 with | (q63, q64) => (bnd ((if decide (q63 ≥ 256) then (Int.fdiv q63 (2 ^ (min (Int.toNat 8) (IntKind.bits .u64))), w64 (q64 + 8)) else (q63, q64)) : Int × Int) fun q68 => match q68 with | (q71, q72) => ((sgx (str [0, 1, 2, 2, 3, 3, 3, 3, 4, 4, 4, 4, 4, 4, 4, 4, 5, 5, 5, 5, 5, 5, 5, 5, 5, 5, 5, 5, 5, 5, 5, 5, 6, 6, 6, 6, 6, 6, 6, 6, 6, 6, 6, 6, 6, 6, 6, 6, 6, 6, 6, 6, 6, 6, 6, 6, 6, 6, 6, 6, 6, 6, 6, 6, 7, 7, 7, 7, 7, 7, 7, 7, 7, 7, 7, 7, 7, 7, 7, 7, 7, 7, 7, 7, 7, 7, 7, 7, 7, 7, 7, 7, 7, 7, 7, 7, 7, 7, 7, 7, 7, 7, 7, 7, 7, 7, 7, 7, 7, 7, 7, 7, 7, 7, 7, 7, 7, 7, 7, 7, 7, 7, 7, 7, 7, 7, 7, 7, 8, 8, 8, 8, 8, 8, 8, 8, 8, 8, 8, 8, 8, 8, 8, 8, 8, 8, 8, 8, 8, 8, 8, 8, 8, 8, 8, 8, 8, 8, 8, 8, 8, 8, 8, 8, 8, 8, 8, 8, 8, 8, 8, 8, 8, 8, 8, 8, 8, 8, 8, 8, 8, 8, 8, 8, 8, 8, 8, 8, 8, 8, 8, 8, 8, 8, 8, 8, 8, 8, 8, 8, 8, 8, 8, 8, 8, 8, 8, 8, 8, 8, 8, 8, 8, 8, 8, 8, 8, 8, 8, 8, 8, 8, 8, 8, 8, 8, 8, 8, 8, 8, 8, 8, 8, 8, 8, 8, 8, 8, 8, 8, 8, 8, 8, 8, 8, 8, 8, 8, 8, 8, 8, 8, 8, 8, 8, 8]) (IntKind.wrap .u8 q71)).bind fun x75 => some (w64 (q72 + (w64 x75)))))))
def MathBitsLen (x0 : Int) : Option Int := ((MathBitsLen64 x0).bind fun q51 => some q51)
def CmpisNaNint (x0 : Int) : Bool := (x0 != x0)
def CmpCompareint (x0 : Int) (x1 : Int) : Int := (if (CmpisNaNint x0) then (if (CmpisNaNint x1) then 0 else (-1)) else (if (CmpisNaNint x1) then 1 else (if decide (x0 < x1) then (-1) else (if decide (x0 > x1) then 1 else 0))))
def CmpOrint.loop1 : (List Int) → Out Int Unit
  | [] => (.next ())
  | x54 :: rest55 => (if (x54 != 0) then (.ret x54) else CmpOrint.loop1 rest55)
def CmpOrint (x0 : List Int) : Int := (bnd (CmpOrint.loop1 x0) fun q52 => match q52 with | .ret r => r | .next () => 0)
def FareSettle_2 (x0 : FarePayment) (x1 : FarePayment) : Int := (CmpOrint [(CmpCompareint x0.From x1.From), (CmpCompareint x0.To x1.To)])
def SlicesinsertionSortCmpFuncfarePayment_v1.loop2 (x1 : Int) : Nat → Int → (List FarePayment) → Option (Int × (List FarePayment))
  | 0, _, _ => none
  | n74 + 1, q78, q79 => (((if decide (q78 > x1) then ((gx q79 q78).bind fun x93 => ((gx q79 (w64 (q78 - 1))).bind fun x103 => some (decide ((FareSettle_2 x93 x103) < 0)))) else some false) : Option Bool).bind fun q90 => (if q90 then ((gx q79 (w64 (q78 - 1))).bind fun x115 => ((gx q79 q78).bind fun x125 => ((ix q79 q78).bind fun _ => ((sx q79 q78 x115).bind fun x140 => ((ix x140 (w64 (q78 - 1))).bind fun _ => ((sx x140 (w64 (q78 - 1)) x125).bind fun x150 => SlicesinsertionSortCmpFuncfarePayment_v1.loop2 x1 n74 (w64 (q78 - 1)) x150)))))) else some (q78, q79)))
def SlicesinsertionSortCmpFuncfarePayment_v1.loop1 (x1 : Int) (x2 : Int) (fu : Nat) : Nat → Int → (List FarePayment) → Option (Int × (List FarePayment))
  | 0, _, _ => none
  | n59 + 1, q63, q64 => (if decide (q63 < x2) then ((SlicesinsertionSortCmpFuncfarePayment_v1.loop2 x1 fu q63 q64).bind fun q73 => match q73 with | (_, q79) => SlicesinsertionSortCmpFuncfarePayment_v1.loop1 x1 x2 fu n59 (w64 (q63 + 1)) q79) else some (q63, q64))
def SlicesinsertionSortCmpFuncfarePayment_v1 (fu : Nat) (x0 : List FarePayment) (x1 : Int) (x2 : Int) : Option (List FarePayment) := ((SlicesinsertionSortCmpFuncfarePayment_v1.loop1 x1 x2 fu fu (w64 (x1 + 1)) x0).bind fun q58 => match q58 with | (_, q64) => some q64)
def SlicespdqsortCmpFuncfarePayment_v1.loop1 (fu : Nat) : Nat → Int → Int → Int → Bool → Bool → (List FarePayment) → Option (Out (List FarePayment) (Int × Int × Int × Bool × Bool × (List FarePayment)))
  | 0, _, _, _, _, _, _ => none
  | n59 + 1, q63, q64, q65, q66, _, q68 => (if decide ((w64 (q64 - q63)) ≤ 12) then ((SlicesinsertionSortCmpFuncfarePayment_v1 fu q68 q63 q64).bind fun q76 => some (.ret q76)) else (if (q65 == 0) then none else (((if !q66 then none else some (q65, q68)) : Option (Int × (List FarePayment))).bind fun q83 => match q83 with | (_, _) => none)))
def SlicespdqsortCmpFuncfarePayment_v1 (fu : Nat) (x0 : List FarePayment) (x1 : Int) (x2 : Int) (x3 : Int) : Option (List FarePayment) := ((SlicespdqsortCmpFuncfarePayment_v1.loop1 fu fu x1 x2 x3 true true x0).bind fun q58 => match q58 with | .ret r => some r | .next _ => none)
def SlicesSortFuncLfarePayment_v1 (fu : Nat) (x0 : List FarePayment) : Option (List FarePayment) := ((MathBitsLen (IntKind.wrap .u64 ((x0.length : Nat) : Int))).bind fun q57 => ((SlicespdqsortCmpFuncfarePayment_v1 fu x0 0 ((x0.length : Nat) : Int) q57).bind fun q59 => some q59))
def FareSettle.loop2 (k64 : Nat) : (List Int) → Nat → (List Int) → Option (Out ((List FarePayment) × Int) (List Int))
  | [], _, q98 => some (.next q98)
  | x90 :: rest91, k89, q98 => (if !(Farewithin x90 0 100000) then some (.ret ([], 2)) else (bnd ((if (((k64 : Nat) : Int) == ((k89 : Nat) : Int)) then (x90 != 0) else false) : Bool) fun q115 => (if q115 then some (.ret ([], 1)) else ((gx q98 ((k64 : Nat) : Int)).bind fun x120 => ((ix q98 ((k64 : Nat) : Int)).bind fun _ => ((sx q98 ((k64 : Nat) : Int) (w64 (x120 + x90))).bind fun x135 => ((gx x135 ((k89 : Nat) : Int)).bind fun x140 => ((ix x135 ((k89 : Nat) : Int)).bind fun _ => ((sx x135 ((k89 : Nat) : Int) (w64 (x140 - x90))).bind fun x155 => FareSettle.loop2 k64 rest91 (k89 + 1) x155)))))))))
def FareSettle.loop1 : (List (List Int)) → Nat → (List Int) → Option (Out ((List FarePayment) × Int) (List Int))
  | [], _, q73 => some (.next q73)
  | x65 :: rest66, k64, q73 => ((FareSettle.loop2 k64 x65 0 q73).bind fun q88 => match q88 with | .ret r => some (.ret r) | .next q98 => FareSettle.loop1 rest66 (k64 + 1) q98)
def FareSettle.loop4 (q73 : List Int) (x191 : List Int) : (List Int) → Nat → (List FarePayment) → Int → Option ((List FarePayment) × Int)
  | [], _, q215, q222 => some (q215, q222)
  | x207 :: rest208, k206, q215, q222 => (((if decide (((k206 : Nat) : Int) > 0) then ((gx x191 (w64 (((k206 : Nat) : Int) - 1))).bind fun x241 => (((if decide (q222 > 0) then ((apd q215 [(FarePayment.mk x241 x207 q222)]).bind fun x264 => some x264) else (((if decide (q222 < 0) then ((apd q215 [(FarePayment.mk x207 x241 (w64 (0 - q222)))]).bind fun x284 => some x284) else some q215) : Option (List FarePayment)).bind fun q274 => some q274)) : Option (List FarePayment)).bind fun q254 => some q254)) else some q215) : Option (List FarePayment)).bind fun q232 => ((gx q73 x207).bind fun x290 => FareSettle.loop4 q73 x191 rest208 (k206 + 1) q232 (w64 (q222 + x290))))
def FareSettle.loop3 (q73 : List Int) (q161 : (List (List Int))) : Nat → Nat → (List FarePayment) → Option (List FarePayment)
  | 0, _, q183 => some q183
  | rest175 + 1, k173, q183 => ((gx q161 ((k173 : Nat) : Int)).bind fun x191 => ((FareSettle.loop4 q73 x191 x191 0 q183 0).bind fun q205 => match q205 with | (q215, _) => FareSettle.loop3 q73 q161 rest175 (k173 + 1) q215))
def FareSettle (fu : Nat) (x0 : List (List Int)) : Option ((List FarePayment) × Int) := (if decide (((x0).length : Int) > 6) then some ([], 4) else (if (SlicesContainsFuncLLint_v1 x0 ((x0).length : Int)) then some ([], 1) else ((mks ((x0).length : Int) (0 : Int)).bind fun x56 => ((FareSettle.loop1 x0 0 x56).bind fun q63 => match q63 with | .ret r => some r | .next q73 => ((Faregroups_v1 fu q73).bind fun q161 => ((FareSettle.loop3 q73 q161 q161.length 0 []).bind fun q183 => ((SlicesSortFuncLfarePayment_v1 fu q183).bind fun q300 => some (q300, 0))))))))
def Fishref2within (x0 : Int) (x1 : Int) (x2 : Int) : Bool := (bnd ((if decide (x0 ≥ x1) then decide (x0 ≤ x2) else false) : Bool) fun q55 => q55)
def Fishref2DebtsFault.loop1 (x0 : List (List Int)) : (List (List Int)) → Out Int Unit
  | [] => (.next ())
  | x55 :: rest56 => (if (((x55).length : Int) != ((x0).length : Int)) then (.ret 1) else Fishref2DebtsFault.loop1 x0 rest56)
def Fishref2DebtsFault.loop3 (k74 : Nat) : (List Int) → Nat → Out Int Unit
  | [], _ => (.next ())
  | x94 :: rest95, k93 => (if !(Fishref2within x94 0 100000) then (.ret 2) else (bnd ((if (((k74 : Nat) : Int) == ((k93 : Nat) : Int)) then (x94 != 0) else false) : Bool) fun q112 => (if q112 then (.ret 1) else Fishref2DebtsFault.loop3 k74 rest95 (k93 + 1))))
def Fishref2DebtsFault.loop2 : (List (List Int)) → Nat → Out Int Unit
  | [], _ => (.next ())
  | x75 :: rest76, k74 => (bnd (Fishref2DebtsFault.loop3 k74 x75 0) fun q92 => match q92 with | .ret r => (.ret r) | .next () => Fishref2DebtsFault.loop2 rest76 (k74 + 1))
def Fishref2DebtsFault (x0 : List (List Int)) : Int := (if decide (((x0).length : Int) > 6) then 4 else (bnd (Fishref2DebtsFault.loop1 x0 x0) fun q53 => match q53 with | .ret r => r | .next () => (bnd (Fishref2DebtsFault.loop2 x0 0) fun q73 => match q73 with | .ret r => r | .next () => 0)))
def FareCondsize.loop1 (self_FareCondsize : FareCond → Option (Int × Int)) : (List FareCond) → Int → Int → Option (Int × Int)
  | [], q63, q64 => some (q63, q64)
  | x55 :: rest56, q63, q64 => ((self_FareCondsize x55).bind fun q74 => FareCondsize.loop1 self_FareCondsize rest56 (w64 (q63 + q74.1)) (mx q64 q74.2))
def FareCondsize : Nat → FareCond → Option (Int × Int)
  | 0, _ => none
  | fu + 1, x0 => ((FareCondsize.loop1 (FareCondsize fu) x0.Kids 1 0).bind fun q53 => match q53 with | (q63, q64) => some (q63, w64 (q64 + 1)))
def Farenumbers (x0 : Int) : Int := (bnd ((if (x0 == 2) then (x0 == 2) else (bnd ((if (x0 == 3) then (x0 == 3) else (bnd ((if (x0 == 4) then (x0 == 4) else (x0 == 5)) : Bool) fun q69 => q69)) : Bool) fun q62 => q62)) : Bool) fun q55 => (if q55 then 2 else (bnd ((if (x0 == 6) then (x0 == 6) else (bnd ((if (x0 == 7) then (x0 == 7) else (x0 == 8)) : Bool) fun q84 => q84)) : Bool) fun q77 => (if q77 then 1 else 0))))
def FareCondnode.loop1 (self_FareCondnode : FareCond → Option Int) : (List FareCond) → Option (Out Int Unit)
  | [] => some (.next ())
  | x98 :: rest99 => ((self_FareCondnode x98).bind fun q115 => (if (q115 != 0) then some (.ret q115) else FareCondnode.loop1 self_FareCondnode rest99))
def FareCondnode : Nat → FareCond → Option Int
  | 0, _ => none
  | fu + 1, x0 => (if !(Farewithin x0.Kind 0 11) then some 15 else (bnd ((if !(Farewithin x0.A 0 28800) then true else !(Farewithin x0.B 0 28800)) : Bool) fun q57 => (if q57 then some 2 else (bnd ((if decide ((Farenumbers x0.Kind) < 1) then (if (x0.A != 0) then true else (if decide ((Farenumbers x0.Kind) < 2) then (if (x0.B != 0) then true else (if ((Farenumbers x0.Kind) == 2) then decide (x0.A > x0.B) else false)) else (if ((Farenumbers x0.Kind) == 2) then decide (x0.A > x0.B) else false))) else (if decide ((Farenumbers x0.Kind) < 2) then (if (x0.B != 0) then true else (if ((Farenumbers x0.Kind) == 2) then decide (x0.A > x0.B) else false)) else (if ((Farenumbers x0.Kind) == 2) then decide (x0.A > x0.B) else false))) : Bool) fun q65 => (if q65 then some 1 else (bnd ((if (x0.Kind == 9) then (if (((x0.Kids).length : Int) != 1) then true else (if decide (x0.Kind > 9) then (if decide (((x0.Kids).length : Int) < 2) then true else (if decide (x0.Kind < 9) then decide (((x0.Kids).length : Int) > 0) else false)) else (if decide (x0.Kind < 9) then decide (((x0.Kids).length : Int) > 0) else false))) else (if decide (x0.Kind > 9) then (if decide (((x0.Kids).length : Int) < 2) then true else (if decide (x0.Kind < 9) then decide (((x0.Kids).length : Int) > 0) else false)) else (if decide (x0.Kind < 9) then decide (((x0.Kids).length : Int) > 0) else false))) : Bool) fun q82 => (if q82 then some 1 else ((FareCondnode.loop1 (FareCondnode fu) x0.Kids).bind fun q96 => match q96 with | .ret r => some r | .next () => some 0))))))))
def FareCondcheck (fu : Nat) (x0 : FareCond) : Option Int := ((FareCondsize fu x0).bind fun q52 => (bnd ((if decide (q52.1 > 40) then true else decide (q52.2 > 6)) : Bool) fun q58 => (if q58 then some 4 else ((FareCondnode fu x0).bind fun q62 => some q62))))
def FareCheckTariff.loop1 (x0 : FareTariff) : (List FareBand) → Nat → Option (Out Int Unit)
  | [], _ => some (.next ())
  | x63 :: rest64, k62 => (bnd ((if !(Farewithin x63.Upto 1 1000) then true else !(Farewithin x63.Price 0 100000)) : Bool) fun q81 => (if q81 then some (.ret 2) else (((if decide (((k62 : Nat) : Int) > 0) then ((gx x0.Bands (w64 (((k62 : Nat) : Int) - 1))).bind fun x92 => (if decide (x63.Upto ≤ x92.Upto) then some true else ((gx x0.Bands (w64 (((k62 : Nat) : Int) - 1))).bind fun x102 => some (decide (x63.Price < x102.Price))))) else some false) : Option Bool).bind fun q89 => (if q89 then some (.ret 1) else FareCheckTariff.loop1 x0 rest64 (k62 + 1)))))
def FareCheckTariff.loop2 (fu : Nat) : (List FareRule) → Option (Out Int Unit)
  | [] => some (.next ())
  | x116 :: rest117 => ((FareCondcheck fu x116.If).bind fun q133 => (if (q133 != 0) then some (.ret q133) else (bnd ((if (x116.Do == 1) then 200 else 100000) : Int) fun q140 => (if !(Farewithin x116.Do 1 6) then some (.ret 15) else (if !(Farewithin x116.N 0 q140) then some (.ret 2) else FareCheckTariff.loop2 fu rest117)))))
def FareCheckTariff (fu : Nat) (x0 : FareTariff) : Option Int := (bnd ((if !(Farewithin ((x0.Bands).length : Int) 1 8) then true else decide (((x0.Rules).length : Int) > 20)) : Bool) fun q56 => (if q56 then some 4 else ((FareCheckTariff.loop1 x0 x0.Bands 0).bind fun q61 => match q61 with | .ret r => some r | .next () => (if !(Farewithin x0.Round 1 100) then some 2 else ((FareCheckTariff.loop2 fu x0.Rules).bind fun q114 => match q114 with | .ret r => some r | .next () => some 0)))))
def FarecheckZones.loop1 (x0 : List Int) (x1 : Bool) : (List Int) → Nat → Option (Out Int Unit)
  | [], _ => some (.next ())
  | x54 :: rest55, k53 => (if !(Farewithin x54 0 19) then some (.ret 2) else (((if decide (((k53 : Nat) : Int) > 0) then ((gx x0 (w64 (((k53 : Nat) : Int) - 1))).bind fun x75 => (if (x54 == x75) then some true else (if x1 then ((gx x0 (w64 (((k53 : Nat) : Int) - 1))).bind fun x86 => some (decide (x54 < x86))) else some false))) else some false) : Option Bool).bind fun q72 => (if q72 then some (.ret 1) else FarecheckZones.loop1 x0 x1 rest55 (k53 + 1))))
def FarecheckZones (x0 : List Int) (x1 : Bool) : Option Int := ((FarecheckZones.loop1 x0 x1 x0 0).bind fun q52 => match q52 with | .ret r => some r | .next () => some 0)
def FareCheckTrip (x0 : FareTrip) : Option Int := (bnd ((if !(Farewithin x0.Day 0 6) then true else (if !(Farewithin x0.At 0 28800) then true else (if !(Farewithin x0.Km 0 1000) then true else !(Farewithin x0.Age 0 120)))) : Bool) fun q56 => (if q56 then some 2 else (if !(Farewithin ((x0.Zones).length : Int) 1 10) then some 4 else ((FarecheckZones x0.Zones false).bind fun q63 => some q63))))
def FareTariffprice_1_v1 (x0 : FareBand) (y0 : Int) : Bool := decide (x0.Upto ≥ y0)
def SlicesIndexFuncLfareBand_v1.loop1 (y0 : Int) : (List FareBand) → Nat → Out Int Unit
  | [], _ => (.next ())
  | x54 :: rest55, k53 => (if (FareTariffprice_1_v1 x54 y0) then (.ret ((k53 : Nat) : Int)) else SlicesIndexFuncLfareBand_v1.loop1 y0 rest55 (k53 + 1))
def SlicesIndexFuncLfareBand_v1 (x0 : List FareBand) (y0 : Int) : Int := (bnd (SlicesIndexFuncLfareBand_v1.loop1 y0 x0 0) fun q52 => match q52 with | .ret r => r | .next () => (-1))
def FareCondholds_1_v1 (x0 : Int) (y0 : FareCond) : Bool := (Farewithin x0 y0.A y0.B)
def SlicesIndexLint.loop1 (x1 : Int) : (List Int) → Nat → Out Int Unit
  | [], _ => (.next ())
  | x54 :: rest55, k53 => (if (x1 == x54) then (.ret ((k53 : Nat) : Int)) else SlicesIndexLint.loop1 x1 rest55 (k53 + 1))
def SlicesIndexLint (x0 : List Int) (x1 : Int) : Int := (bnd (SlicesIndexLint.loop1 x1 x0 0) fun q52 => match q52 with | .ret r => r | .next () => (-1))
def SlicesContainsLint (x0 : List Int) (x1 : Int) : Bool := decide ((SlicesIndexLint x0 x1) ≥ 0)
def FareCondholds_2_v1 (self_FareCondholds : FareCond → FareTrip → Option Bool) (x0 : FareCond) (y0 : FareTrip) : Option Bool := ((self_FareCondholds x0 y0).bind fun q52 => some !q52)
def SlicesIndexFuncLfareCond_v1.loop1 (y0 : FareTrip) (self_FareCondholds : FareCond → FareTrip → Option Bool) : (List FareCond) → Nat → Option (Out Int Unit)
  | [], _ => some (.next ())
  | x54 :: rest55, k53 => ((FareCondholds_2_v1 self_FareCondholds x54 y0).bind fun q70 => (if q70 then some (.ret ((k53 : Nat) : Int)) else SlicesIndexFuncLfareCond_v1.loop1 y0 self_FareCondholds rest55 (k53 + 1)))
def SlicesIndexFuncLfareCond_v1 (self_FareCondholds : FareCond → FareTrip → Option Bool) (x0 : List FareCond) (y0 : FareTrip) : Option Int := ((SlicesIndexFuncLfareCond_v1.loop1 y0 self_FareCondholds x0 0).bind fun q52 => match q52 with | .ret r => some r | .next () => some (-1))
def SlicesContainsFuncLfareCond_v1 (self_FareCondholds : FareCond → FareTrip → Option Bool) (x0 : List FareCond) (y0 : FareTrip) : Option Bool := ((SlicesIndexFuncLfareCond_v1 self_FareCondholds x0 y0).bind fun q51 => some (decide (q51 ≥ 0)))
def FareCondholds_3_v1 (self_FareCondholds : FareCond → FareTrip → Option Bool) (x0 : FareCond) (y0 : FareTrip) : Option Bool := ((self_FareCondholds x0 y0).bind fun q52 => some q52)
def SlicesIndexFuncLfareCond_v2.loop1 (y0 : FareTrip) (self_FareCondholds : FareCond → FareTrip → Option Bool) : (List FareCond) → Nat → Option (Out Int Unit)
  | [], _ => some (.next ())
  | x54 :: rest55, k53 => ((FareCondholds_3_v1 self_FareCondholds x54 y0).bind fun q70 => (if q70 then some (.ret ((k53 : Nat) : Int)) else SlicesIndexFuncLfareCond_v2.loop1 y0 self_FareCondholds rest55 (k53 + 1)))
def SlicesIndexFuncLfareCond_v2 (self_FareCondholds : FareCond → FareTrip → Option Bool) (x0 : List FareCond) (y0 : FareTrip) : Option Int := ((SlicesIndexFuncLfareCond_v2.loop1 y0 self_FareCondholds x0 0).bind fun q52 => match q52 with | .ret r => some r | .next () => some (-1))
def SlicesContainsFuncLfareCond_v2 (self_FareCondholds : FareCond → FareTrip → Option Bool) (x0 : List FareCond) (y0 : FareTrip) : Option Bool := ((SlicesIndexFuncLfareCond_v2 self_FareCondholds x0 y0).bind fun q51 => some (decide (q51 ≥ 0)))
def FareCondholds : Nat → FareCond → FareTrip → Option Bool
  | 0, _, _ => none
  | fu + 1, x0, x1 => (if (x0.Kind == 1) then some x1.Card else (if (x0.Kind == 2) then some (FareCondholds_1_v1 x1.Age x0) else (if (x0.Kind == 3) then some (FareCondholds_1_v1 x1.At x0) else (if (x0.Kind == 4) then some (FareCondholds_1_v1 x1.Km x0) else (if (x0.Kind == 5) then some (FareCondholds_1_v1 ((x1.Zones).length : Int) x0) else (if (x0.Kind == 6) then some (SlicesContainsLint x1.Zones x0.A) else (if (x0.Kind == 7) then ((gx x1.Zones 0).bind fun x60 => some (x60 == x0.A)) else (if (x0.Kind == 8) then ((gx x1.Zones (w64 (((x1.Zones).length : Int) - 1))).bind fun x70 => some (x70 == x0.A)) else (if (x0.Kind == 9) then ((gx x0.Kids 0).bind fun x80 => (((FareCondholds fu) x80 x1).bind fun q92 => some !q92)) else (if (x0.Kind == 10) then ((SlicesContainsFuncLfareCond_v1 (FareCondholds fu) x0.Kids x1).bind fun q95 => some !q95) else (if (x0.Kind == 11) then ((SlicesContainsFuncLfareCond_v2 (FareCondholds fu) x0.Kids x1).bind fun q98 => some q98) else some true)))))))))))
def FareRulechange (x0 : FareRule) (x1 : Int) : Int := (if (x0.Do == 1) then mn 100000 (w64 (Int.tdiv (w64 (x1 * x0.N)) 100)) else (if (x0.Do == 2) then mx 0 (w64 (x1 - x0.N)) else (if (x0.Do == 3) then mn 100000 (w64 (x1 + x0.N)) else (if (x0.Do == 4) then x0.N else (if (x0.Do == 5) then mn x1 x0.N else mx x1 x0.N)))))
def FareTariffprice.loop1 (x1 : FareTrip) (fu : Nat) : (List FareRule) → Nat → Int → (List Int) → Option (Int × (List Int))
  | [], _, q89, q90 => some (q89, q90)
  | x81 :: rest82, k80, q89, q90 => ((FareCondholds fu x81.If x1).bind fun q106 => (if !q106 then FareTariffprice.loop1 x1 fu rest82 (k80 + 1) q89 q90 else ((apd q90 [((k80 : Nat) : Int)]).bind fun x110 => (if x81.Stop then some ((FareRulechange x81 q89), x110) else FareTariffprice.loop1 x1 fu rest82 (k80 + 1) (FareRulechange x81 q89) x110))))
def FareTariffprice (fu : Nat) (x0 : FareTariff) (x1 : FareTrip) : Option (Int × (List Int)) := (bnd ((if x0.ByKm then x1.Km else ((x1.Zones).length : Int)) : Int) fun q58 => (bnd ((if decide ((SlicesIndexFuncLfareBand_v1 x0.Bands q58) < 0) then w64 (((x0.Bands).length : Int) - 1) else (SlicesIndexFuncLfareBand_v1 x0.Bands q58)) : Int) fun q65 => ((gx x0.Bands q65).bind fun x68 => ((FareTariffprice.loop1 x1 fu x0.Rules 0 x68.Price []).bind fun q79 => match q79 with | (q89, q90) => ((dv (w64 ((w64 (q89 + x0.Round)) - 1)) x0.Round).bind fun x117 => some (w64 (x117 * x0.Round), q90))))))
def FarePrice (fu : Nat) (x0 : FareTariff) (x1 : FareTrip) : Option (Int × (List Int) × Int) := ((FareCheckTariff fu x0).bind fun q53 => (if (q53 != 0) then some (0, [], q53) else ((FareCheckTrip x1).bind fun q57 => (if (q57 != 0) then some (0, [], q57) else ((FareTariffprice fu x0 x1).bind fun q61 => some (q61.1, q61.2, 0))))))
def SlicesEqualLint.loop1 (x1 : List Int) : (List Int) → Nat → Option (Out Bool Unit)
  | [], _ => some (.next ())
  | x55 :: rest56, k54 => ((gx x1 ((k54 : Nat) : Int)).bind fun x68 => (if (x55 != x68) then some (.ret false) else SlicesEqualLint.loop1 x1 rest56 (k54 + 1)))
def SlicesEqualLint (x0 : List Int) (x1 : List Int) : Option Bool := (if (((x0).length : Int) != ((x1).length : Int)) then some false else ((SlicesEqualLint.loop1 x1 x0 0).bind fun q53 => match q53 with | .ret r => some r | .next () => some true))
def Fishlaw2fares (fu : Nat) : Option Bool := ((FarePrice fu (FareTariff.mk false [(FareBand.mk 3 500)] 50 [(FareRule.mk (FareCond.mk 2 0 14 []) 1 50 false)]) (FareTrip.mk 0 0 0 10 false [1, 2])).bind fun q70 => (((if (q70.2.2 == 0) then (if (q70.1 == 250) then ((SlicesEqualLint q70.2.1 [0]).bind fun q92 => some q92) else some false) else some false) : Option Bool).bind fun q82 => some q82))
def Fishref2OwesOf.loop2 (k59 : Nat) : (List Int) → Nat → (List Int) → Option (List Int)
  | [], _, q93 => some q93
  | x85 :: rest86, k84, q93 => ((gx q93 ((k59 : Nat) : Int)).bind fun x104 => ((ix q93 ((k59 : Nat) : Int)).bind fun _ => ((sx q93 ((k59 : Nat) : Int) (w64 (x104 + x85))).bind fun x119 => ((gx x119 ((k84 : Nat) : Int)).bind fun x124 => ((ix x119 ((k84 : Nat) : Int)).bind fun _ => ((sx x119 ((k84 : Nat) : Int) (w64 (x124 - x85))).bind fun x139 => Fishref2OwesOf.loop2 k59 rest86 (k84 + 1) x139))))))
def Fishref2OwesOf.loop1 : (List (List Int)) → Nat → (List Int) → Option (List Int)
  | [], _, q68 => some q68
  | x60 :: rest61, k59, q68 => ((Fishref2OwesOf.loop2 k59 x60 0 q68).bind fun q93 => Fishref2OwesOf.loop1 rest61 (k59 + 1) q93)
def Fishref2OwesOf (x0 : List (List Int)) : Option (List Int) := ((mks ((x0).length : Int) (0 : Int)).bind fun x51 => ((Fishref2OwesOf.loop1 x0 0 x51).bind fun q68 => some q68))
def Fishref2PaymentsOf.loop1 : (List Int) → (List Int) → Option (List Int)
  | [], q63 => some q63
  | x55 :: rest56, q63 => (((if (x55 != 0) then ((apd q63 [x55]).bind fun x89 => some x89) else some q63) : Option (List Int)).bind fun q79 => Fishref2PaymentsOf.loop1 rest56 q79)
def Fishref2PaymentsOf.loop3 (q63 : List Int) (q107 : Int) : Nat → Nat → Int → Option Int
  | 0, _, q128 => some q128
  | rest120 + 1, k118, q128 => ((gx q63 ((k118 : Nat) : Int)).bind fun x130 => (bnd ((if ((IntKind.wrap .i64 ((BitVec.ofInt (IntKind.bits .i64) (Int.fdiv q107 (2 ^ (min (Int.toNat ((k118 : Nat) : Int)) (IntKind.bits .i64)))) &&& BitVec.ofInt (IntKind.bits .i64) 1).toNat : Int)) == 1) then w64 (q128 + x130) else q128) : Int) fun q144 => Fishref2PaymentsOf.loop3 q63 q107 rest120 (k118 + 1) q144))
def Fishref2PaymentsOf.loop4 (q107 : Int) : Nat → Nat → (List Int) → Option (List Int)
  | 0, _, q159 => some q159
  | rest151 + 1, k149, q159 => (((if ((IntKind.wrap .i64 ((BitVec.ofInt (IntKind.bits .i64) (Int.fdiv q107 (2 ^ (min (Int.toNat ((k149 : Nat) : Int)) (IntKind.bits .i64)))) &&& BitVec.ofInt (IntKind.bits .i64) 1).toNat : Int)) == 1) then ((gx q159 q107).bind fun x179 => ((gx q159 (IntKind.wrap .i64 ((BitVec.ofInt (IntKind.bits .i64) q107 &&& ~~~ BitVec.ofInt (IntKind.bits .i64) (IntKind.wrap .i64 (1 * (2 ^ (min (Int.toNat ((k149 : Nat) : Int)) (IntKind.bits .i64)))))).toNat : Int))).bind fun x189 => ((ix q159 q107).bind fun _ => ((sx q159 q107 (mx x179 x189)).bind fun x204 => some x204)))) else some q159) : Option (List Int)).bind fun q170 => Fishref2PaymentsOf.loop4 q107 rest151 (k149 + 1) q170)
def Fishref2PaymentsOf.loop2 (q63 : List Int) (x95 : List Int) : Nat → Int → (List Int) → Option (Int × (List Int))
  | 0, _, _ => none
  | n103 + 1, q107, q108 => (if decide (q107 < ((x95.length : Nat) : Int)) then ((Fishref2PaymentsOf.loop3 q63 q107 q63.length 0 0).bind fun q128 => ((Fishref2PaymentsOf.loop4 q107 q63.length 0 q108).bind fun q159 => (((if (q128 == 0) then ((gx q159 q107).bind fun x221 => ((ix q159 q107).bind fun _ => ((sx q159 q107 (w64 (x221 + 1))).bind fun x236 => some x236))) else some q159) : Option (List Int)).bind fun q213 => Fishref2PaymentsOf.loop2 q63 x95 n103 (w64 (q107 + 1)) q213))) else some (q107, q108))
def Fishref2PaymentsOf (fu : Nat) (x0 : List Int) : Option Int := ((Fishref2PaymentsOf.loop1 x0 []).bind fun q63 => ((mks (IntKind.wrap .i64 (1 * (2 ^ (min (Int.toNat ((q63.length : Nat) : Int)) (IntKind.bits .i64))))) (0 : Int)).bind fun x95 => ((Fishref2PaymentsOf.loop2 q63 x95 fu 1 x95).bind fun q102 => match q102 with | (_, q108) => ((gx q108 (w64 (((x95.length : Nat) : Int) - 1))).bind fun x241 => some (w64 (((q63.length : Nat) : Int) - x241))))))
def SlicesCompareLint.loop1 (x1 : List Int) : (List Int) → Nat → Option (Out Int Unit)
  | [], _ => some (.next ())
  | x54 :: rest55, k53 => (if decide (((k53 : Nat) : Int) ≥ ((x1).length : Int)) then some (.ret 1) else ((gx x1 ((k53 : Nat) : Int)).bind fun x68 => (if ((CmpCompareint x54 x68) != 0) then some (.ret (CmpCompareint x54 x68)) else SlicesCompareLint.loop1 x1 rest55 (k53 + 1))))
def SlicesCompareLint (x0 : List Int) (x1 : List Int) : Option Int := ((SlicesCompareLint.loop1 x1 x0 0).bind fun q52 => match q52 with | .ret r => some r | .next () => (if decide (((x0).length : Int) < ((x1).length : Int)) then some (-1) else some 0))
def Fishlaw2FareSettles_1 (x0 : Int) : Bool := (x0 != 0)
def SlicesIndexFuncLint_v1.loop1 : (List Int) → Nat → Out Int Unit
  | [], _ => (.next ())
  | x54 :: rest55, k53 => (if (Fishlaw2FareSettles_1 x54) then (.ret ((k53 : Nat) : Int)) else SlicesIndexFuncLint_v1.loop1 rest55 (k53 + 1))
def SlicesIndexFuncLint_v1 (x0 : List Int) : Int := (bnd (SlicesIndexFuncLint_v1.loop1 x0 0) fun q52 => match q52 with | .ret r => r | .next () => (-1))
def SlicesContainsFuncLint_v1 (x0 : List Int) : Bool := decide ((SlicesIndexFuncLint_v1 x0) ≥ 0)
def Fishlaw2FareSettles.loop1 (q51 : (List FarePayment) × Int) (q82 : (List Int)) : Nat → Nat → (List Int) → Option (Out Bool (List Int))
  | 0, _, q109 => some (.next q109)
  | rest101 + 1, k99, q109 => ((gx q51.1 ((k99 : Nat) : Int)).bind fun x116 => (bnd ((if decide (x116.From < 0) then true else (if decide (x116.From ≥ ((q82.length : Nat) : Int)) then true else (if decide (x116.To < 0) then true else (if decide (x116.To ≥ ((q82.length : Nat) : Int)) then true else (if (x116.From == x116.To) then true else (if decide (x116.Sum < 1) then true else decide (x116.Sum > 1099511627776))))))) : Bool) fun q131 => (if q131 then some (.ret false) else (((if decide (((k99 : Nat) : Int) > 0) then ((gx q51.1 (w64 (((k99 : Nat) : Int) - 1))).bind fun x148 => ((gx q51.1 (w64 (((k99 : Nat) : Int) - 1))).bind fun x158 => ((SlicesCompareLint [x116.From, x116.To] [x148.From, x158.To]).bind fun q180 => some (decide (q180 ≤ 0))))) else some false) : Option Bool).bind fun q144 => (if q144 then some (.ret false) else ((gx q109 x116.From).bind fun x186 => ((ix q109 x116.From).bind fun _ => ((sx q109 x116.From (w64 (x186 - x116.Sum))).bind fun x201 => ((gx x201 x116.To).bind fun x207 => ((ix x201 x116.To).bind fun _ => ((sx x201 x116.To (w64 (x207 + x116.Sum))).bind fun x222 => Fishlaw2FareSettles.loop1 q51 q82 rest101 (k99 + 1) x222)))))))))))
def Fishlaw2FareSettles (fu : Nat) (x0 : List (List Int)) : Option Bool := ((FareSettle fu x0).bind fun q51 => (if ((Fishref2DebtsFault x0) != 0) then ((((Fishlaw2fares fu).bind fun q68 => (if q68 then (if (q51.2 == (Fishref2DebtsFault x0)) then some (((q51.1.length : Nat) : Int) == 0) else some false) else some false)) : Option Bool).bind fun q66 => some q66) else ((((Fishlaw2fares fu).bind fun q78 => (if !q78 then some true else some (q51.2 != 0))) : Option Bool).bind fun q76 => (if q76 then some false else ((Fishref2OwesOf x0).bind fun q82 => ((Fishref2PaymentsOf fu q82).bind fun q90 => (if (((q51.1.length : Nat) : Int) != q90) then some false else ((Fishlaw2FareSettles.loop1 q51 q82 q51.1.length 0 q82).bind fun q98 => match q98 with | .ret r => some r | .next q109 => some (!(SlicesContainsFuncLint_v1 q109))))))))))
end Go.Fp
