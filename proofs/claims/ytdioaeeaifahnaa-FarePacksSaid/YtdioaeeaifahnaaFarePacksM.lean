/- The mirrors of the functions that FarePacks reaches: plain Lean functions on data. No condition. -/
import Derived.Test.YtdioaeeaifahnaaFpCopy
namespace Go.Fp
structure FareBand where
  Upto : Int
  Price : Int
  deriving DecidableEq, Inhabited
-- FareBand is of one size
def FareBand.cells (x : FareBand) : List Go.Value := [.int .i64 x.Upto, .int .i64 x.Price]
def RFareBand : Rd FareBand := fun _ cs x => cs = x.cells
theorem RFareBand.mono : Rmono RFareBand := fun _ _ _ _ _ h => h
theorem RFareBand.one : Rone RFareBand := by intro s cs x h; subst h; rfl

structure FareCond where
  Kind : Int
  A : Int
  B : Int
  Kids : List FareCond
instance : Inhabited FareCond := ⟨⟨0, 0, 0, []⟩⟩
mutual
def szFareCond : FareCond → Nat
  | ⟨_, _, _, k⟩ => szsFareCond k + 1
def szsFareCond : List FareCond → Nat
  | [] => 1
  | x :: r => szFareCond x + szsFareCond r
end
theorem szsFareCond_eq : ∀ l, szsFareCond l = szL szFareCond l
  | [] => rfl
  | x :: r => by rw [szsFareCond, szsFareCond_eq r]; simp only [szL, List.map_cons, List.sum_cons]; omega
def RNFareCond : Nat → Rd FareCond
  | 0 => fun _ _ _ => False
  | n + 1 => fun s cs x => ∃ a0 c0, cs = [.int .i64 x.Kind, .int .i64 x.A, .int .i64 x.B, .slice a0 x.Kids.length c0] ∧ Sl 4 (RNFareCond n) s a0 c0 x.Kids
def RFareCond : Rd FareCond := fun s cs x => ∃ n, RNFareCond n s cs x
theorem RNFareCond.mono : ∀ n, Rmono (RNFareCond n)
  | 0 => fun _ _ _ _ _ h => h.elim
  | n + 1 => fun _ _ h _ _ ⟨a0, c0, e, h0⟩ => ⟨a0, c0, e, h0.mono (RNFareCond.mono n) h⟩
theorem RFareCond.mono : Rmono RFareCond := fun s t h cs x ⟨n, q⟩ => ⟨n, RNFareCond.mono n s t h cs x q⟩
theorem RNFareCond.up : ∀ n s cs x, RNFareCond n s cs x → RNFareCond (n + 1) s cs x
  | 0 => fun _ _ _ h => h.elim
  | n + 1 => fun _ _ _ ⟨a0, c0, e, h0⟩ => ⟨a0, c0, e, h0.impl (RNFareCond.up n)⟩
theorem RFareCond.unf {s : Sg} {cs : List Value} {x : FareCond} (h : RFareCond s cs x) : ∃ a0 c0, cs = [.int .i64 x.Kind, .int .i64 x.A, .int .i64 x.B, .slice a0 x.Kids.length c0] ∧ Sl 4 RFareCond s a0 c0 x.Kids := by
  obtain ⟨n, h⟩ := h
  cases n with
  | zero => exact h.elim
  | succ n => obtain ⟨a0, c0, e, h0⟩ := h; exact ⟨a0, c0, e, h0.impl (fun _ _ _ q => ⟨n, q⟩)⟩
theorem RFareCond.fold {s : Sg} {cs : List Value} {x : FareCond} (h : ∃ a0 c0, cs = [.int .i64 x.Kind, .int .i64 x.A, .int .i64 x.B, .slice a0 x.Kids.length c0] ∧ Sl 4 RFareCond s a0 c0 x.Kids) : RFareCond s cs x := by
  obtain ⟨a0, c0, e, h0⟩ := h
  obtain ⟨n, q⟩ := Sl.level RNFareCond.up h0
  exact ⟨n + 1, a0, c0, e, q⟩
theorem RFareCond.one : Rone RFareCond := by intro s cs x h; obtain ⟨a0, c0, rfl, _⟩ := h.unf; rfl

structure FareRule where
  If : FareCond
  Do : Int
  N : Int
  Stop : Bool
  deriving Inhabited
def szFareRule (x : FareRule) : Nat := szFareCond x.If + 1
def RFareRule : Rd FareRule := fun s cs x => ∃ a0 c0, cs = [.int .i64 x.If.Kind, .int .i64 x.If.A, .int .i64 x.If.B, .slice a0 x.If.Kids.length c0, .int .i64 x.Do, .int .i64 x.N, .bool x.Stop] ∧ Sl 4 RFareCond s a0 c0 x.If.Kids
theorem RFareRule.one : Rone RFareRule := by rintro s cs x ⟨a0, c0, rfl, _⟩; rfl
theorem RFareRule.mono : Rmono RFareRule := fun _ _ h _ _ ⟨a0, c0, e, h0⟩ => ⟨a0, c0, e, h0.mono RFareCond.mono h⟩

structure FareSpan where
  From : Int
  To : Int
  deriving DecidableEq, Inhabited
-- FareSpan is of one size
def FareSpan.cells (x : FareSpan) : List Go.Value := [.int .i64 x.From, .int .i64 x.To]
def RFareSpan : Rd FareSpan := fun _ cs x => cs = x.cells
theorem RFareSpan.mono : Rmono RFareSpan := fun _ _ _ _ _ h => h
theorem RFareSpan.one : Rone RFareSpan := by intro s cs x h; subst h; rfl

structure FareTariff where
  ByKm : Bool
  Bands : List FareBand
  Round : Int
  Rules : List FareRule
  deriving Inhabited
def szFareTariff (x : FareTariff) : Nat := (szL sz1) x.Bands + (szL szFareRule) x.Rules + 1
def RFareTariff : Rd FareTariff := fun s cs x => ∃ a0 c0 a1 c1, cs = [.bool x.ByKm, .slice a0 x.Bands.length c0, .int .i64 x.Round, .slice a1 x.Rules.length c1] ∧ Sl 2 RFareBand s a0 c0 x.Bands ∧ Sl 7 RFareRule s a1 c1 x.Rules
theorem RFareTariff.one : Rone RFareTariff := by rintro s cs x ⟨a0, c0, a1, c1, rfl, _⟩; rfl
theorem RFareTariff.mono : Rmono RFareTariff := fun _ _ h _ _ ⟨a0, c0, a1, c1, e, h0, h1⟩ => ⟨a0, c0, a1, c1, e, h0.mono RFareBand.mono h, h1.mono RFareRule.mono h⟩

structure FareTrip where
  Day : Int
  At : Int
  Km : Int
  Age : Int
  Card : Bool
  Zones : List Int
  deriving DecidableEq, Inhabited
def szFareTrip (x : FareTrip) : Nat := (szL sz1) x.Zones + 1
def RFareTrip : Rd FareTrip := fun s cs x => ∃ a0 c0, cs = [.int .i64 x.Day, .int .i64 x.At, .int .i64 x.Km, .int .i64 x.Age, .bool x.Card, .slice a0 x.Zones.length c0] ∧ Sl 1 (RI .i64) s a0 c0 x.Zones
theorem RFareTrip.one : Rone RFareTrip := by rintro s cs x ⟨a0, c0, rfl, _⟩; rfl
theorem RFareTrip.mono : Rmono RFareTrip := fun _ _ h _ _ ⟨a0, c0, e, h0⟩ => ⟨a0, c0, e, h0.mono RI.mono h⟩
def Farewithin (x0 : Int) (x1 : Int) (x2 : Int) : Bool := (bnd ((if decide (x0 ≥ x1) then decide (x0 ≤ x2) else false) : Bool) fun q55 => q55)
def Farespan (x0 : Int) (x1 : Int) (x2 : Int) : Bool := (bnd ((if decide (x0 ≥ 0) then (if decide (x0 < x1) then decide (x1 < x2) else false) else false) : Bool) fun q55 => q55)
def CmpisNaNint (x0 : Int) : Bool := (x0 != x0)
def CmpCompareint (x0 : Int) (x1 : Int) : Int := (if (CmpisNaNint x0) then (if (CmpisNaNint x1) then 0 else (-1)) else (if (CmpisNaNint x1) then 1 else (if decide (x0 < x1) then (-1) else (if decide (x0 > x1) then 1 else 0))))
def FarePack_1_v1 (x0 : Int) (x1 : Int) (y0 : List FareSpan) : Option Int := ((gx y0 x0).bind fun x51 => ((gx y0 x1).bind fun x60 => some (CmpCompareint x51.From x60.From)))
def SlicesinsertionSortCmpFuncint_v1.loop2 (x1 : Int) (y0 : List FareSpan) : Nat → Int → (List Int) → Option (Int × (List Int))
  | 0, _, _ => none
  | n74 + 1, q78, q79 => (((if decide (q78 > x1) then ((gx q79 q78).bind fun x93 => ((gx q79 (w64 (q78 - 1))).bind fun x103 => ((FarePack_1_v1 x93 x103 y0).bind fun q113 => some (decide (q113 < 0))))) else some false) : Option Bool).bind fun q90 => (if q90 then ((gx q79 (w64 (q78 - 1))).bind fun x117 => ((gx q79 q78).bind fun x127 => ((ix q79 q78).bind fun _ => ((sx q79 q78 x117).bind fun x142 => ((ix x142 (w64 (q78 - 1))).bind fun _ => ((sx x142 (w64 (q78 - 1)) x127).bind fun x152 => SlicesinsertionSortCmpFuncint_v1.loop2 x1 y0 n74 (w64 (q78 - 1)) x152)))))) else some (q78, q79)))
def SlicesinsertionSortCmpFuncint_v1.loop1 (x1 : Int) (x2 : Int) (y0 : List FareSpan) (fu : Nat) : Nat → Int → (List Int) → Option (Int × (List Int))
  | 0, _, _ => none
  | n59 + 1, q63, q64 => (if decide (q63 < x2) then ((SlicesinsertionSortCmpFuncint_v1.loop2 x1 y0 fu q63 q64).bind fun q73 => match q73 with | (_, q79) => SlicesinsertionSortCmpFuncint_v1.loop1 x1 x2 y0 fu n59 (w64 (q63 + 1)) q79) else some (q63, q64))
def SlicesinsertionSortCmpFuncint_v1 (fu : Nat) (x0 : List Int) (x1 : Int) (x2 : Int) (y0 : List FareSpan) : Option (List Int) := ((SlicesinsertionSortCmpFuncint_v1.loop1 x1 x2 y0 fu fu (w64 (x1 + 1)) x0).bind fun q58 => match q58 with | (_, q64) => some q64)
def SlicesswapRangeCmpFuncint_v1.loop1 (x1 : Int) (x2 : Int) (x3 : Int) : Nat → Int → (List Int) → Option (Int × (List Int))
  | 0, _, _ => none
  | n59 + 1, q63, q64 => (if decide (q63 < x3) then ((gx q64 (w64 (x2 + q63))).bind fun x73 => ((gx q64 (w64 (x1 + q63))).bind fun x83 => ((ix q64 (w64 (x1 + q63))).bind fun _ => ((sx q64 (w64 (x1 + q63)) x73).bind fun x98 => ((ix x98 (w64 (x2 + q63))).bind fun _ => ((sx x98 (w64 (x2 + q63)) x83).bind fun x108 => SlicesswapRangeCmpFuncint_v1.loop1 x1 x2 x3 n59 (w64 (q63 + 1)) x108)))))) else some (q63, q64))
def SlicesswapRangeCmpFuncint_v1 (fu : Nat) (x0 : List Int) (x1 : Int) (x2 : Int) (x3 : Int) (_y0 : List FareSpan) : Option (List Int) := ((SlicesswapRangeCmpFuncint_v1.loop1 x1 x2 x3 fu 0 x0).bind fun q58 => match q58 with | (_, q64) => some q64)
def SlicesrotateCmpFuncint_v1.loop1 (x2 : Int) (y0 : List FareSpan) (fu : Nat) : Nat → Int → Int → (List Int) → Option (Int × Int × (List Int))
  | 0, _, _, _ => none
  | n59 + 1, q63, q64, q65 => (if (q63 != q64) then (((if decide (q63 > q64) then ((SlicesswapRangeCmpFuncint_v1 fu q65 (w64 (x2 - q63)) x2 q64 y0).bind fun q87 => some (w64 (q63 - q64), q64, q87)) else ((SlicesswapRangeCmpFuncint_v1 fu q65 (w64 (x2 - q63)) (w64 ((w64 (x2 + q64)) - q63)) q63 y0).bind fun q92 => some (q63, w64 (q64 - q63), q92))) : Option (Int × Int × (List Int))).bind fun q74 => match q74 with | (q77, q78, q79) => SlicesrotateCmpFuncint_v1.loop1 x2 y0 fu n59 q77 q78 q79) else some (q63, q64, q65))
def SlicesrotateCmpFuncint_v1 (fu : Nat) (x0 : List Int) (x1 : Int) (x2 : Int) (x3 : Int) (y0 : List FareSpan) : Option (List Int) := ((SlicesrotateCmpFuncint_v1.loop1 x2 y0 fu fu (w64 (x2 - x1)) (w64 (x3 - x2)) x0).bind fun q58 => match q58 with | (q63, _, q65) => ((SlicesswapRangeCmpFuncint_v1 fu q65 (w64 (x2 - q63)) x2 q63 y0).bind fun q97 => some q97))
def SlicessymMergeCmpFuncint_v1.loop1 (x0 : List Int) (x1 : Int) (y0 : List FareSpan) : Nat → Int → Int → Option (Int × Int)
  | 0, _, _ => none
  | n60 + 1, q64, q65 => (if decide (q64 < q65) then ((gx x0 (w64 (Int.fdiv (IntKind.wrap .u64 (w64 (q64 + q65))) (2 ^ (min (Int.toNat 1) (IntKind.bits .u64)))))).bind fun x68 => ((gx x0 x1).bind fun x78 => ((FarePack_1_v1 x68 x78 y0).bind fun q88 => (bnd ((if decide (q88 < 0) then (w64 ((w64 (Int.fdiv (IntKind.wrap .u64 (w64 (q64 + q65))) (2 ^ (min (Int.toNat 1) (IntKind.bits .u64))))) + 1), q65) else (q64, w64 (Int.fdiv (IntKind.wrap .u64 (w64 (q64 + q65))) (2 ^ (min (Int.toNat 1) (IntKind.bits .u64)))))) : Int × Int) fun q91 => match q91 with | (q94, q95) => SlicessymMergeCmpFuncint_v1.loop1 x0 x1 y0 n60 q94 q95)))) else some (q64, q65))
def SlicessymMergeCmpFuncint_v1.loop2 (q64 : Int) : Nat → Int → (List Int) → Option (Int × (List Int))
  | 0, _, _ => none
  | n100 + 1, q104, q105 => (if decide (q104 < (w64 (q64 - 1))) then ((gx q105 (w64 (q104 + 1))).bind fun x114 => ((gx q105 q104).bind fun x124 => ((ix q105 q104).bind fun _ => ((sx q105 q104 x114).bind fun x139 => ((ix x139 (w64 (q104 + 1))).bind fun _ => ((sx x139 (w64 (q104 + 1)) x124).bind fun x149 => SlicessymMergeCmpFuncint_v1.loop2 q64 n100 (w64 (q104 + 1)) x149)))))) else some (q104, q105))
def SlicessymMergeCmpFuncint_v1.loop3 (x0 : List Int) (x2 : Int) (y0 : List FareSpan) : Nat → Int → Int → Option (Int × Int)
  | 0, _, _ => none
  | n157 + 1, q161, q162 => (if decide (q161 < q162) then ((gx x0 x2).bind fun x165 => ((gx x0 (w64 (Int.fdiv (IntKind.wrap .u64 (w64 (q161 + q162))) (2 ^ (min (Int.toNat 1) (IntKind.bits .u64)))))).bind fun x175 => ((FarePack_1_v1 x165 x175 y0).bind fun q185 => (bnd ((if !(decide (q185 < 0)) then (w64 ((w64 (Int.fdiv (IntKind.wrap .u64 (w64 (q161 + q162))) (2 ^ (min (Int.toNat 1) (IntKind.bits .u64))))) + 1), q162) else (q161, w64 (Int.fdiv (IntKind.wrap .u64 (w64 (q161 + q162))) (2 ^ (min (Int.toNat 1) (IntKind.bits .u64)))))) : Int × Int) fun q188 => match q188 with | (q191, q192) => SlicessymMergeCmpFuncint_v1.loop3 x0 x2 y0 n157 q191 q192)))) else some (q161, q162))
def SlicessymMergeCmpFuncint_v1.loop4 (q161 : Int) : Nat → Int → (List Int) → Option (Int × (List Int))
  | 0, _, _ => none
  | n197 + 1, q201, q202 => (if decide (q201 > q161) then ((gx q202 (w64 (q201 - 1))).bind fun x211 => ((gx q202 q201).bind fun x221 => ((ix q202 q201).bind fun _ => ((sx q202 q201 x211).bind fun x236 => ((ix x236 (w64 (q201 - 1))).bind fun _ => ((sx x236 (w64 (q201 - 1)) x221).bind fun x246 => SlicessymMergeCmpFuncint_v1.loop4 q161 n197 (w64 (q201 - 1)) x246)))))) else some (q201, q202))
def SlicessymMergeCmpFuncint_v1.loop5 (x0 : List Int) (x1 : Int) (x2 : Int) (x3 : Int) (y0 : List FareSpan) : Nat → Int → Int → Option (Int × Int)
  | 0, _, _ => none
  | n261 + 1, q265, q266 => (if decide (q265 < q266) then ((gx x0 (w64 ((w64 ((w64 ((w64 (Int.fdiv (IntKind.wrap .u64 (w64 (x1 + x3))) (2 ^ (min (Int.toNat 1) (IntKind.bits .u64))))) + x2)) - 1)) - (w64 (Int.fdiv (IntKind.wrap .u64 (w64 (q265 + q266))) (2 ^ (min (Int.toNat 1) (IntKind.bits .u64)))))))).bind fun x269 => ((gx x0 (w64 (Int.fdiv (IntKind.wrap .u64 (w64 (q265 + q266))) (2 ^ (min (Int.toNat 1) (IntKind.bits .u64)))))).bind fun x279 => ((FarePack_1_v1 x269 x279 y0).bind fun q289 => (bnd ((if !(decide (q289 < 0)) then (w64 ((w64 (Int.fdiv (IntKind.wrap .u64 (w64 (q265 + q266))) (2 ^ (min (Int.toNat 1) (IntKind.bits .u64))))) + 1), q266) else (q265, w64 (Int.fdiv (IntKind.wrap .u64 (w64 (q265 + q266))) (2 ^ (min (Int.toNat 1) (IntKind.bits .u64)))))) : Int × Int) fun q292 => match q292 with | (q295, q296) => SlicessymMergeCmpFuncint_v1.loop5 x0 x1 x2 x3 y0 n261 q295 q296)))) else some (q265, q266))
def SlicessymMergeCmpFuncint_v1 : Nat → (List Int) → Int → Int → Int → (List FareSpan) → Option (List Int)
  | 0, _, _, _, _, _ => none
  | fu + 1, x0, x1, x2, x3, y0 => (if ((w64 (x2 - x1)) == 1) then ((SlicessymMergeCmpFuncint_v1.loop1 x0 x1 y0 fu x2 x3).bind fun q59 => match q59 with | (q64, _) => ((SlicessymMergeCmpFuncint_v1.loop2 q64 fu x1 x0).bind fun q99 => match q99 with | (_, q105) => some q105)) else (if ((w64 (x3 - x2)) == 1) then ((SlicessymMergeCmpFuncint_v1.loop3 x0 x2 y0 fu x1 x2).bind fun q156 => match q156 with | (q161, _) => ((SlicessymMergeCmpFuncint_v1.loop4 q161 fu x2 x0).bind fun q196 => match q196 with | (_, q202) => some q202)) else (bnd ((if decide (x2 > (w64 (Int.fdiv (IntKind.wrap .u64 (w64 (x1 + x3))) (2 ^ (min (Int.toNat 1) (IntKind.bits .u64)))))) then (w64 ((w64 ((w64 (Int.fdiv (IntKind.wrap .u64 (w64 (x1 + x3))) (2 ^ (min (Int.toNat 1) (IntKind.bits .u64))))) + x2)) - x3), w64 (Int.fdiv (IntKind.wrap .u64 (w64 (x1 + x3))) (2 ^ (min (Int.toNat 1) (IntKind.bits .u64))))) else (x1, x2)) : Int × Int) fun q252 => match q252 with | (q255, q256) => ((SlicessymMergeCmpFuncint_v1.loop5 x0 x1 x2 x3 y0 fu q255 q256).bind fun q260 => match q260 with | (q265, _) => (bnd ((if decide (q265 < x2) then decide (x2 < (w64 ((w64 ((w64 (Int.fdiv (IntKind.wrap .u64 (w64 (x1 + x3))) (2 ^ (min (Int.toNat 1) (IntKind.bits .u64))))) + x2)) - q265))) else false) : Bool) fun q303 => (if q303 then ((SlicesrotateCmpFuncint_v1 fu x0 q265 x2 (w64 ((w64 ((w64 (Int.fdiv (IntKind.wrap .u64 (w64 (x1 + x3))) (2 ^ (min (Int.toNat 1) (IntKind.bits .u64))))) + x2)) - q265)) y0).bind fun q307 => (bnd ((if decide (x1 < q265) then decide (q265 < (w64 (Int.fdiv (IntKind.wrap .u64 (w64 (x1 + x3))) (2 ^ (min (Int.toNat 1) (IntKind.bits .u64)))))) else false) : Bool) fun q316 => (if q316 then (((SlicessymMergeCmpFuncint_v1 fu) q307 x1 q265 (w64 (Int.fdiv (IntKind.wrap .u64 (w64 (x1 + x3))) (2 ^ (min (Int.toNat 1) (IntKind.bits .u64))))) y0).bind fun q320 => (bnd ((if decide ((w64 (Int.fdiv (IntKind.wrap .u64 (w64 (x1 + x3))) (2 ^ (min (Int.toNat 1) (IntKind.bits .u64))))) < (w64 ((w64 ((w64 (Int.fdiv (IntKind.wrap .u64 (w64 (x1 + x3))) (2 ^ (min (Int.toNat 1) (IntKind.bits .u64))))) + x2)) - q265))) then decide ((w64 ((w64 ((w64 (Int.fdiv (IntKind.wrap .u64 (w64 (x1 + x3))) (2 ^ (min (Int.toNat 1) (IntKind.bits .u64))))) + x2)) - q265)) < x3) else false) : Bool) fun q329 => (if q329 then (((SlicessymMergeCmpFuncint_v1 fu) q320 (w64 (Int.fdiv (IntKind.wrap .u64 (w64 (x1 + x3))) (2 ^ (min (Int.toNat 1) (IntKind.bits .u64))))) (w64 ((w64 ((w64 (Int.fdiv (IntKind.wrap .u64 (w64 (x1 + x3))) (2 ^ (min (Int.toNat 1) (IntKind.bits .u64))))) + x2)) - q265)) x3 y0).bind fun q333 => some q333) else some q320))) else (bnd ((if decide ((w64 (Int.fdiv (IntKind.wrap .u64 (w64 (x1 + x3))) (2 ^ (min (Int.toNat 1) (IntKind.bits .u64))))) < (w64 ((w64 ((w64 (Int.fdiv (IntKind.wrap .u64 (w64 (x1 + x3))) (2 ^ (min (Int.toNat 1) (IntKind.bits .u64))))) + x2)) - q265))) then decide ((w64 ((w64 ((w64 (Int.fdiv (IntKind.wrap .u64 (w64 (x1 + x3))) (2 ^ (min (Int.toNat 1) (IntKind.bits .u64))))) + x2)) - q265)) < x3) else false) : Bool) fun q342 => (if q342 then (((SlicessymMergeCmpFuncint_v1 fu) q307 (w64 (Int.fdiv (IntKind.wrap .u64 (w64 (x1 + x3))) (2 ^ (min (Int.toNat 1) (IntKind.bits .u64))))) (w64 ((w64 ((w64 (Int.fdiv (IntKind.wrap .u64 (w64 (x1 + x3))) (2 ^ (min (Int.toNat 1) (IntKind.bits .u64))))) + x2)) - q265)) x3 y0).bind fun q346 => some q346) else some q307))))) else (bnd ((if decide (x1 < q265) then decide (q265 < (w64 (Int.fdiv (IntKind.wrap .u64 (w64 (x1 + x3))) (2 ^ (min (Int.toNat 1) (IntKind.bits .u64)))))) else false) : Bool) fun q355 => (if q355 then (((SlicessymMergeCmpFuncint_v1 fu) x0 x1 q265 (w64 (Int.fdiv (IntKind.wrap .u64 (w64 (x1 + x3))) (2 ^ (min (Int.toNat 1) (IntKind.bits .u64))))) y0).bind fun q359 => (bnd ((if decide ((w64 (Int.fdiv (IntKind.wrap .u64 (w64 (x1 + x3))) (2 ^ (min (Int.toNat 1) (IntKind.bits .u64))))) < (w64 ((w64 ((w64 (Int.fdiv (IntKind.wrap .u64 (w64 (x1 + x3))) (2 ^ (min (Int.toNat 1) (IntKind.bits .u64))))) + x2)) - q265))) then decide ((w64 ((w64 ((w64 (Int.fdiv (IntKind.wrap .u64 (w64 (x1 + x3))) (2 ^ (min (Int.toNat 1) (IntKind.bits .u64))))) + x2)) - q265)) < x3) else false) : Bool) fun q368 => (if q368 then (((SlicessymMergeCmpFuncint_v1 fu) q359 (w64 (Int.fdiv (IntKind.wrap .u64 (w64 (x1 + x3))) (2 ^ (min (Int.toNat 1) (IntKind.bits .u64))))) (w64 ((w64 ((w64 (Int.fdiv (IntKind.wrap .u64 (w64 (x1 + x3))) (2 ^ (min (Int.toNat 1) (IntKind.bits .u64))))) + x2)) - q265)) x3 y0).bind fun q372 => some q372) else some q359))) else (bnd ((if decide ((w64 (Int.fdiv (IntKind.wrap .u64 (w64 (x1 + x3))) (2 ^ (min (Int.toNat 1) (IntKind.bits .u64))))) < (w64 ((w64 ((w64 (Int.fdiv (IntKind.wrap .u64 (w64 (x1 + x3))) (2 ^ (min (Int.toNat 1) (IntKind.bits .u64))))) + x2)) - q265))) then decide ((w64 ((w64 ((w64 (Int.fdiv (IntKind.wrap .u64 (w64 (x1 + x3))) (2 ^ (min (Int.toNat 1) (IntKind.bits .u64))))) + x2)) - q265)) < x3) else false) : Bool) fun q381 => (if q381 then (((SlicessymMergeCmpFuncint_v1 fu) x0 (w64 (Int.fdiv (IntKind.wrap .u64 (w64 (x1 + x3))) (2 ^ (min (Int.toNat 1) (IntKind.bits .u64))))) (w64 ((w64 ((w64 (Int.fdiv (IntKind.wrap .u64 (w64 (x1 + x3))) (2 ^ (min (Int.toNat 1) (IntKind.bits .u64))))) + x2)) - q265)) x3 y0).bind fun q385 => some q385) else some x0))))))))))
def SlicesstableCmpFuncint_v1.loop1 (x1 : Int) (y0 : List FareSpan) (fu : Nat) : Nat → Int → Int → (List Int) → Option (Int × Int × (List Int))
  | 0, _, _, _ => none
  | n59 + 1, q63, q64, q65 => (if decide (q64 ≤ x1) then ((SlicesinsertionSortCmpFuncint_v1 fu q65 q63 q64 y0).bind fun q73 => SlicesstableCmpFuncint_v1.loop1 x1 y0 fu n59 q64 (w64 (q64 + 20)) q73) else some (q63, q64, q65))
def SlicesstableCmpFuncint_v1.loop3 (x1 : Int) (y0 : List FareSpan) (fu : Nat) (q89 : Int) : Nat → Int → Int → (List Int) → Option (Int × Int × (List Int))
  | 0, _, _, _ => none
  | n100 + 1, q104, q105, q106 => (if decide (q105 ≤ x1) then ((SlicessymMergeCmpFuncint_v1 fu q106 q104 (w64 (q104 + q89)) q105 y0).bind fun q114 => SlicesstableCmpFuncint_v1.loop3 x1 y0 fu q89 n100 q105 (w64 (q105 + (w64 (2 * q89)))) q114) else some (q104, q105, q106))
def SlicesstableCmpFuncint_v1.loop2 (x1 : Int) (y0 : List FareSpan) (fu : Nat) : Nat → Int → (List Int) → Option (Int × (List Int))
  | 0, _, _ => none
  | n85 + 1, q89, q90 => (if decide (q89 < x1) then ((SlicesstableCmpFuncint_v1.loop3 x1 y0 fu q89 fu 0 (w64 (2 * q89)) q90).bind fun q99 => match q99 with | (q104, _, q106) => (if decide ((w64 (q104 + q89)) < x1) then ((SlicessymMergeCmpFuncint_v1 fu q106 q104 (w64 (q104 + q89)) x1 y0).bind fun q120 => SlicesstableCmpFuncint_v1.loop2 x1 y0 fu n85 (w64 (q89 * 2)) q120) else SlicesstableCmpFuncint_v1.loop2 x1 y0 fu n85 (w64 (q89 * 2)) q106)) else some (q89, q90))
def SlicesstableCmpFuncint_v1 (fu : Nat) (x0 : List Int) (x1 : Int) (y0 : List FareSpan) : Option (List Int) := ((SlicesstableCmpFuncint_v1.loop1 x1 y0 fu fu 0 20 x0).bind fun q58 => match q58 with | (q63, _, q65) => ((SlicesinsertionSortCmpFuncint_v1 fu q65 q63 x1 y0).bind fun q78 => ((SlicesstableCmpFuncint_v1.loop2 x1 y0 fu fu 20 q78).bind fun q84 => match q84 with | (_, q90) => some q90)))
def SlicesSortStableFuncLint_v1 (fu : Nat) (x0 : List Int) (y0 : List FareSpan) : Option (List Int) := ((SlicesstableCmpFuncint_v1 fu x0 ((x0.length : Nat) : Int) y0).bind fun q57 => some q57)
def FarePack_2_v1 (x0 : Int) (y0 : List FareSpan) (y1 : Int) : Option Bool := ((gx y0 y1).bind fun x51 => some (decide (x0 ≤ x51.From)))
def SlicesIndexFuncLint_v1.loop1 (y0 : List FareSpan) (y1 : Int) : (List Int) → Nat → Option (Out Int Unit)
  | [], _ => some (.next ())
  | x54 :: rest55, k53 => ((FarePack_2_v1 x54 y0 y1).bind fun q67 => (if q67 then some (.ret ((k53 : Nat) : Int)) else SlicesIndexFuncLint_v1.loop1 y0 y1 rest55 (k53 + 1)))
def SlicesIndexFuncLint_v1 (x0 : List Int) (y0 : List FareSpan) (y1 : Int) : Option Int := ((SlicesIndexFuncLint_v1.loop1 y0 y1 x0 0).bind fun q52 => match q52 with | .ret r => some r | .next () => some (-1))
def FarePack.loop1 (x2 : Int) : (List FareSpan) → Nat → (List Int) → Option (Out ((List Int) × Int) (List Int))
  | [], _, q80 => some (.next q80)
  | x72 :: rest73, k71, q80 => (if !(Farespan x72.From x72.To x2) then some (.ret ([], 2)) else ((ix q80 ((k71 : Nat) : Int)).bind fun _ => ((sx q80 ((k71 : Nat) : Int) ((k71 : Nat) : Int)).bind fun x99 => FarePack.loop1 x2 rest73 (k71 + 1) x99)))
def FarePack.loop2 (x0 : List FareSpan) (q104 : (List Int)) : Nat → Nat → (List Int) → (List Int) → Option (Out ((List Int) × Int) ((List Int) × (List Int)))
  | 0, _, q133, q139 => some (.next (q133, q139))
  | rest125 + 1, k123, q133, q139 => ((gx q104 ((k123 : Nat) : Int)).bind fun x146 => ((SlicesIndexFuncLint_v1 q133 x0 x146).bind fun q157 => (if decide (q157 < 0) then some (.ret ([], 14)) else ((gx x0 x146).bind fun x166 => ((ix q133 q157).bind fun _ => ((sx q133 q157 x166.To).bind fun x180 => ((ix q139 x146).bind fun _ => ((sx q139 x146 q157).bind fun x190 => FarePack.loop2 x0 q104 rest125 (k123 + 1) x180 x190))))))))
def FarePack (fu : Nat) (x0 : List FareSpan) (x1 : Int) (x2 : Int) : Option ((List Int) × Int) := (if decide (((x0).length : Int) > 200) then some ([], 4) else (bnd ((if !(Farewithin x1 1 80) then true else !(Farewithin x2 2 12)) : Bool) fun q58 => (if q58 then some ([], 2) else ((mks ((x0).length : Int) (0 : Int)).bind fun x63 => ((FarePack.loop1 x2 x0 0 x63).bind fun q70 => match q70 with | .ret r => some r | .next q80 => ((SlicesSortStableFuncLint_v1 fu q80 x0).bind fun q104 => ((mks x1 (0 : Int)).bind fun x109 => ((mks ((x0).length : Int) (0 : Int)).bind fun x115 => ((FarePack.loop2 x0 q104 x63.length 0 x109 x115).bind fun q122 => match q122 with | .ret r => some r | .next (_, q139) => some (q139, 0))))))))))
def Fishref2within (x0 : Int) (x1 : Int) (x2 : Int) : Bool := (bnd ((if decide (x0 ≥ x1) then decide (x0 ≤ x2) else false) : Bool) fun q55 => q55)
def MathBitsMul64 (x0 : Int) (x1 : Int) : Int × Int := (IntKind.wrap .u64 ((IntKind.wrap .u64 ((IntKind.wrap .u64 ((Int.fdiv x0 (2 ^ (min (Int.toNat 32) (IntKind.bits .u64)))) * (Int.fdiv x1 (2 ^ (min (Int.toNat 32) (IntKind.bits .u64)))))) + (Int.fdiv (IntKind.wrap .u64 ((IntKind.wrap .u64 ((Int.fdiv x0 (2 ^ (min (Int.toNat 32) (IntKind.bits .u64)))) * (IntKind.wrap .u64 ((BitVec.ofInt (IntKind.bits .u64) x1 &&& BitVec.ofInt (IntKind.bits .u64) 4294967295).toNat : Int)))) + (Int.fdiv (IntKind.wrap .u64 ((IntKind.wrap .u64 ((BitVec.ofInt (IntKind.bits .u64) x0 &&& BitVec.ofInt (IntKind.bits .u64) 4294967295).toNat : Int)) * (IntKind.wrap .u64 ((BitVec.ofInt (IntKind.bits .u64) x1 &&& BitVec.ofInt (IntKind.bits .u64) 4294967295).toNat : Int)))) (2 ^ (min (Int.toNat 32) (IntKind.bits .u64)))))) (2 ^ (min (Int.toNat 32) (IntKind.bits .u64)))))) + (Int.fdiv (IntKind.wrap .u64 ((IntKind.wrap .u64 ((BitVec.ofInt (IntKind.bits .u64) (IntKind.wrap .u64 ((IntKind.wrap .u64 ((Int.fdiv x0 (2 ^ (min (Int.toNat 32) (IntKind.bits .u64)))) * (IntKind.wrap .u64 ((BitVec.ofInt (IntKind.bits .u64) x1 &&& BitVec.ofInt (IntKind.bits .u64) 4294967295).toNat : Int)))) + (Int.fdiv (IntKind.wrap .u64 ((IntKind.wrap .u64 ((BitVec.ofInt (IntKind.bits .u64) x0 &&& BitVec.ofInt (IntKind.bits .u64) 4294967295).toNat : Int)) * (IntKind.wrap .u64 ((BitVec.ofInt (IntKind.bits .u64) x1 &&& BitVec.ofInt (IntKind.bits .u64) 4294967295).toNat : Int)))) (2 ^ (min (Int.toNat 32) (IntKind.bits .u64)))))) &&& BitVec.ofInt (IntKind.bits .u64) 4294967295).toNat : Int)) + (IntKind.wrap .u64 ((IntKind.wrap .u64 ((BitVec.ofInt (IntKind.bits .u64) x0 &&& BitVec.ofInt (IntKind.bits .u64) 4294967295).toNat : Int)) * (Int.fdiv x1 (2 ^ (min (Int.toNat 32) (IntKind.bits .u64)))))))) (2 ^ (min (Int.toNat 32) (IntKind.bits .u64))))), IntKind.wrap .u64 (x0 * x1))
def MathBitsMul (x0 : Int) (x1 : Int) : Int × Int := (bnd (MathBitsMul64 x0 x1) fun q51 => (q51.1, q51.2))
def SlicesRepeatLint.loop1 (x62 : List Int) : Nat → Int → (List Int) → Option (Int × (List Int))
  | 0, _, _ => none
  | n75 + 1, q79, q80 => (if decide (q79 < ((x62.length : Nat) : Int)) then ((cutl q80 q79 ((x62.length : Nat) : Int)).bind fun _ => ((cutl q80 0 q79).bind fun _ => (bnd (cpl q80 ((q79).toNat) x62.length ((q80.take ((q79).toNat)).drop 0)) fun x107 => SlicesRepeatLint.loop1 x62 n75 (w64 (q79 + ((min ((q80.take ((q79).toNat)).drop 0).length (x62.length - ((q79).toNat)) : Nat) : Int))) x107))) else some (q79, q80))
def SlicesRepeatLint (fu : Nat) (x0 : List Int) (x1 : Int) : Option (List Int) := (if decide (x1 < 0) then none else (bnd (MathBitsMul (IntKind.wrap .u64 ((x0).length : Int)) (IntKind.wrap .u64 x1)) fun q52 => (bnd ((if decide (q52.1 > 0) then true else decide (q52.2 > 9223372036854775807)) : Bool) fun q58 => (if q58 then none else ((mks (w64 q52.2) (0 : Int)).bind fun x62 => (bnd (cpl x62 0 x62.length x0) fun x68 => ((SlicesRepeatLint.loop1 x62 fu ((min x0.length (x62.length - 0) : Nat) : Int) x68).bind fun q74 => match q74 with | (_, q80) => some q80)))))))
def Fishref2PackOf.loop1 (x2 : Int) : (List FareSpan) → Out ((List Int) × Int) Unit
  | [] => (.next ())
  | x65 :: rest66 => (bnd ((if decide (x65.From < 0) then true else (if decide (x65.From ≥ x65.To) then true else decide (x65.To ≥ x2))) : Bool) fun q83 => (if q83 then (.ret ([], 2)) else Fishref2PackOf.loop1 x2 rest66))
def Fishref2PackOf.loop5 (x0 : List FareSpan) (q140 : List Int) (x132 : FareSpan) : Nat → Int → Int → Option (Int × Int)
  | 0, _, _ => none
  | n155 + 1, q159, q160 => (if decide (q160 < ((x0).length : Int)) then ((((gx q140 q160).bind fun x169 => (if (x169 == q159) then ((gx x0 q160).bind fun x180 => (if decide (x180.From < x132.To) then ((gx x0 q160).bind fun x190 => some (decide (x132.From < x190.To))) else some false)) else some false)) : Option Bool).bind fun q167 => (bnd ((if q167 then (w64 (q159 + 1), (-1)) else (q159, q160)) : Int × Int) fun q200 => match q200 with | (q203, q204) => Fishref2PackOf.loop5 x0 q140 x132 n155 q203 (w64 (q204 + 1)))) else some (q159, q160))
def Fishref2PackOf.loop4 (x0 : List FareSpan) (x1 : Int) (fu : Nat) (q120 : Int) : (List FareSpan) → Nat → (List Int) → Option (Out ((List Int) × Int) (List Int))
  | [], _, q140 => some (.next q140)
  | x132 :: rest133, k131, q140 => (if (x132.From != q120) then Fishref2PackOf.loop4 x0 x1 fu q120 rest133 (k131 + 1) q140 else ((Fishref2PackOf.loop5 x0 q140 x132 fu 0 0).bind fun q154 => match q154 with | (q159, _) => (if decide (q159 ≥ x1) then some (.ret ([], 14)) else ((ix q140 ((k131 : Nat) : Int)).bind fun _ => ((sx q140 ((k131 : Nat) : Int) q159).bind fun x214 => Fishref2PackOf.loop4 x0 x1 fu q120 rest133 (k131 + 1) x214)))))
def Fishref2PackOf.loop3 (x0 : List FareSpan) (x1 : Int) (x2 : Int) (fu : Nat) : Nat → Int → (List Int) → Option (Out ((List Int) × Int) (Int × (List Int)))
  | 0, _, _ => none
  | n116 + 1, q120, q121 => (if decide (q120 < x2) then ((Fishref2PackOf.loop4 x0 x1 fu q120 x0 0 q121).bind fun q130 => match q130 with | .ret r => some (.ret r) | .next q140 => Fishref2PackOf.loop3 x0 x1 x2 fu n116 (w64 (q120 + 1)) q140) else some (.next (q120, q121)))
def Fishref2PackOf (fu : Nat) (x0 : List FareSpan) (x1 : Int) (x2 : Int) : Option ((List Int) × Int) := (if decide (((x0).length : Int) > 200) then some ([], 4) else (bnd ((if !(Fishref2within x1 1 80) then true else !(Fishref2within x2 2 12)) : Bool) fun q57 => (if q57 then some ([], 2) else (bnd (Fishref2PackOf.loop1 x2 x0) fun q63 => match q63 with | .ret r => some r | .next () => ((SlicesRepeatLint fu [(-1)] ((x0).length : Int)).bind fun q95 => ((Fishref2PackOf.loop3 x0 x1 x2 fu fu 0 q95).bind fun q115 => match q115 with | .ret r => some r | .next (_, q121) => some (q121, 0)))))))
def FareCondsize.loop1 (self_FareCondsize : FareCond → Option (Int × Int)) : (List FareCond) → Int → Int → Option (Int × Int)
  | [], q63, q64 => some (q63, q64)
  | x55 :: rest56, q63, q64 => ((self_FareCondsize x55).bind fun q74 => FareCondsize.loop1 self_FareCondsize rest56 (w64 (q63 + q74.1)) (mx q64 q74.2))
def FareCondsize : Nat → FareCond → Option (Int × Int)
  | 0, _ => none
  | fu + 1, x0 => ((FareCondsize.loop1 (FareCondsize fu) x0.Kids 1 0).bind fun q53 => match q53 with | (q63, q64) => some (q63, w64 (q64 + 1)))
def Farenumbers (x0 : Int) : Int := (bnd ((if (x0 == 2) then (x0 == 2) else (bnd ((if (x0 == 3) then (x0 == 3) else (bnd ((if (x0 == 4) then (x0 == 4) else (x0 == 5)) : Bool) fun q69 => q69)) : Bool) fun q62 => q62)) : Bool) fun q55 => (if q55 then 2 else (bnd ((if (x0 == 6) then (x0 == 6) else (bnd ((if (x0 == 7) then (x0 == 7) else (x0 == 8)) : Bool) fun q84 => q84)) : Bool) fun q77 => (if q77 then 1 else 0))))
def FareCondnode.loop1 (self_FareCondnode : FareCond → Option Int) : (List FareCond) → Option (Out Int Unit)
  | [] => some (.next ())
  | x98 :: rest99 => ((self_FareCondnode x98).bind fun q115 => (if (q115 != 0) then some (.ret q115) else FareCondnode.loop1 self_FareCondnode rest99))
def FareCondnode : Nat → FareCond → Option Int
  | 0, _ => none
  | fu + 1, x0 => (if !(Farewithin x0.Kind 0 11) then some 15 else (bnd ((if !(Farewithin x0.A 0 28800) then true else !(Farewithin x0.B 0 28800)) : Bool) fun q57 => (if q57 then some 2 else (bnd ((if decide ((Farenumbers x0.Kind) < 1) then (if (x0.A != 0) then true else (if decide ((Farenumbers x0.Kind) < 2) then (if (x0.B != 0) then true else (if ((Farenumbers x0.Kind) == 2) then decide (x0.A > x0.B) else false)) else (if ((Farenumbers x0.Kind) == 2) then decide (x0.A > x0.B) else false))) else (if decide ((Farenumbers x0.Kind) < 2) then (if (x0.B != 0) then true else (if ((Farenumbers x0.Kind) == 2) then decide (x0.A > x0.B) else false)) else (if ((Farenumbers x0.Kind) == 2) then decide (x0.A > x0.B) else false))) : Bool) fun q65 => (if q65 then some 1 else (bnd ((if (x0.Kind == 9) then (if (((x0.Kids).length : Int) != 1) then true else (if decide (x0.Kind > 9) then (if decide (((x0.Kids).length : Int) < 2) then true else (if decide (x0.Kind < 9) then decide (((x0.Kids).length : Int) > 0) else false)) else (if decide (x0.Kind < 9) then decide (((x0.Kids).length : Int) > 0) else false))) else (if decide (x0.Kind > 9) then (if decide (((x0.Kids).length : Int) < 2) then true else (if decide (x0.Kind < 9) then decide (((x0.Kids).length : Int) > 0) else false)) else (if decide (x0.Kind < 9) then decide (((x0.Kids).length : Int) > 0) else false))) : Bool) fun q82 => (if q82 then some 1 else ((FareCondnode.loop1 (FareCondnode fu) x0.Kids).bind fun q96 => match q96 with | .ret r => some r | .next () => some 0))))))))
def FareCondcheck (fu : Nat) (x0 : FareCond) : Option Int := ((FareCondsize fu x0).bind fun q52 => (bnd ((if decide (q52.1 > 40) then true else decide (q52.2 > 6)) : Bool) fun q58 => (if q58 then some 4 else ((FareCondnode fu x0).bind fun q62 => some q62))))
def FareCheckTariff.loop1 (x0 : FareTariff) : (List FareBand) → Nat → Option (Out Int Unit)
  | [], _ => some (.next ())
  | x63 :: rest64, k62 => (bnd ((if !(Farewithin x63.Upto 1 1000) then true else !(Farewithin x63.Price 0 100000)) : Bool) fun q81 => (if q81 then some (.ret 2) else (((if decide (((k62 : Nat) : Int) > 0) then ((gx x0.Bands (w64 (((k62 : Nat) : Int) - 1))).bind fun x92 => (if decide (x63.Upto ≤ x92.Upto) then some true else ((gx x0.Bands (w64 (((k62 : Nat) : Int) - 1))).bind fun x102 => some (decide (x63.Price < x102.Price))))) else some false) : Option Bool).bind fun q89 => (if q89 then some (.ret 1) else FareCheckTariff.loop1 x0 rest64 (k62 + 1)))))
def FareCheckTariff.loop2 (fu : Nat) : (List FareRule) → Option (Out Int Unit)
  | [] => some (.next ())
  | x116 :: rest117 => ((FareCondcheck fu x116.If).bind fun q133 => (if (q133 != 0) then some (.ret q133) else (bnd ((if (x116.Do == 1) then 200 else 100000) : Int) fun q140 => (if !(Farewithin x116.Do 1 6) then some (.ret 15) else (if !(Farewithin x116.N 0 q140) then some (.ret 2) else FareCheckTariff.loop2 fu rest117)))))
def FareCheckTariff (fu : Nat) (x0 : FareTariff) : Option Int := (bnd ((if !(Farewithin ((x0.Bands).length : Int) 1 8) then true else decide (((x0.Rules).length : Int) > 20)) : Bool) fun q56 => (if q56 then some 4 else ((FareCheckTariff.loop1 x0 x0.Bands 0).bind fun q61 => match q61 with | .ret r => some r | .next () => (if !(Farewithin x0.Round 1 100) then some 2 else ((FareCheckTariff.loop2 fu x0.Rules).bind fun q114 => match q114 with | .ret r => some r | .next () => some 0)))))
def FarecheckZones.loop1 (x0 : List Int) (x1 : Bool) : (List Int) → Nat → Option (Out Int Unit)
  | [], _ => some (.next ())
  | x54 :: rest55, k53 => (if !(Farewithin x54 0 19) then some (.ret 2) else (((if decide (((k53 : Nat) : Int) > 0) then ((gx x0 (w64 (((k53 : Nat) : Int) - 1))).bind fun x75 => (if (x54 == x75) then some true else (if x1 then ((gx x0 (w64 (((k53 : Nat) : Int) - 1))).bind fun x86 => some (decide (x54 < x86))) else some false))) else some false) : Option Bool).bind fun q72 => (if q72 then some (.ret 1) else FarecheckZones.loop1 x0 x1 rest55 (k53 + 1))))
def FarecheckZones (x0 : List Int) (x1 : Bool) : Option Int := ((FarecheckZones.loop1 x0 x1 x0 0).bind fun q52 => match q52 with | .ret r => some r | .next () => some 0)
def FareCheckTrip (x0 : FareTrip) : Option Int := (bnd ((if !(Farewithin x0.Day 0 6) then true else (if !(Farewithin x0.At 0 28800) then true else (if !(Farewithin x0.Km 0 1000) then true else !(Farewithin x0.Age 0 120)))) : Bool) fun q56 => (if q56 then some 2 else (if !(Farewithin ((x0.Zones).length : Int) 1 10) then some 4 else ((FarecheckZones x0.Zones false).bind fun q63 => some q63))))
def FareTariffprice_1_v1 (x0 : FareBand) (y0 : Int) : Bool := decide (x0.Upto ≥ y0)
def SlicesIndexFuncLfareBand_v1.loop1 (y0 : Int) : (List FareBand) → Nat → Out Int Unit
  | [], _ => (.next ())
  | x54 :: rest55, k53 => (if (FareTariffprice_1_v1 x54 y0) then (.ret ((k53 : Nat) : Int)) else SlicesIndexFuncLfareBand_v1.loop1 y0 rest55 (k53 + 1))
def SlicesIndexFuncLfareBand_v1 (x0 : List FareBand) (y0 : Int) : Int := (bnd (SlicesIndexFuncLfareBand_v1.loop1 y0 x0 0) fun q52 => match q52 with | .ret r => r | .next () => (-1))
def FareCondholds_1_v1 (x0 : Int) (y0 : FareCond) : Bool := (Farewithin x0 y0.A y0.B)
def SlicesIndexLint.loop1 (x1 : Int) : (List Int) → Nat → Out Int Unit
  | [], _ => (.next ())
  | x54 :: rest55, k53 => (if (x1 == x54) then (.ret ((k53 : Nat) : Int)) else SlicesIndexLint.loop1 x1 rest55 (k53 + 1))
def SlicesIndexLint (x0 : List Int) (x1 : Int) : Int := (bnd (SlicesIndexLint.loop1 x1 x0 0) fun q52 => match q52 with | .ret r => r | .next () => (-1))
def SlicesContainsLint (x0 : List Int) (x1 : Int) : Bool := decide ((SlicesIndexLint x0 x1) ≥ 0)
def FareCondholds_2_v1 (self_FareCondholds : FareCond → FareTrip → Option Bool) (x0 : FareCond) (y0 : FareTrip) : Option Bool := ((self_FareCondholds x0 y0).bind fun q52 => some !q52)
def SlicesIndexFuncLfareCond_v1.loop1 (y0 : FareTrip) (self_FareCondholds : FareCond → FareTrip → Option Bool) : (List FareCond) → Nat → Option (Out Int Unit)
  | [], _ => some (.next ())
  | x54 :: rest55, k53 => ((FareCondholds_2_v1 self_FareCondholds x54 y0).bind fun q70 => (if q70 then some (.ret ((k53 : Nat) : Int)) else SlicesIndexFuncLfareCond_v1.loop1 y0 self_FareCondholds rest55 (k53 + 1)))
def SlicesIndexFuncLfareCond_v1 (self_FareCondholds : FareCond → FareTrip → Option Bool) (x0 : List FareCond) (y0 : FareTrip) : Option Int := ((SlicesIndexFuncLfareCond_v1.loop1 y0 self_FareCondholds x0 0).bind fun q52 => match q52 with | .ret r => some r | .next () => some (-1))
def SlicesContainsFuncLfareCond_v1 (self_FareCondholds : FareCond → FareTrip → Option Bool) (x0 : List FareCond) (y0 : FareTrip) : Option Bool := ((SlicesIndexFuncLfareCond_v1 self_FareCondholds x0 y0).bind fun q51 => some (decide (q51 ≥ 0)))
def FareCondholds_3_v1 (self_FareCondholds : FareCond → FareTrip → Option Bool) (x0 : FareCond) (y0 : FareTrip) : Option Bool := ((self_FareCondholds x0 y0).bind fun q52 => some q52)
def SlicesIndexFuncLfareCond_v2.loop1 (y0 : FareTrip) (self_FareCondholds : FareCond → FareTrip → Option Bool) : (List FareCond) → Nat → Option (Out Int Unit)
  | [], _ => some (.next ())
  | x54 :: rest55, k53 => ((FareCondholds_3_v1 self_FareCondholds x54 y0).bind fun q70 => (if q70 then some (.ret ((k53 : Nat) : Int)) else SlicesIndexFuncLfareCond_v2.loop1 y0 self_FareCondholds rest55 (k53 + 1)))
def SlicesIndexFuncLfareCond_v2 (self_FareCondholds : FareCond → FareTrip → Option Bool) (x0 : List FareCond) (y0 : FareTrip) : Option Int := ((SlicesIndexFuncLfareCond_v2.loop1 y0 self_FareCondholds x0 0).bind fun q52 => match q52 with | .ret r => some r | .next () => some (-1))
def SlicesContainsFuncLfareCond_v2 (self_FareCondholds : FareCond → FareTrip → Option Bool) (x0 : List FareCond) (y0 : FareTrip) : Option Bool := ((SlicesIndexFuncLfareCond_v2 self_FareCondholds x0 y0).bind fun q51 => some (decide (q51 ≥ 0)))
def FareCondholds : Nat → FareCond → FareTrip → Option Bool
  | 0, _, _ => none
  | fu + 1, x0, x1 => (if (x0.Kind == 1) then some x1.Card else (if (x0.Kind == 2) then some (FareCondholds_1_v1 x1.Age x0) else (if (x0.Kind == 3) then some (FareCondholds_1_v1 x1.At x0) else (if (x0.Kind == 4) then some (FareCondholds_1_v1 x1.Km x0) else (if (x0.Kind == 5) then some (FareCondholds_1_v1 ((x1.Zones).length : Int) x0) else (if (x0.Kind == 6) then some (SlicesContainsLint x1.Zones x0.A) else (if (x0.Kind == 7) then ((gx x1.Zones 0).bind fun x60 => some (x60 == x0.A)) else (if (x0.Kind == 8) then ((gx x1.Zones (w64 (((x1.Zones).length : Int) - 1))).bind fun x70 => some (x70 == x0.A)) else (if (x0.Kind == 9) then ((gx x0.Kids 0).bind fun x80 => (((FareCondholds fu) x80 x1).bind fun q92 => some !q92)) else (if (x0.Kind == 10) then ((SlicesContainsFuncLfareCond_v1 (FareCondholds fu) x0.Kids x1).bind fun q95 => some !q95) else (if (x0.Kind == 11) then ((SlicesContainsFuncLfareCond_v2 (FareCondholds fu) x0.Kids x1).bind fun q98 => some q98) else some true)))))))))))
def FareRulechange (x0 : FareRule) (x1 : Int) : Int := (if (x0.Do == 1) then mn 100000 (w64 (Int.tdiv (w64 (x1 * x0.N)) 100)) else (if (x0.Do == 2) then mx 0 (w64 (x1 - x0.N)) else (if (x0.Do == 3) then mn 100000 (w64 (x1 + x0.N)) else (if (x0.Do == 4) then x0.N else (if (x0.Do == 5) then mn x1 x0.N else mx x1 x0.N)))))
def FareTariffprice.loop1 (x1 : FareTrip) (fu : Nat) : (List FareRule) → Nat → Int → (List Int) → Option (Int × (List Int))
  | [], _, q89, q90 => some (q89, q90)
  | x81 :: rest82, k80, q89, q90 => ((FareCondholds fu x81.If x1).bind fun q106 => (if !q106 then FareTariffprice.loop1 x1 fu rest82 (k80 + 1) q89 q90 else ((apd q90 [((k80 : Nat) : Int)]).bind fun x110 => (if x81.Stop then some ((FareRulechange x81 q89), x110) else FareTariffprice.loop1 x1 fu rest82 (k80 + 1) (FareRulechange x81 q89) x110))))
def FareTariffprice (fu : Nat) (x0 : FareTariff) (x1 : FareTrip) : Option (Int × (List Int)) := (bnd ((if x0.ByKm then x1.Km else ((x1.Zones).length : Int)) : Int) fun q58 => (bnd ((if decide ((SlicesIndexFuncLfareBand_v1 x0.Bands q58) < 0) then w64 (((x0.Bands).length : Int) - 1) else (SlicesIndexFuncLfareBand_v1 x0.Bands q58)) : Int) fun q65 => ((gx x0.Bands q65).bind fun x68 => ((FareTariffprice.loop1 x1 fu x0.Rules 0 x68.Price []).bind fun q79 => match q79 with | (q89, q90) => ((dv (w64 ((w64 (q89 + x0.Round)) - 1)) x0.Round).bind fun x117 => some (w64 (x117 * x0.Round), q90))))))
def FarePrice (fu : Nat) (x0 : FareTariff) (x1 : FareTrip) : Option (Int × (List Int) × Int) := ((FareCheckTariff fu x0).bind fun q53 => (if (q53 != 0) then some (0, [], q53) else ((FareCheckTrip x1).bind fun q57 => (if (q57 != 0) then some (0, [], q57) else ((FareTariffprice fu x0 x1).bind fun q61 => some (q61.1, q61.2, 0))))))
def SlicesEqualLint.loop1 (x1 : List Int) : (List Int) → Nat → Option (Out Bool Unit)
  | [], _ => some (.next ())
  | x55 :: rest56, k54 => ((gx x1 ((k54 : Nat) : Int)).bind fun x68 => (if (x55 != x68) then some (.ret false) else SlicesEqualLint.loop1 x1 rest56 (k54 + 1)))
def SlicesEqualLint (x0 : List Int) (x1 : List Int) : Option Bool := (if (((x0).length : Int) != ((x1).length : Int)) then some false else ((SlicesEqualLint.loop1 x1 x0 0).bind fun q53 => match q53 with | .ret r => some r | .next () => some true))
def Fishlaw2fares (fu : Nat) : Option Bool := ((FarePrice fu (FareTariff.mk false [(FareBand.mk 3 500)] 50 [(FareRule.mk (FareCond.mk 2 0 14 []) 1 50 false)]) (FareTrip.mk 0 0 0 10 false [1, 2])).bind fun q70 => (((if (q70.2.2 == 0) then (if (q70.1 == 250) then ((SlicesEqualLint q70.2.1 [0]).bind fun q92 => some q92) else some false) else some false) : Option Bool).bind fun q82 => some q82))
def Fishlaw2FarePacks (fu : Nat) (x0 : List FareSpan) (x1 : Int) (x2 : Int) : Option Bool := ((FarePack fu x0 x1 x2).bind fun q51 => ((Fishref2PackOf fu x0 x1 x2).bind fun q59 => ((((Fishlaw2fares fu).bind fun q75 => (if q75 then (if (q51.2 == q59.2) then ((SlicesEqualLint q51.1 q59.1).bind fun q79 => some q79) else some false) else some false)) : Option Bool).bind fun q73 => some q73)))
end Go.Fp
