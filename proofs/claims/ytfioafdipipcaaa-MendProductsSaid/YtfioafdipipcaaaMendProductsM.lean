/- The mirrors of the functions that MendProducts reaches: plain Lean functions on data. No condition. -/
import Derived.Test.YtfioafdipipcaaaFpCopy
namespace Go.Fp
structure MendLink where
  From : Int
  To : Int
  Len : Int
  Back : Int
  deriving DecidableEq, Inhabited
-- MendLink is of one size
def MendLink.cells (x : MendLink) : List Go.Value := [.int .i64 x.From, .int .i64 x.To, .int .i64 x.Len, .int .i64 x.Back]
def RMendLink : Rd MendLink := fun _ cs x => cs = x.cells
theorem RMendLink.mono : Rmono RMendLink := fun _ _ _ _ _ h => h
theorem RMendLink.one : Rone RMendLink := by intro s cs x h; subst h; rfl

structure MendRound where
  Period : Int
  Plan : List Int
  Links : List MendLink
  deriving DecidableEq, Inhabited
def szMendRound (x : MendRound) : Nat := (szL sz1) x.Plan + (szL sz1) x.Links + 1
def RMendRound : Rd MendRound := fun s cs x => ∃ a0 c0 a1 c1, cs = [.int .i64 x.Period, .slice a0 x.Plan.length c0, .slice a1 x.Links.length c1] ∧ Sl 1 (RI .i64) s a0 c0 x.Plan ∧ Sl 4 RMendLink s a1 c1 x.Links
theorem RMendRound.one : Rone RMendRound := by rintro s cs x ⟨a0, c0, a1, c1, rfl, _⟩; rfl
theorem RMendRound.mono : Rmono RMendRound := fun _ _ h _ _ ⟨a0, c0, a1, c1, e, h0, h1⟩ => ⟨a0, c0, a1, c1, e, h0.mono RI.mono h, h1.mono RMendLink.mono h⟩
def MendProduct_1_v1 (x0 : List Int) (y0 : List (List Int)) : Bool := (((x0).length : Int) != ((y0).length : Int))
def SlicesIndexFuncLLint_v1.loop1 (y0 : List (List Int)) : (List (List Int)) → Nat → Out Int Unit
  | [], _ => (.next ())
  | x54 :: rest55, k53 => (if (MendProduct_1_v1 x54 y0) then (.ret ((k53 : Nat) : Int)) else SlicesIndexFuncLLint_v1.loop1 y0 rest55 (k53 + 1))
def SlicesIndexFuncLLint_v1 (x0 : List (List Int)) (y0 : List (List Int)) : Int := (bnd (SlicesIndexFuncLLint_v1.loop1 y0 x0 0) fun q52 => match q52 with | .ret r => r | .next () => (-1))
def SlicesContainsFuncLLint_v1 (x0 : List (List Int)) (y0 : List (List Int)) : Bool := decide ((SlicesIndexFuncLLint_v1 x0 y0) ≥ 0)
def MendProduct_2_v1 (x0 : List Int) (y0 : List (List Int)) : Option Bool := ((gx y0 0).bind fun x51 => some (((x0).length : Int) != ((x51).length : Int)))
def SlicesIndexFuncLLint_v2.loop1 (y0 : List (List Int)) : (List (List Int)) → Nat → Option (Out Int Unit)
  | [], _ => some (.next ())
  | x54 :: rest55, k53 => ((MendProduct_2_v1 x54 y0).bind fun q70 => (if q70 then some (.ret ((k53 : Nat) : Int)) else SlicesIndexFuncLLint_v2.loop1 y0 rest55 (k53 + 1)))
def SlicesIndexFuncLLint_v2 (x0 : List (List Int)) (y0 : List (List Int)) : Option Int := ((SlicesIndexFuncLLint_v2.loop1 y0 x0 0).bind fun q52 => match q52 with | .ret r => some r | .next () => some (-1))
def SlicesContainsFuncLLint_v2 (x0 : List (List Int)) (y0 : List (List Int)) : Option Bool := ((SlicesIndexFuncLLint_v2 x0 y0).bind fun q51 => some (decide (q51 ≥ 0)))
def Mendwithin (x0 : Int) (x1 : Int) (x2 : Int) : Bool := (bnd ((if decide (x0 ≥ x1) then decide (x0 ≤ x2) else false) : Bool) fun q55 => q55)
def MendcheckTable_1 (x0 : Int) : Bool := (bnd ((if (x0 != (-4611686018427387904)) then !(Mendwithin x0 (-1099511627776) 1099511627776) else false) : Bool) fun q55 => q55)
def SlicesIndexFuncLint_v1.loop1 : (List Int) → Nat → Out Int Unit
  | [], _ => (.next ())
  | x54 :: rest55, k53 => (if (MendcheckTable_1 x54) then (.ret ((k53 : Nat) : Int)) else SlicesIndexFuncLint_v1.loop1 rest55 (k53 + 1))
def SlicesIndexFuncLint_v1 (x0 : List Int) : Int := (bnd (SlicesIndexFuncLint_v1.loop1 x0 0) fun q52 => match q52 with | .ret r => r | .next () => (-1))
def SlicesContainsFuncLint_v1 (x0 : List Int) : Bool := decide ((SlicesIndexFuncLint_v1 x0) ≥ 0)
def MendcheckTable.loop1 : (List (List Int)) → Out Int Unit
  | [] => (.next ())
  | x54 :: rest55 => (if (SlicesContainsFuncLint_v1 x54) then (.ret 2) else MendcheckTable.loop1 rest55)
def MendcheckTable (x0 : List (List Int)) : Int := (bnd (MendcheckTable.loop1 x0) fun q52 => match q52 with | .ret r => r | .next () => 0)
def MathBitsMul64 (x0 : Int) (x1 : Int) : Int × Int := (IntKind.wrap .u64 ((IntKind.wrap .u64 ((IntKind.wrap .u64 ((Int.fdiv x0 (2 ^ (min (Int.toNat 32) (IntKind.bits .u64)))) * (Int.fdiv x1 (2 ^ (min (Int.toNat 32) (IntKind.bits .u64)))))) + (Int.fdiv (IntKind.wrap .u64 ((IntKind.wrap .u64 ((Int.fdiv x0 (2 ^ (min (Int.toNat 32) (IntKind.bits .u64)))) * (IntKind.wrap .u64 ((BitVec.ofInt (IntKind.bits .u64) x1 &&& BitVec.ofInt (IntKind.bits .u64) 4294967295).toNat : Int)))) + (Int.fdiv (IntKind.wrap .u64 ((IntKind.wrap .u64 ((BitVec.ofInt (IntKind.bits .u64) x0 &&& BitVec.ofInt (IntKind.bits .u64) 4294967295).toNat : Int)) * (IntKind.wrap .u64 ((BitVec.ofInt (IntKind.bits .u64) x1 &&& BitVec.ofInt (IntKind.bits .u64) 4294967295).toNat : Int)))) (2 ^ (min (Int.toNat 32) (IntKind.bits .u64)))))) (2 ^ (min (Int.toNat 32) (IntKind.bits .u64)))))) + (Int.fdiv (IntKind.wrap .u64 ((IntKind.wrap .u64 ((BitVec.ofInt (IntKind.bits .u64) (IntKind.wrap .u64 ((IntKind.wrap .u64 ((Int.fdiv x0 (2 ^ (min (Int.toNat 32) (IntKind.bits .u64)))) * (IntKind.wrap .u64 ((BitVec.ofInt (IntKind.bits .u64) x1 &&& BitVec.ofInt (IntKind.bits .u64) 4294967295).toNat : Int)))) + (Int.fdiv (IntKind.wrap .u64 ((IntKind.wrap .u64 ((BitVec.ofInt (IntKind.bits .u64) x0 &&& BitVec.ofInt (IntKind.bits .u64) 4294967295).toNat : Int)) * (IntKind.wrap .u64 ((BitVec.ofInt (IntKind.bits .u64) x1 &&& BitVec.ofInt (IntKind.bits .u64) 4294967295).toNat : Int)))) (2 ^ (min (Int.toNat 32) (IntKind.bits .u64)))))) &&& BitVec.ofInt (IntKind.bits .u64) 4294967295).toNat : Int)) + (IntKind.wrap .u64 ((IntKind.wrap .u64 ((BitVec.ofInt (IntKind.bits .u64) x0 &&& BitVec.ofInt (IntKind.bits .u64) 4294967295).toNat : Int)) * (Int.fdiv x1 (2 ^ (min (Int.toNat 32) (IntKind.bits .u64)))))))) (2 ^ (min (Int.toNat 32) (IntKind.bits .u64))))), IntKind.wrap .u64 (x0 * x1))
def MathBitsMul (x0 : Int) (x1 : Int) : Int × Int := (bnd (MathBitsMul64 x0 x1) fun q51 => (q51.1, q51.2))
def SlicesRepeatLint.loop1 (x62 : List Int) : Nat → Int → (List Int) → Option (Int × (List Int))
  | 0, _, _ => none
  | n75 + 1, q79, q80 => (if decide (q79 < ((x62.length : Nat) : Int)) then ((cutl q80 q79 ((x62.length : Nat) : Int)).bind fun _ => ((cutl q80 0 q79).bind fun _ => (bnd (cpl q80 ((q79).toNat) x62.length ((q80.take ((q79).toNat)).drop 0)) fun x107 => SlicesRepeatLint.loop1 x62 n75 (w64 (q79 + ((min ((q80.take ((q79).toNat)).drop 0).length (x62.length - ((q79).toNat)) : Nat) : Int))) x107))) else some (q79, q80))
def SlicesRepeatLint (fu : Nat) (x0 : List Int) (x1 : Int) : Option (List Int) := (if decide (x1 < 0) then none else (bnd (MathBitsMul (IntKind.wrap .u64 ((x0).length : Int)) (IntKind.wrap .u64 x1)) fun q52 => (bnd ((if decide (q52.1 > 0) then true else decide (q52.2 > 9223372036854775807)) : Bool) fun q58 => (if q58 then none else ((mks (w64 q52.2) (0 : Int)).bind fun x62 => (bnd (cpl x62 0 x62.length x0) fun x68 => ((SlicesRepeatLint.loop1 x62 fu ((min x0.length (x62.length - 0) : Nat) : Int) x68).bind fun q74 => match q74 with | (_, q80) => some q80)))))))
def MendProduct.loop1 (x0 : List (List Int)) (x1 : List (List Int)) : (List (List (List Int))) → Nat → Option (Out ((List (List Int)) × Int) Unit)
  | [], _ => some (.next ())
  | _ :: rest94, k92 => ((gx [x0, x1] ((k92 : Nat) : Int)).bind fun x102 => (if ((MendcheckTable x102) != 0) then some (.ret ([], (MendcheckTable x102))) else MendProduct.loop1 x0 x1 rest94 (k92 + 1)))
def MendProduct.loop5 (x1 : List (List Int)) (k120 : Nat) (q185 : Int) : (List Int) → Nat → (List (List Int)) → Option (List (List Int))
  | [], _, q206 => some q206
  | x198 :: rest199, k197, q206 => (((if (x198 != (-4611686018427387904)) then ((gx x1 ((k197 : Nat) : Int)).bind fun x225 => ((gx x225 q185).bind fun x237 => some (x237 != (-4611686018427387904)))) else some false) : Option Bool).bind fun q222 => (((if q222 then ((gx q206 ((k120 : Nat) : Int)).bind fun x260 => ((gx q206 ((k120 : Nat) : Int)).bind fun x270 => ((gx x270 q185).bind fun x280 => ((gx x1 ((k197 : Nat) : Int)).bind fun x290 => ((gx x290 q185).bind fun x302 => ((ix x260 q185).bind fun _ => ((sx x260 q185 (mx x280 (w64 (x198 + x302)))).bind fun x317 => some (q206.set ((((k120 : Nat) : Int)).toNat) x317)))))))) else some q206) : Option (List (List Int))).bind fun q250 => MendProduct.loop5 x1 k120 q185 rest199 (k197 + 1) q250))
def MendProduct.loop4 (x1 : List (List Int)) (q74 : Int) (x121 : List Int) (k120 : Nat) : Nat → Int → (List (List Int)) → Option (Int × (List (List Int)))
  | 0, _, _ => none
  | n181 + 1, q185, q186 => (if decide (q185 < q74) then ((MendProduct.loop5 x1 k120 q185 x121 0 q186).bind fun q206 => MendProduct.loop4 x1 q74 x121 k120 n181 (w64 (q185 + 1)) q206) else some (q185, q186))
def MendProduct.loop2 (x1 : List (List Int)) (fu : Nat) (q74 : Int) : (List (List Int)) → Nat → (List (List Int)) → Option (List (List Int))
  | [], _, q129 => some q129
  | x121 :: rest122, k120, q129 => ((SlicesRepeatLint fu [(-4611686018427387904)] q74).bind fun q150 => ((ix q129 ((k120 : Nat) : Int)).bind fun _ => ((sx q129 ((k120 : Nat) : Int) q150).bind fun x163 => ((MendProduct.loop4 x1 q74 x121 k120 fu 0 x163).bind fun q180 => match q180 with | (_, q186) => MendProduct.loop2 x1 fu q74 rest122 (k120 + 1) q186))))
def MendProduct (fu : Nat) (x0 : List (List Int)) (x1 : List (List Int)) : Option ((List (List Int)) × Int) := (bnd ((if decide (((x0).length : Int) > 8) then true else decide (((x1).length : Int) > 8)) : Bool) fun q56 => (if q56 then some ([], 4) else (((if (SlicesContainsFuncLLint_v1 x0 x1) then some true else ((SlicesContainsFuncLLint_v2 x1 x1).bind fun q67 => some q67)) : Option Bool).bind fun q64 => (if q64 then some ([], 1) else (((if decide (((x1).length : Int) > 0) then ((gx x1 0).bind fun x77 => some ((x77).length : Int)) else some 0) : Option Int).bind fun q74 => (if decide (q74 > 8) then some ([], 4) else ((MendProduct.loop1 x0 x1 [x0, x1] 0).bind fun q91 => match q91 with | .ret r => some r | .next () => ((mks ((x0).length : Int) ([] : List Int)).bind fun x112 => ((MendProduct.loop2 x1 fu q74 x0 0 x112).bind fun q129 => some (q129, 0))))))))))
def Fishref2within (x0 : Int) (x1 : Int) (x2 : Int) : Bool := (bnd ((if decide (x0 ≥ x1) then decide (x0 ≤ x2) else false) : Bool) fun q55 => q55)
def Fishref2numbersFault.loop2 : (List Int) → Out Int Unit
  | [] => (.next ())
  | x73 :: rest74 => (bnd ((if (x73 != (-4611686018427387904)) then !(Fishref2within x73 (-1099511627776) 1099511627776) else false) : Bool) fun q90 => (if q90 then (.ret 2) else Fishref2numbersFault.loop2 rest74))
def Fishref2numbersFault.loop1 : (List (List Int)) → Out Int Unit
  | [] => (.next ())
  | x54 :: rest55 => (bnd (Fishref2numbersFault.loop2 x54) fun q71 => match q71 with | .ret r => (.ret r) | .next () => Fishref2numbersFault.loop1 rest55)
def Fishref2numbersFault (x0 : List (List Int)) : Int := (bnd (Fishref2numbersFault.loop1 x0) fun q52 => match q52 with | .ret r => r | .next () => 0)
def Fishref2ProductOf.loop1 (x1 : List (List Int)) : (List (List Int)) → Out ((List (List Int)) × Int) Unit
  | [] => (.next ())
  | x63 :: rest64 => (if (((x63).length : Int) != ((x1).length : Int)) then (.ret ([], 1)) else Fishref2ProductOf.loop1 x1 rest64)
def Fishref2ProductOf.loop2 : (List (List Int)) → Nat → Int → Out ((List (List Int)) × Int) Int
  | [], _, q92 => (.next q92)
  | x84 :: rest85, k83, q92 => (bnd ((if decide (((k83 : Nat) : Int) > 0) then (((x84).length : Int) != q92) else false) : Bool) fun q105 => (if q105 then (.ret ([], 1)) else Fishref2ProductOf.loop2 rest85 (k83 + 1) ((x84).length : Int)))
def Fishref2ProductOf.loop3 : (List (List (List Int))) → Out ((List (List Int)) × Int) Unit
  | [] => (.next ())
  | x121 :: rest122 => (if ((Fishref2numbersFault x121) != 0) then (.ret ([], (Fishref2numbersFault x121))) else Fishref2ProductOf.loop3 rest122)
def Fishref2ProductOf.loop6 (x183 : Int) : (List Int) → Nat → (List Int) → Option (List Int)
  | [], _, q225 => some q225
  | x217 :: rest218, k216, q225 => (bnd ((if (x183 != (-4611686018427387904)) then (x217 != (-4611686018427387904)) else false) : Bool) fun q240 => (((if q240 then ((gx q225 ((k216 : Nat) : Int)).bind fun x255 => ((ix q225 ((k216 : Nat) : Int)).bind fun _ => ((sx q225 ((k216 : Nat) : Int) (mx x255 (w64 (x183 + x217)))).bind fun x270 => some x270))) else some q225) : Option (List Int)).bind fun q247 => Fishref2ProductOf.loop6 x183 rest218 (k216 + 1) q247))
def Fishref2ProductOf.loop5 (x1 : List (List Int)) : (List Int) → Nat → (List Int) → Option (List Int)
  | [], _, q191 => some q191
  | x183 :: rest184, k182, q191 => ((gx x1 ((k182 : Nat) : Int)).bind fun x202 => ((Fishref2ProductOf.loop6 x183 x202 0 q191).bind fun q225 => Fishref2ProductOf.loop5 x1 rest184 (k182 + 1) q225))
def Fishref2ProductOf.loop4 (x1 : List (List Int)) (fu : Nat) (q92 : Int) : (List (List Int)) → (List (List Int)) → Option (List (List Int))
  | [], q151 => some q151
  | x143 :: rest144, q151 => ((SlicesRepeatLint fu [(-4611686018427387904)] q92).bind fun q172 => ((Fishref2ProductOf.loop5 x1 x143 0 q172).bind fun q191 => ((apd q151 [q191]).bind fun x279 => Fishref2ProductOf.loop4 x1 fu q92 rest144 x279)))
def Fishref2ProductOf (fu : Nat) (x0 : List (List Int)) (x1 : List (List Int)) : Option ((List (List Int)) × Int) := (bnd ((if decide (((x0).length : Int) > 8) then true else decide (((x1).length : Int) > 8)) : Bool) fun q55 => (if q55 then some ([], 4) else (bnd (Fishref2ProductOf.loop1 x1 x0) fun q61 => match q61 with | .ret r => some r | .next () => (bnd (Fishref2ProductOf.loop2 x1 0 0) fun q82 => match q82 with | .ret r => some r | .next q92 => (if decide (q92 > 8) then some ([], 4) else (bnd (Fishref2ProductOf.loop3 [x0, x1]) fun q119 => match q119 with | .ret r => some r | .next () => ((Fishref2ProductOf.loop4 x1 fu q92 x0 []).bind fun q151 => some (q151, 0))))))))
def MendClosure_1_v1 (x0 : List Int) (y0 : List (List Int)) : Bool := (((x0).length : Int) != ((y0).length : Int))
def SlicesIndexFuncLLint_v3.loop1 (y0 : List (List Int)) : (List (List Int)) → Nat → Out Int Unit
  | [], _ => (.next ())
  | x54 :: rest55, k53 => (if (MendClosure_1_v1 x54 y0) then (.ret ((k53 : Nat) : Int)) else SlicesIndexFuncLLint_v3.loop1 y0 rest55 (k53 + 1))
def SlicesIndexFuncLLint_v3 (x0 : List (List Int)) (y0 : List (List Int)) : Int := (bnd (SlicesIndexFuncLLint_v3.loop1 y0 x0 0) fun q52 => match q52 with | .ret r => r | .next () => (-1))
def SlicesContainsFuncLLint_v3 (x0 : List (List Int)) (y0 : List (List Int)) : Bool := decide ((SlicesIndexFuncLLint_v3 x0 y0) ≥ 0)
def SlicesCloneLint (x0 : List Int) : Option (List Int) := ((apd [] x0).bind fun x56 => some x56)
def MendClosure.loop1 : (List (List Int)) → Nat → (List (List Int)) → Option (List (List Int))
  | [], _, q72 => some q72
  | x64 :: rest65, k63, q72 => ((SlicesCloneLint x64).bind fun q87 => ((ix q72 ((k63 : Nat) : Int)).bind fun _ => ((sx q72 ((k63 : Nat) : Int) q87).bind fun x100 => MendClosure.loop1 rest65 (k63 + 1) x100)))
def MendClosure.loop4 (k107 : Nat) (k127 : Nat) : Nat → Nat → (List (List Int)) → Option (List (List Int))
  | 0, _, q157 => some q157
  | rest149 + 1, k147, q157 => ((((gx q157 ((k127 : Nat) : Int)).bind fun x171 => ((gx x171 ((k107 : Nat) : Int)).bind fun x181 => (if (x181 != (-4611686018427387904)) then ((gx q157 ((k107 : Nat) : Int)).bind fun x192 => ((gx x192 ((k147 : Nat) : Int)).bind fun x202 => some (x202 != (-4611686018427387904)))) else some false))) : Option Bool).bind fun q169 => (((if q169 then ((gx q157 ((k127 : Nat) : Int)).bind fun x226 => ((gx q157 ((k127 : Nat) : Int)).bind fun x236 => ((gx x236 ((k147 : Nat) : Int)).bind fun x246 => ((gx q157 ((k127 : Nat) : Int)).bind fun x256 => ((gx x256 ((k107 : Nat) : Int)).bind fun x266 => ((gx q157 ((k107 : Nat) : Int)).bind fun x276 => ((gx x276 ((k147 : Nat) : Int)).bind fun x286 => ((ix x226 ((k147 : Nat) : Int)).bind fun _ => ((sx x226 ((k147 : Nat) : Int) (mx x246 (w64 (x266 + x286)))).bind fun x302 => some (q157.set ((((k127 : Nat) : Int)).toNat) x302)))))))))) else some q157) : Option (List (List Int))).bind fun q216 => MendClosure.loop4 k107 k127 rest149 (k147 + 1) q216))
def MendClosure.loop3 (x55 : List (List Int)) (k107 : Nat) : Nat → Nat → (List (List Int)) → Option (List (List Int))
  | 0, _, q137 => some q137
  | rest129 + 1, k127, q137 => ((MendClosure.loop4 k107 k127 x55.length 0 q137).bind fun q157 => MendClosure.loop3 x55 k107 rest129 (k127 + 1) q157)
def MendClosure.loop2 (x55 : List (List Int)) : Nat → Nat → (List (List Int)) → Option (List (List Int))
  | 0, _, q117 => some q117
  | rest109 + 1, k107, q117 => ((MendClosure.loop3 x55 k107 x55.length 0 q117).bind fun q137 => MendClosure.loop2 x55 rest109 (k107 + 1) q137)
def MendClosure.loop5 : Nat → Nat → (List (List Int)) → Option (Out ((List (List Int)) × Int) (List (List Int)))
  | 0, _, q322 => some (.next q322)
  | rest314 + 1, k312, q322 => ((gx q322 ((k312 : Nat) : Int)).bind fun x330 => ((gx x330 ((k312 : Nat) : Int)).bind fun x340 => (if decide (x340 > 0) then some (.ret ([], 5)) else ((gx q322 ((k312 : Nat) : Int)).bind fun x351 => ((ix x351 ((k312 : Nat) : Int)).bind fun _ => ((sx x351 ((k312 : Nat) : Int) 0).bind fun x367 => MendClosure.loop5 rest314 (k312 + 1) (q322.set ((((k312 : Nat) : Int)).toNat) x367)))))))
def MendClosure (x0 : List (List Int)) : Option ((List (List Int)) × Int) := (if decide (((x0).length : Int) > 8) then some ([], 4) else (if (SlicesContainsFuncLLint_v3 x0 x0) then some ([], 1) else (if ((MendcheckTable x0) != 0) then some ([], (MendcheckTable x0)) else ((mks ((x0).length : Int) ([] : List Int)).bind fun x55 => ((MendClosure.loop1 x0 0 x55).bind fun q72 => ((MendClosure.loop2 x55 x55.length 0 q72).bind fun q117 => ((MendClosure.loop5 x55.length 0 q117).bind fun q311 => match q311 with | .ret r => some r | .next q322 => some (q322, 0))))))))
def Fishref2ClosureOf.loop1 (x0 : List (List Int)) : (List (List Int)) → Out ((List (List Int)) × Int) Unit
  | [] => (.next ())
  | x55 :: rest56 => (if (((x55).length : Int) != ((x0).length : Int)) then (.ret ([], 1)) else Fishref2ClosureOf.loop1 x0 rest56)
def Fishref2ClosureOf.loop6 (x0 : List (List Int)) (k81 : Nat) (q164 : Int) (x177 : List Int) (k176 : Nat) : (List (List Int)) → Nat → (List (List Int)) → Option (Out ((List (List Int)) × Int) (List (List Int)))
  | [], _, q204 => some (.next q204)
  | _ :: rest197, k195, q204 => ((((gx q204 ((k81 : Nat) : Int)).bind fun x218 => ((gx x218 ((k176 : Nat) : Int)).bind fun x228 => (if (x228 == (-4611686018427387904)) then some true else ((gx x177 ((k195 : Nat) : Int)).bind fun x246 => some (x246 == (-4611686018427387904)))))) : Option Bool).bind fun q216 => (if q216 then Fishref2ClosureOf.loop6 x0 k81 q164 x177 k176 rest197 (k195 + 1) q204 else ((gx q204 ((k81 : Nat) : Int)).bind fun x256 => ((gx x256 ((k176 : Nat) : Int)).bind fun x266 => ((gx x177 ((k195 : Nat) : Int)).bind fun x283 => ((gx q204 ((k81 : Nat) : Int)).bind fun x292 => ((gx x292 ((k195 : Nat) : Int)).bind fun x302 => (((if decide ((w64 (x266 + x283)) > x302) then (bnd ((if (q164 == ((x0).length : Int)) then true else (if (((k195 : Nat) : Int) == ((k81 : Nat) : Int)) then decide ((w64 (x266 + x283)) > 0) else false)) : Bool) fun q329 => (if q329 then some (.ret ([], 5)) else ((gx q204 ((k81 : Nat) : Int)).bind fun x334 => ((ix x334 ((k195 : Nat) : Int)).bind fun _ => ((sx x334 ((k195 : Nat) : Int) (w64 (x266 + x283))).bind fun x350 => some (.next (q204.set ((((k81 : Nat) : Int)).toNat) x350))))))) else some (.next q204)) : Option (Out ((List (List Int)) × Int) (List (List Int)))).bind fun q313 => match q313 with | .ret r => some (.ret r) | .next q316 => Fishref2ClosureOf.loop6 x0 k81 q164 x177 k176 rest197 (k195 + 1) q316))))))))
def Fishref2ClosureOf.loop5 (x0 : List (List Int)) (k81 : Nat) (q164 : Int) : (List (List Int)) → Nat → (List (List Int)) → Option (Out ((List (List Int)) × Int) (List (List Int)))
  | [], _, q185 => some (.next q185)
  | x177 :: rest178, k176, q185 => ((Fishref2ClosureOf.loop6 x0 k81 q164 x177 k176 x0 0 q185).bind fun q194 => match q194 with | .ret r => some (.ret r) | .next q204 => Fishref2ClosureOf.loop5 x0 k81 q164 rest178 (k176 + 1) q204)
def Fishref2ClosureOf.loop4 (x0 : List (List Int)) (k81 : Nat) : Nat → Int → (List (List Int)) → Option (Out ((List (List Int)) × Int) (Int × (List (List Int))))
  | 0, _, _ => none
  | n160 + 1, q164, q165 => (if decide (q164 < (w64 (((x0).length : Int) + 1))) then ((Fishref2ClosureOf.loop5 x0 k81 q164 x0 0 q165).bind fun q175 => match q175 with | .ret r => some (.ret r) | .next q185 => Fishref2ClosureOf.loop4 x0 k81 n160 (w64 (q164 + 1)) q185) else some (.next (q164, q165)))
def Fishref2ClosureOf.loop2 (x0 : List (List Int)) (fu : Nat) : Nat → Nat → (List (List Int)) → Option (Out ((List (List Int)) × Int) (List (List Int)))
  | 0, _, q91 => some (.next q91)
  | rest83 + 1, k81, q91 => ((SlicesRepeatLint fu [(-4611686018427387904)] ((x0).length : Int)).bind fun q105 => ((ix q91 ((k81 : Nat) : Int)).bind fun _ => ((sx q91 ((k81 : Nat) : Int) q105).bind fun x118 => ((gx x118 ((k81 : Nat) : Int)).bind fun x123 => ((ix x123 ((k81 : Nat) : Int)).bind fun _ => ((sx x123 ((k81 : Nat) : Int) 0).bind fun x139 => ((Fishref2ClosureOf.loop4 x0 k81 fu 0 (x118.set ((((k81 : Nat) : Int)).toNat) x139)).bind fun q159 => match q159 with | .ret r => some (.ret r) | .next (_, q165) => Fishref2ClosureOf.loop2 x0 fu rest83 (k81 + 1) q165)))))))
def Fishref2ClosureOf (fu : Nat) (x0 : List (List Int)) : Option ((List (List Int)) × Int) := (if decide (((x0).length : Int) > 8) then some ([], 4) else (bnd (Fishref2ClosureOf.loop1 x0 x0) fun q53 => match q53 with | .ret r => some r | .next () => (if ((Fishref2numbersFault x0) != 0) then some ([], (Fishref2numbersFault x0)) else ((mks ((x0).length : Int) ([] : List Int)).bind fun x73 => ((Fishref2ClosureOf.loop2 x0 fu x73.length 0 x73).bind fun q80 => match q80 with | .ret r => some r | .next q91 => some (q91, 0))))))
def MendRoundslack (x0 : MendRound) (x1 : MendLink) : Option Int := ((gx x0.Plan x1.To).bind fun x53 => ((gx x0.Plan x1.From).bind fun x62 => some (w64 ((w64 ((w64 (x53 - x62)) + (w64 (x1.Back * x0.Period)))) - x1.Len))))
def MendRoundring.loop3 : (List MendLink) → Bool → (List Int) → Option (Bool × (List Int))
  | [], q95, q96 => some (q95, q96)
  | x87 :: rest88, q95, q96 => (((if (x87.Back == 0) then ((gx q96 x87.To).bind fun x115 => ((gx q96 x87.From).bind fun x125 => some (decide (x115 ≤ x125)))) else some false) : Option Bool).bind fun q112 => (((if q112 then ((gx q96 x87.From).bind fun x149 => ((ix q96 x87.To).bind fun _ => ((sx q96 x87.To (w64 (x149 + 1))).bind fun x164 => some (true, x164)))) else some (q95, q96)) : Option (Bool × (List Int))).bind fun q136 => match q136 with | (q139, q140) => MendRoundring.loop3 rest88 q139 q140))
def MendRoundring.loop2 (x0 : MendRound) : Nat → Int → (List Int) → Option (Out Bool (Int × (List Int)))
  | 0, _, _ => none
  | n71 + 1, q75, q76 => (if decide (q75 < (w64 (((x0.Plan).length : Int) + 1))) then ((MendRoundring.loop3 x0.Links false q76).bind fun q85 => match q85 with | (q95, q96) => (if !q95 then some (.ret false) else MendRoundring.loop2 x0 n71 (w64 (q75 + 1)) q96)) else some (.next (q75, q76)))
def MendRoundring (fu : Nat) (x0 : MendRound) : Option Bool := ((mks ((x0.Plan).length : Int) (0 : Int)).bind fun x52 => ((MendRoundring.loop2 x0 fu 0 x52).bind fun q70 => match q70 with | .ret r => some r | .next (_, _) => some true))
def MendCheckRound.loop1 (x0 : MendRound) : (List Int) → Out Int Unit
  | [] => (.next ())
  | x64 :: rest65 => (if !(Mendwithin x64 0 (w64 (x0.Period - 1))) then (.ret 2) else MendCheckRound.loop1 x0 rest65)
def MendCheckRound.loop2 (x0 : MendRound) : (List MendLink) → Option (Out Int Unit)
  | [] => some (.next ())
  | x81 :: rest82 => (bnd ((if !(Mendwithin x81.From 0 (w64 (((x0.Plan).length : Int) - 1))) then true else !(Mendwithin x81.To 0 (w64 (((x0.Plan).length : Int) - 1)))) : Bool) fun q99 => (if q99 then some (.ret 3) else (bnd ((if !(Mendwithin x81.Len 0 28800) then true else !(Mendwithin x81.Back 0 3)) : Bool) fun q107 => (if q107 then some (.ret 2) else ((MendRoundslack x0 x81).bind fun q111 => (if decide (q111 < 0) then some (.ret 13) else MendCheckRound.loop2 x0 rest82))))))
def MendCheckRound (fu : Nat) (x0 : MendRound) : Option Int := (if !(Mendwithin x0.Period 1 3600) then some 2 else (bnd ((if !(Mendwithin ((x0.Plan).length : Int) 1 8) then true else decide (((x0.Links).length : Int) > 24)) : Bool) fun q57 => (if q57 then some 4 else (bnd (MendCheckRound.loop1 x0 x0.Plan) fun q62 => match q62 with | .ret r => some r | .next () => ((MendCheckRound.loop2 x0 x0.Links).bind fun q79 => match q79 with | .ret r => some r | .next () => ((MendRoundring fu x0).bind fun q114 => (if q114 then some 5 else some 0)))))))
def MendRoom.loop3 (x0 : MendRound) (k63 : Nat) : (List MendLink) → Bool → (List (List Int)) → Option (Bool × (List (List Int)))
  | [], q156, q157 => some (q156, q157)
  | x148 :: rest149, q156, q157 => ((gx q157 ((k63 : Nat) : Int)).bind fun x170 => ((gx x170 x148.From).bind fun x180 => (if decide (x180 < 0) then MendRoom.loop3 x0 k63 rest149 q156 q157 else ((gx q157 ((k63 : Nat) : Int)).bind fun x191 => ((gx x191 x148.From).bind fun x201 => ((MendRoundslack x0 x148).bind fun q211 => ((((gx q157 ((k63 : Nat) : Int)).bind fun x219 => ((gx x219 x148.To).bind fun x229 => (if decide (x229 < 0) then some true else ((gx q157 ((k63 : Nat) : Int)).bind fun x240 => ((gx x240 x148.To).bind fun x250 => some (decide ((w64 (x201 + q211)) < x250))))))) : Option Bool).bind fun q217 => (((if q217 then ((gx q157 ((k63 : Nat) : Int)).bind fun x275 => ((ix x275 x148.To).bind fun _ => ((sx x275 x148.To (w64 (x201 + q211))).bind fun x291 => some (true, (q157.set ((((k63 : Nat) : Int)).toNat) x291))))) else some (q156, q157)) : Option (Bool × (List (List Int)))).bind fun q261 => match q261 with | (q264, q265) => MendRoom.loop3 x0 k63 rest149 q264 q265))))))))
def MendRoom.loop2 (x0 : MendRound) (k63 : Nat) : Nat → Bool → (List (List Int)) → Option (Bool × (List (List Int)))
  | 0, _, _ => none
  | n131 + 1, q135, q136 => (if q135 then ((MendRoom.loop3 x0 k63 x0.Links false q136).bind fun q146 => match q146 with | (q156, q157) => MendRoom.loop2 x0 k63 n131 q156 q157) else some (q135, q136))
def MendRoom.loop1 (x0 : MendRound) (fu : Nat) : Nat → Nat → (List (List Int)) → Option (List (List Int))
  | 0, _, q73 => some q73
  | rest65 + 1, k63, q73 => ((SlicesRepeatLint fu [(-1)] ((x0.Plan).length : Int)).bind fun q87 => ((ix q73 ((k63 : Nat) : Int)).bind fun _ => ((sx q73 ((k63 : Nat) : Int) q87).bind fun x100 => ((gx x100 ((k63 : Nat) : Int)).bind fun x105 => ((ix x105 ((k63 : Nat) : Int)).bind fun _ => ((sx x105 ((k63 : Nat) : Int) 0).bind fun x121 => ((MendRoom.loop2 x0 k63 fu true (x100.set ((((k63 : Nat) : Int)).toNat) x121)).bind fun q130 => match q130 with | (_, q136) => MendRoom.loop1 x0 fu rest65 (k63 + 1) q136)))))))
def MendRoom (fu : Nat) (x0 : MendRound) : Option ((List (List Int)) × Int) := ((MendCheckRound fu x0).bind fun q52 => (if (q52 != 0) then some ([], q52) else ((mks ((x0.Plan).length : Int) ([] : List Int)).bind fun x55 => ((MendRoom.loop1 x0 fu x55.length 0 x55).bind fun q73 => some (q73, 0)))))
def SlicesEqualLint.loop1 (x1 : List Int) : (List Int) → Nat → Option (Out Bool Unit)
  | [], _ => some (.next ())
  | x55 :: rest56, k54 => ((gx x1 ((k54 : Nat) : Int)).bind fun x68 => (if (x55 != x68) then some (.ret false) else SlicesEqualLint.loop1 x1 rest56 (k54 + 1)))
def SlicesEqualLint (x0 : List Int) (x1 : List Int) : Option Bool := (if (((x0).length : Int) != ((x1).length : Int)) then some false else ((SlicesEqualLint.loop1 x1 x0 0).bind fun q53 => match q53 with | .ret r => some r | .next () => some true))
def SlicesEqualFuncLLint_v1.loop1 (x1 : List (List Int)) : (List (List Int)) → Nat → Option (Out Bool Unit)
  | [], _ => some (.next ())
  | x55 :: rest56, k54 => ((gx x1 ((k54 : Nat) : Int)).bind fun x71 => ((SlicesEqualLint x55 x71).bind fun q83 => (if !q83 then some (.ret false) else SlicesEqualFuncLLint_v1.loop1 x1 rest56 (k54 + 1))))
def SlicesEqualFuncLLint_v1 (x0 : List (List Int)) (x1 : List (List Int)) : Option Bool := (if (((x0).length : Int) != ((x1).length : Int)) then some false else ((SlicesEqualFuncLLint_v1.loop1 x1 x0 0).bind fun q53 => match q53 with | .ret r => some r | .next () => some true))
def Fishlaw2lists (x0 : List (List Int)) (x1 : List (List Int)) : Option Bool := ((SlicesEqualFuncLLint_v1 x0 x1).bind fun q51 => some q51)
def Fishlaw2rounds (fu : Nat) : Option Bool := ((MendRoom fu (MendRound.mk 60 [0, 20] [(MendLink.mk 0 1 15 0), (MendLink.mk 1 0 35 1)])).bind fun q64 => (((if (q64.2 == 0) then ((Fishlaw2lists q64.1 [[0, 5], [5, 0]]).bind fun q96 => some q96) else some false) : Option Bool).bind fun q75 => some q75))
def Fishlaw2MendProducts (fu : Nat) (x0 : List (List Int)) (x1 : List (List Int)) : Option Bool := ((MendProduct fu x0 x1).bind fun q51 => ((Fishref2ProductOf fu x0 x1).bind fun q58 => ((MendClosure x0).bind fun q68 => ((Fishref2ClosureOf fu x0).bind fun q75 => ((((Fishlaw2rounds fu).bind fun q88 => (if q88 then (if (q51.2 == q58.2) then (if (q68.2 == q75.2) then ((Fishlaw2lists q51.1 q58.1).bind fun q93 => (if q93 then ((Fishlaw2lists q68.1 q75.1).bind fun q100 => some q100) else some false)) else some false) else some false) else some false)) : Option Bool).bind fun q86 => some q86)))))
end Go.Fp
