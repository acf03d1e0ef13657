/- The mirrors of the functions that MendSettles reaches: plain Lean functions on data. No condition. -/
import Derived.Test.YtfioafdipipcaaaFpCopy
namespace Go.Fp
structure MendLink where
  From : Int
  To : Int
  Len : Int
  Back : Int
  deriving DecidableEq, Inhabited
-- MendLink is of one size
def MendLink.cells (x : MendLink) : List Go.Value := [.int .i64 x.From, .int .i64 x.To, .int .i64 x.Len, .int .i64 x.Back]
def RMendLink : Rd MendLink := fun _ cs x => cs = x.cells
theorem RMendLink.mono : Rmono RMendLink := fun _ _ _ _ _ h => h
theorem RMendLink.one : Rone RMendLink := by intro s cs x h; subst h; rfl

structure MendRound where
  Period : Int
  Plan : List Int
  Links : List MendLink
  deriving DecidableEq, Inhabited
def szMendRound (x : MendRound) : Nat := (szL sz1) x.Plan + (szL sz1) x.Links + 1
def RMendRound : Rd MendRound := fun s cs x => ∃ a0 c0 a1 c1, cs = [.int .i64 x.Period, .slice a0 x.Plan.length c0, .slice a1 x.Links.length c1] ∧ Sl 1 (RI .i64) s a0 c0 x.Plan ∧ Sl 4 RMendLink s a1 c1 x.Links
theorem RMendRound.one : Rone RMendRound := by rintro s cs x ⟨a0, c0, a1, c1, rfl, _⟩; rfl
theorem RMendRound.mono : Rmono RMendRound := fun _ _ h _ _ ⟨a0, c0, a1, c1, e, h0, h1⟩ => ⟨a0, c0, a1, c1, e, h0.mono RI.mono h, h1.mono RMendLink.mono h⟩
def Mendwithin (x0 : Int) (x1 : Int) (x2 : Int) : Bool := (bnd ((if decide (x0 ≥ x1) then decide (x0 ≤ x2) else false) : Bool) fun q55 => q55)
def MendRoundslack (x0 : MendRound) (x1 : MendLink) : Option Int := ((gx x0.Plan x1.To).bind fun x53 => ((gx x0.Plan x1.From).bind fun x62 => some (w64 ((w64 ((w64 (x53 - x62)) + (w64 (x1.Back * x0.Period)))) - x1.Len))))
def MendRoundring.loop3 : (List MendLink) → Bool → (List Int) → Option (Bool × (List Int))
  | [], q95, q96 => some (q95, q96)
  | x87 :: rest88, q95, q96 => (((if (x87.Back == 0) then ((gx q96 x87.To).bind fun x115 => ((gx q96 x87.From).bind fun x125 => some (decide (x115 ≤ x125)))) else some false) : Option Bool).bind fun q112 => (((if q112 then ((gx q96 x87.From).bind fun x149 => ((ix q96 x87.To).bind fun _ => ((sx q96 x87.To (w64 (x149 + 1))).bind fun x164 => some (true, x164)))) else some (q95, q96)) : Option (Bool × (List Int))).bind fun q136 => match q136 with | (q139, q140) => MendRoundring.loop3 rest88 q139 q140))
def MendRoundring.loop2 (x0 : MendRound) : Nat → Int → (List Int) → Option (Out Bool (Int × (List Int)))
  | 0, _, _ => none
  | n71 + 1, q75, q76 => (if decide (q75 < (w64 (((x0.Plan).length : Int) + 1))) then ((MendRoundring.loop3 x0.Links false q76).bind fun q85 => match q85 with | (q95, q96) => (if !q95 then some (.ret false) else MendRoundring.loop2 x0 n71 (w64 (q75 + 1)) q96)) else some (.next (q75, q76)))
def MendRoundring (fu : Nat) (x0 : MendRound) : Option Bool := ((mks ((x0.Plan).length : Int) (0 : Int)).bind fun x52 => ((MendRoundring.loop2 x0 fu 0 x52).bind fun q70 => match q70 with | .ret r => some r | .next (_, _) => some true))
def MendCheckRound.loop1 (x0 : MendRound) : (List Int) → Out Int Unit
  | [] => (.next ())
  | x64 :: rest65 => (if !(Mendwithin x64 0 (w64 (x0.Period - 1))) then (.ret 2) else MendCheckRound.loop1 x0 rest65)
def MendCheckRound.loop2 (x0 : MendRound) : (List MendLink) → Option (Out Int Unit)
  | [] => some (.next ())
  | x81 :: rest82 => (bnd ((if !(Mendwithin x81.From 0 (w64 (((x0.Plan).length : Int) - 1))) then true else !(Mendwithin x81.To 0 (w64 (((x0.Plan).length : Int) - 1)))) : Bool) fun q99 => (if q99 then some (.ret 3) else (bnd ((if !(Mendwithin x81.Len 0 28800) then true else !(Mendwithin x81.Back 0 3)) : Bool) fun q107 => (if q107 then some (.ret 2) else ((MendRoundslack x0 x81).bind fun q111 => (if decide (q111 < 0) then some (.ret 13) else MendCheckRound.loop2 x0 rest82))))))
def MendCheckRound (fu : Nat) (x0 : MendRound) : Option Int := (if !(Mendwithin x0.Period 1 3600) then some 2 else (bnd ((if !(Mendwithin ((x0.Plan).length : Int) 1 8) then true else decide (((x0.Links).length : Int) > 24)) : Bool) fun q57 => (if q57 then some 4 else (bnd (MendCheckRound.loop1 x0 x0.Plan) fun q62 => match q62 with | .ret r => some r | .next () => ((MendCheckRound.loop2 x0 x0.Links).bind fun q79 => match q79 with | .ret r => some r | .next () => ((MendRoundring fu x0).bind fun q114 => (if q114 then some 5 else some 0)))))))
def SlicesCloneLint (x0 : List Int) : Option (List Int) := ((apd [] x0).bind fun x56 => some x56)
def MendRoundmean_1_v1.loop1 (x0 : Int) (x1 : Int) (x3 : List Int) (x4 : Int) (x5 : Int) (y0 : MendRound) (self_MendRoundmean_1_v1 : Int → Int → (List Bool) → (List Int) → Int → Int → MendRound → (List Int) → Int → Int → Option ((List Bool) × (List Int) × Int × Int)) : (List MendLink) → Nat → (List Bool) → (List Int) → Int → Int → Option ((List Bool) × (List Int) × Int × Int)
  | [], _, q88, q94, q99, q100 => some (q88, q94, q99, q100)
  | x80 :: rest81, k79, q88, q94, q99, q100 => (bnd ((if (x80.From != x1) then true else decide (x80.To < x0)) : Bool) fun q111 => (if q111 then MendRoundmean_1_v1.loop1 x0 x1 x3 x4 x5 y0 self_MendRoundmean_1_v1 rest81 (k79 + 1) q88 q94 q99 q100 else (((if (x80.To == x0) then (bnd ((if q94.isEmpty then true else decide ((w64 ((w64 (x4 + x80.Len)) * q99)) > (w64 (q100 * (w64 (x5 + x80.Back)))))) : Bool) fun q138 => (((if q138 then ((SlicesCloneLint x3).bind fun q154 => ((apd q154 [((k79 : Nat) : Int)]).bind fun x167 => ((nz x167).bind fun _ => some (x167, w64 (x5 + x80.Back), w64 (x4 + x80.Len))))) else some (q94, q99, q100)) : Option ((List Int) × Int × Int)).bind fun q142 => match q142 with | (q145, q150, q151) => some (q88, q145, q150, q151))) else ((gx q88 x80.To).bind fun x177 => (((if !x177 then ((ix q88 x80.To).bind fun _ => ((sx q88 x80.To true).bind fun x211 => ((apd x3 [((k79 : Nat) : Int)]).bind fun x218 => ((self_MendRoundmean_1_v1 x0 x80.To x211 x218 (w64 (x4 + x80.Len)) (w64 (x5 + x80.Back)) y0 q94 q99 q100).bind fun q227 => ((ix q227.1 x80.To).bind fun _ => ((sx q227.1 x80.To false).bind fun x243 => some (x243, q227.2.1, q227.2.2.1, q227.2.2.2))))))) else some (q88, q94, q99, q100)) : Option ((List Bool) × (List Int) × Int × Int)).bind fun q188 => match q188 with | (q191, q197, q202, q203) => some (q191, q197, q202, q203)))) : Option ((List Bool) × (List Int) × Int × Int)).bind fun q116 => match q116 with | (q119, q125, q130, q131) => MendRoundmean_1_v1.loop1 x0 x1 x3 x4 x5 y0 self_MendRoundmean_1_v1 rest81 (k79 + 1) q119 q125 q130 q131)))
def MendRoundmean_1_v1 : Nat → Int → Int → (List Bool) → (List Int) → Int → Int → MendRound → (List Int) → Int → Int → Option ((List Bool) × (List Int) × Int × Int)
  | 0, _, _, _, _, _, _, _, _, _, _ => none
  | fu + 1, x0, x1, x2, x3, x4, x5, y0, y1, y2, y3 => ((MendRoundmean_1_v1.loop1 x0 x1 x3 x4 x5 y0 (MendRoundmean_1_v1 fu) y0.Links 0 x2 y1 y2 y3).bind fun q78 => match q78 with | (q88, q94, q99, q100) => some (q88, q94, q99, q100))
def MendRoundmean.loop1 (x0 : MendRound) (fu : Nat) : (List Int) → Nat → Int → Int → (List Int) → Option (Int × Int × (List Int))
  | [], _, q67, q68, q69 => some (q67, q68, q69)
  | _ :: rest60, k58, q67, q68, q69 => ((mks ((x0.Plan).length : Int) (false : Bool)).bind fun x75 => ((MendRoundmean_1_v1 fu ((k58 : Nat) : Int) ((k58 : Nat) : Int) x75 [] 0 0 x0 q69 q68 q67).bind fun q82 => MendRoundmean.loop1 x0 fu rest60 (k58 + 1) q82.2.2.2 q82.2.2.1 q82.2.1))
def MendRoundmean (fu : Nat) (x0 : MendRound) : Option (Int × Int × (List Int)) := ((MendRoundmean.loop1 x0 fu x0.Plan 0 0 0 []).bind fun q57 => match q57 with | (q67, q68, q69) => some (q67, q68, q69))
def MendRoundstable (fu : Nat) (x0 : MendRound) : Option Bool := ((MendRoundmean fu x0).bind fun q52 => (bnd ((if q52.2.2.isEmpty then true else decide (q52.1 < (w64 (q52.2.1 * x0.Period)))) : Bool) fun q64 => some q64))
def MathBitsMul64 (x0 : Int) (x1 : Int) : Int × Int := (IntKind.wrap .u64 ((IntKind.wrap .u64 ((IntKind.wrap .u64 ((Int.fdiv x0 (2 ^ (min (Int.toNat 32) (IntKind.bits .u64)))) * (Int.fdiv x1 (2 ^ (min (Int.toNat 32) (IntKind.bits .u64)))))) + (Int.fdiv (IntKind.wrap .u64 ((IntKind.wrap .u64 ((Int.fdiv x0 (2 ^ (min (Int.toNat 32) (IntKind.bits .u64)))) * (IntKind.wrap .u64 ((BitVec.ofInt (IntKind.bits .u64) x1 &&& BitVec.ofInt (IntKind.bits .u64) 4294967295).toNat : Int)))) + (Int.fdiv (IntKind.wrap .u64 ((IntKind.wrap .u64 ((BitVec.ofInt (IntKind.bits .u64) x0 &&& BitVec.ofInt (IntKind.bits .u64) 4294967295).toNat : Int)) * (IntKind.wrap .u64 ((BitVec.ofInt (IntKind.bits .u64) x1 &&& BitVec.ofInt (IntKind.bits .u64) 4294967295).toNat : Int)))) (2 ^ (min (Int.toNat 32) (IntKind.bits .u64)))))) (2 ^ (min (Int.toNat 32) (IntKind.bits .u64)))))) + (Int.fdiv (IntKind.wrap .u64 ((IntKind.wrap .u64 ((BitVec.ofInt (IntKind.bits .u64) (IntKind.wrap .u64 ((IntKind.wrap .u64 ((Int.fdiv x0 (2 ^ (min (Int.toNat 32) (IntKind.bits .u64)))) * (IntKind.wrap .u64 ((BitVec.ofInt (IntKind.bits .u64) x1 &&& BitVec.ofInt (IntKind.bits .u64) 4294967295).toNat : Int)))) + (Int.fdiv (IntKind.wrap .u64 ((IntKind.wrap .u64 ((BitVec.ofInt (IntKind.bits .u64) x0 &&& BitVec.ofInt (IntKind.bits .u64) 4294967295).toNat : Int)) * (IntKind.wrap .u64 ((BitVec.ofInt (IntKind.bits .u64) x1 &&& BitVec.ofInt (IntKind.bits .u64) 4294967295).toNat : Int)))) (2 ^ (min (Int.toNat 32) (IntKind.bits .u64)))))) &&& BitVec.ofInt (IntKind.bits .u64) 4294967295).toNat : Int)) + (IntKind.wrap .u64 ((IntKind.wrap .u64 ((BitVec.ofInt (IntKind.bits .u64) x0 &&& BitVec.ofInt (IntKind.bits .u64) 4294967295).toNat : Int)) * (Int.fdiv x1 (2 ^ (min (Int.toNat 32) (IntKind.bits .u64)))))))) (2 ^ (min (Int.toNat 32) (IntKind.bits .u64))))), IntKind.wrap .u64 (x0 * x1))
def MathBitsMul (x0 : Int) (x1 : Int) : Int × Int := (bnd (MathBitsMul64 x0 x1) fun q51 => (q51.1, q51.2))
def SlicesRepeatLint.loop1 (x62 : List Int) : Nat → Int → (List Int) → Option (Int × (List Int))
  | 0, _, _ => none
  | n75 + 1, q79, q80 => (if decide (q79 < ((x62.length : Nat) : Int)) then ((cutl q80 q79 ((x62.length : Nat) : Int)).bind fun _ => ((cutl q80 0 q79).bind fun _ => (bnd (cpl q80 ((q79).toNat) x62.length ((q80.take ((q79).toNat)).drop 0)) fun x107 => SlicesRepeatLint.loop1 x62 n75 (w64 (q79 + ((min ((q80.take ((q79).toNat)).drop 0).length (x62.length - ((q79).toNat)) : Nat) : Int))) x107))) else some (q79, q80))
def SlicesRepeatLint (fu : Nat) (x0 : List Int) (x1 : Int) : Option (List Int) := (if decide (x1 < 0) then none else (bnd (MathBitsMul (IntKind.wrap .u64 ((x0).length : Int)) (IntKind.wrap .u64 x1)) fun q52 => (bnd ((if decide (q52.1 > 0) then true else decide (q52.2 > 9223372036854775807)) : Bool) fun q58 => (if q58 then none else ((mks (w64 q52.2) (0 : Int)).bind fun x62 => (bnd (cpl x62 0 x62.length x0) fun x68 => ((SlicesRepeatLint.loop1 x62 fu ((min x0.length (x62.length - 0) : Nat) : Int) x68).bind fun q74 => match q74 with | (_, q80) => some q80)))))))
def MendRoundfollow.loop2 (x0 : MendRound) (x2 : List (List Int)) : (List MendLink) → Bool → (List Int) → Option (Bool × (List Int))
  | [], q86, q87 => some (q86, q87)
  | x78 :: rest79, q86, q87 => (if decide (x78.Back > 0) then (if decide (x78.Back > ((x2).length : Int)) then MendRoundfollow.loop2 x0 x2 rest79 q86 q87 else ((gx x2 (w64 (x78.Back - 1))).bind fun x101 => ((gx x101 x78.From).bind fun x113 => ((MendRoundslack x0 x78).bind fun q122 => ((gx q87 x78.To).bind fun x124 => (((if decide ((w64 (x113 - q122)) > x124) then ((ix q87 x78.To).bind fun _ => ((sx q87 x78.To (w64 (x113 - q122))).bind fun x152 => some (true, x152))) else some (q86, q87)) : Option (Bool × (List Int))).bind fun q135 => match q135 with | (q138, q139) => MendRoundfollow.loop2 x0 x2 rest79 q138 q139)))))) else ((gx q87 x78.From).bind fun x157 => ((MendRoundslack x0 x78).bind fun q167 => ((gx q87 x78.To).bind fun x169 => (((if decide ((w64 (x157 - q167)) > x169) then ((ix q87 x78.To).bind fun _ => ((sx q87 x78.To (w64 (x157 - q167))).bind fun x197 => some (true, x197))) else some (q86, q87)) : Option (Bool × (List Int))).bind fun q180 => match q180 with | (q183, q184) => MendRoundfollow.loop2 x0 x2 rest79 q183 q184)))))
def MendRoundfollow.loop1 (x0 : MendRound) (x2 : List (List Int)) : Nat → Bool → (List Int) → Option (Bool × (List Int))
  | 0, _, _ => none
  | n62 + 1, q66, q67 => (if q66 then ((MendRoundfollow.loop2 x0 x2 x0.Links false q67).bind fun q76 => match q76 with | (q86, q87) => MendRoundfollow.loop1 x0 x2 n62 q86 q87) else some (q66, q67))
def MendRoundfollow (fu : Nat) (x0 : MendRound) (x1 : List Int) (x2 : List (List Int)) : Option (List Int) := ((SlicesCloneLint x1).bind fun q52 => ((MendRoundfollow.loop1 x0 x2 fu true q52).bind fun q61 => match q61 with | (_, q67) => some q67))
def Mendgreatestint.loop1 : (List Int) → Int → Int
  | [], q62 => q62
  | x54 :: rest55, q62 => Mendgreatestint.loop1 rest55 (mx q62 x54)
def Mendgreatestint (x0 : Int) (x1 : List Int) : Int := (bnd (Mendgreatestint.loop1 x1 x0) fun q62 => q62)
def MendSettles.loop1 (x0 : MendRound) (fu : Nat) : Nat → (List (List Int)) → Int → Int → Option ((List (List Int)) × Int × Int)
  | 0, _, _, _ => none
  | n85 + 1, q89, q93, q94 => (if decide (q94 ≤ (w64 (q93 + 3))) then ((mks ((x0.Plan).length : Int) (0 : Int)).bind fun x98 => ((MendRoundfollow fu x0 x98 q89).bind fun q104 => (bnd ((if decide ((Mendgreatestint 0 q104) > 0) then q94 else q93) : Int) fun q124 => ((cutl q89 0 (mn ((q89).length : Int) 2)).bind fun x133 => ((apd [q104] x133).bind fun x142 => MendSettles.loop1 x0 fu n85 x142 q124 (w64 (q94 + 1))))))) else some (q89, q93, q94))
def MendSettles (fu : Nat) (x0 : MendRound) (x1 : Int) : Option (Int × Int) := ((MendCheckRound fu x0).bind fun q52 => (if (q52 != 0) then some (0, q52) else (if !(Mendwithin x1 0 28800) then some (0, 2) else (if (x1 == 0) then some (0, 0) else ((MendRoundstable fu x0).bind fun q57 => (if !q57 then some (0, 9) else ((SlicesRepeatLint fu [x1] ((x0.Plan).length : Int)).bind fun q66 => ((MendSettles.loop1 x0 fu fu [q66] 0 1).bind fun q84 => match q84 with | (_, q93, _) => some (w64 (q93 + 1), 0)))))))))
def MendRoom.loop3 (x0 : MendRound) (k63 : Nat) : (List MendLink) → Bool → (List (List Int)) → Option (Bool × (List (List Int)))
  | [], q156, q157 => some (q156, q157)
  | x148 :: rest149, q156, q157 => ((gx q157 ((k63 : Nat) : Int)).bind fun x170 => ((gx x170 x148.From).bind fun x180 => (if decide (x180 < 0) then MendRoom.loop3 x0 k63 rest149 q156 q157 else ((gx q157 ((k63 : Nat) : Int)).bind fun x191 => ((gx x191 x148.From).bind fun x201 => ((MendRoundslack x0 x148).bind fun q211 => ((((gx q157 ((k63 : Nat) : Int)).bind fun x219 => ((gx x219 x148.To).bind fun x229 => (if decide (x229 < 0) then some true else ((gx q157 ((k63 : Nat) : Int)).bind fun x240 => ((gx x240 x148.To).bind fun x250 => some (decide ((w64 (x201 + q211)) < x250))))))) : Option Bool).bind fun q217 => (((if q217 then ((gx q157 ((k63 : Nat) : Int)).bind fun x275 => ((ix x275 x148.To).bind fun _ => ((sx x275 x148.To (w64 (x201 + q211))).bind fun x291 => some (true, (q157.set ((((k63 : Nat) : Int)).toNat) x291))))) else some (q156, q157)) : Option (Bool × (List (List Int)))).bind fun q261 => match q261 with | (q264, q265) => MendRoom.loop3 x0 k63 rest149 q264 q265))))))))
def MendRoom.loop2 (x0 : MendRound) (k63 : Nat) : Nat → Bool → (List (List Int)) → Option (Bool × (List (List Int)))
  | 0, _, _ => none
  | n131 + 1, q135, q136 => (if q135 then ((MendRoom.loop3 x0 k63 x0.Links false q136).bind fun q146 => match q146 with | (q156, q157) => MendRoom.loop2 x0 k63 n131 q156 q157) else some (q135, q136))
def MendRoom.loop1 (x0 : MendRound) (fu : Nat) : Nat → Nat → (List (List Int)) → Option (List (List Int))
  | 0, _, q73 => some q73
  | rest65 + 1, k63, q73 => ((SlicesRepeatLint fu [(-1)] ((x0.Plan).length : Int)).bind fun q87 => ((ix q73 ((k63 : Nat) : Int)).bind fun _ => ((sx q73 ((k63 : Nat) : Int) q87).bind fun x100 => ((gx x100 ((k63 : Nat) : Int)).bind fun x105 => ((ix x105 ((k63 : Nat) : Int)).bind fun _ => ((sx x105 ((k63 : Nat) : Int) 0).bind fun x121 => ((MendRoom.loop2 x0 k63 fu true (x100.set ((((k63 : Nat) : Int)).toNat) x121)).bind fun q130 => match q130 with | (_, q136) => MendRoom.loop1 x0 fu rest65 (k63 + 1) q136)))))))
def MendRoom (fu : Nat) (x0 : MendRound) : Option ((List (List Int)) × Int) := ((MendCheckRound fu x0).bind fun q52 => (if (q52 != 0) then some ([], q52) else ((mks ((x0.Plan).length : Int) ([] : List Int)).bind fun x55 => ((MendRoom.loop1 x0 fu x55.length 0 x55).bind fun q73 => some (q73, 0)))))
def Fishref2within (x0 : Int) (x1 : Int) (x2 : Int) : Bool := (bnd ((if decide (x0 ≥ x1) then decide (x0 ≤ x2) else false) : Bool) fun q55 => q55)
def Fishref2SlackOf (x0 : MendRound) (x1 : MendLink) : Option Int := ((gx x0.Plan x1.To).bind fun x53 => ((gx x0.Plan x1.From).bind fun x62 => some (w64 ((w64 ((w64 (x53 - x62)) + (w64 (x1.Back * x0.Period)))) - x1.Len))))
def SlicesIndexLbool.loop1 (x1 : Bool) : (List Bool) → Nat → Out Int Unit
  | [], _ => (.next ())
  | x54 :: rest55, k53 => (if (x1 == x54) then (.ret ((k53 : Nat) : Int)) else SlicesIndexLbool.loop1 x1 rest55 (k53 + 1))
def SlicesIndexLbool (x0 : List Bool) (x1 : Bool) : Int := (bnd (SlicesIndexLbool.loop1 x1 x0 0) fun q52 => match q52 with | .ret r => r | .next () => (-1))
def SlicesContainsLbool (x0 : List Bool) (x1 : Bool) : Bool := decide ((SlicesIndexLbool x0 x1) ≥ 0)
def Fishref2RoundFault.loop1 (x0 : MendRound) : (List Int) → Out Int Unit
  | [] => (.next ())
  | x64 :: rest65 => (if !(Fishref2within x64 0 (w64 (x0.Period - 1))) then (.ret 2) else Fishref2RoundFault.loop1 x0 rest65)
def Fishref2RoundFault.loop2 (x0 : MendRound) : (List MendLink) → Option (Out Int Unit)
  | [] => some (.next ())
  | x81 :: rest82 => (bnd ((if decide (x81.From < 0) then true else (if decide (x81.From ≥ ((x0.Plan).length : Int)) then true else (if decide (x81.To < 0) then true else decide (x81.To ≥ ((x0.Plan).length : Int))))) : Bool) fun q99 => (if q99 then some (.ret 3) else (bnd ((if !(Fishref2within x81.Len 0 28800) then true else !(Fishref2within x81.Back 0 3)) : Bool) fun q109 => (if q109 then some (.ret 2) else ((Fishref2SlackOf x0 x81).bind fun q113 => (if decide (q113 < 0) then some (.ret 13) else Fishref2RoundFault.loop2 x0 rest82))))))
def Fishref2RoundFault.loop5 (q151 : List Bool) (k142 : Nat) : (List MendLink) → Bool → Option Bool
  | [], q169 => some q169
  | x161 :: rest162, q169 => (((if q169 then (if decide (x161.Back > 0) then some true else (if (x161.To != ((k142 : Nat) : Int)) then some true else ((gx q151 x161.From).bind fun x185 => some x185))) else some false) : Option Bool).bind fun q180 => Fishref2RoundFault.loop5 q151 k142 rest162 q180)
def Fishref2RoundFault.loop4 (x0 : MendRound) : (List Int) → Nat → (List Bool) → Option (List Bool)
  | [], _, q151 => some q151
  | _ :: rest144, k142, q151 => ((Fishref2RoundFault.loop5 q151 k142 x0.Links true).bind fun q169 => ((((gx q151 ((k142 : Nat) : Int)).bind fun x206 => (if x206 then ((ix q151 ((k142 : Nat) : Int)).bind fun _ => ((sx q151 ((k142 : Nat) : Int) true).bind fun x222 => some x222)) else ((ix q151 ((k142 : Nat) : Int)).bind fun _ => ((sx q151 ((k142 : Nat) : Int) q169).bind fun x232 => some x232)))) : Option (List Bool)).bind fun q199 => Fishref2RoundFault.loop4 x0 rest144 (k142 + 1) q199))
def Fishref2RoundFault.loop3 (x0 : MendRound) : (List Int) → (List Bool) → Option (List Bool)
  | [], q133 => some q133
  | _ :: rest126, q133 => ((Fishref2RoundFault.loop4 x0 x0.Plan 0 q133).bind fun q151 => Fishref2RoundFault.loop3 x0 rest126 q151)
def Fishref2RoundFault (x0 : MendRound) : Option Int := (if !(Fishref2within x0.Period 1 3600) then some 2 else (bnd ((if !(Fishref2within ((x0.Plan).length : Int) 1 8) then true else decide (((x0.Links).length : Int) > 24)) : Bool) fun q57 => (if q57 then some 4 else (bnd (Fishref2RoundFault.loop1 x0 x0.Plan) fun q62 => match q62 with | .ret r => some r | .next () => ((Fishref2RoundFault.loop2 x0 x0.Links).bind fun q79 => match q79 with | .ret r => some r | .next () => ((mks ((x0.Plan).length : Int) (false : Bool)).bind fun x116 => ((Fishref2RoundFault.loop3 x0 x0.Plan x116).bind fun q133 => (if (SlicesContainsLbool q133 false) then some 5 else some 0))))))))
def SlicesEqualLint.loop1 (x1 : List Int) : (List Int) → Nat → Option (Out Bool Unit)
  | [], _ => some (.next ())
  | x55 :: rest56, k54 => ((gx x1 ((k54 : Nat) : Int)).bind fun x68 => (if (x55 != x68) then some (.ret false) else SlicesEqualLint.loop1 x1 rest56 (k54 + 1)))
def SlicesEqualLint (x0 : List Int) (x1 : List Int) : Option Bool := (if (((x0).length : Int) != ((x1).length : Int)) then some false else ((SlicesEqualLint.loop1 x1 x0 0).bind fun q53 => match q53 with | .ret r => some r | .next () => some true))
def SlicesEqualFuncLLint_v1.loop1 (x1 : List (List Int)) : (List (List Int)) → Nat → Option (Out Bool Unit)
  | [], _ => some (.next ())
  | x55 :: rest56, k54 => ((gx x1 ((k54 : Nat) : Int)).bind fun x71 => ((SlicesEqualLint x55 x71).bind fun q83 => (if !q83 then some (.ret false) else SlicesEqualFuncLLint_v1.loop1 x1 rest56 (k54 + 1))))
def SlicesEqualFuncLLint_v1 (x0 : List (List Int)) (x1 : List (List Int)) : Option Bool := (if (((x0).length : Int) != ((x1).length : Int)) then some false else ((SlicesEqualFuncLLint_v1.loop1 x1 x0 0).bind fun q53 => match q53 with | .ret r => some r | .next () => some true))
def Fishlaw2lists (x0 : List (List Int)) (x1 : List (List Int)) : Option Bool := ((SlicesEqualFuncLLint_v1 x0 x1).bind fun q51 => some q51)
def Fishlaw2rounds (fu : Nat) : Option Bool := ((MendRoom fu (MendRound.mk 60 [0, 20] [(MendLink.mk 0 1 15 0), (MendLink.mk 1 0 35 1)])).bind fun q64 => (((if (q64.2 == 0) then ((Fishlaw2lists q64.1 [[0, 5], [5, 0]]).bind fun q96 => some q96) else some false) : Option Bool).bind fun q75 => some q75))
def Fishref2RoomOf.loop3 (x0 : MendRound) (k60 : Nat) : (List MendLink) → (List (List Int)) → Option (List (List Int))
  | [], q156 => some q156
  | x148 :: rest149, q156 => ((gx q156 ((k60 : Nat) : Int)).bind fun x169 => ((gx x169 x148.From).bind fun x179 => (((if decide (x179 ≥ 0) then ((Fishref2SlackOf x0 x148).bind fun q202 => ((((gx q156 ((k60 : Nat) : Int)).bind fun x210 => ((gx x210 x148.To).bind fun x220 => (if decide (x220 < 0) then some true else ((gx q156 ((k60 : Nat) : Int)).bind fun x231 => ((gx x231 x148.To).bind fun x241 => some (decide ((w64 (x179 + q202)) < x241))))))) : Option Bool).bind fun q208 => (((if q208 then ((gx q156 ((k60 : Nat) : Int)).bind fun x265 => ((ix x265 x148.To).bind fun _ => ((sx x265 x148.To (w64 (x179 + q202))).bind fun x281 => some (q156.set ((((k60 : Nat) : Int)).toNat) x281)))) else some q156) : Option (List (List Int))).bind fun q255 => some q255))) else some q156) : Option (List (List Int))).bind fun q193 => Fishref2RoomOf.loop3 x0 k60 rest149 q193)))
def Fishref2RoomOf.loop2 (x0 : MendRound) (k60 : Nat) : (List Int) → (List (List Int)) → Option (List (List Int))
  | [], q137 => some q137
  | _ :: rest130, q137 => ((Fishref2RoomOf.loop3 x0 k60 x0.Links q137).bind fun q156 => Fishref2RoomOf.loop2 x0 k60 rest130 q156)
def Fishref2RoomOf.loop1 (x0 : MendRound) (fu : Nat) : Nat → Nat → (List (List Int)) → Option (List (List Int))
  | 0, _, q70 => some q70
  | rest62 + 1, k60, q70 => ((SlicesRepeatLint fu [(-1)] ((x0.Plan).length : Int)).bind fun q84 => ((ix q70 ((k60 : Nat) : Int)).bind fun _ => ((sx q70 ((k60 : Nat) : Int) q84).bind fun x97 => ((gx x97 ((k60 : Nat) : Int)).bind fun x102 => ((ix x102 ((k60 : Nat) : Int)).bind fun _ => ((sx x102 ((k60 : Nat) : Int) 0).bind fun x118 => ((Fishref2RoomOf.loop2 x0 k60 x0.Plan (x97.set ((((k60 : Nat) : Int)).toNat) x118)).bind fun q137 => Fishref2RoomOf.loop1 x0 fu rest62 (k60 + 1) q137)))))))
def Fishref2RoomOf (fu : Nat) (x0 : MendRound) : Option (List (List Int)) := ((mks ((x0.Plan).length : Int) ([] : List Int)).bind fun x52 => ((Fishref2RoomOf.loop1 x0 fu x52.length 0 x52).bind fun q70 => some q70))
def Fishref2common : Nat → Int → Int → Option Int
  | 0, _, _ => none
  | fu + 1, x0, x1 => (if (x1 == 0) then some x0 else ((rm x0 x1).bind fun x52 => (((Fishref2common fu) x1 x52).bind fun q54 => some q54)))
def Fishref2Lowest (fu : Nat) (x0 : Int) (x1 : Int) : Option (Int × Int) := ((Fishref2common fu x1 x0).bind fun q51 => ((dv x0 q51).bind fun x53 => ((dv x1 q51).bind fun x55 => some (x53, x55))))
def Fishref2MeanOf.loop2 (x0 : MendRound) (fu : Nat) : Nat → Nat → (List (List Int)) → Option (List (List Int))
  | 0, _, q85 => some q85
  | rest77 + 1, k75, q85 => ((SlicesRepeatLint fu [(-1)] (w64 ((w64 (((x0.Plan).length : Int) * 3)) + 1))).bind fun q99 => ((ix q85 ((k75 : Nat) : Int)).bind fun _ => ((sx q85 ((k75 : Nat) : Int) q99).bind fun x112 => Fishref2MeanOf.loop2 x0 fu rest77 (k75 + 1) x112)))
def Fishref2MeanOf.loop4 (x0 : MendRound) (fu : Nat) : Nat → Nat → (List (List Int)) → Option (List (List Int))
  | 0, _, q181 => some q181
  | rest173 + 1, k171, q181 => ((SlicesRepeatLint fu [(-1)] (w64 ((w64 (((x0.Plan).length : Int) * 3)) + 1))).bind fun q195 => ((ix q181 ((k171 : Nat) : Int)).bind fun _ => ((sx q181 ((k171 : Nat) : Int) q195).bind fun x208 => Fishref2MeanOf.loop4 x0 fu rest173 (k171 + 1) x208)))
def Fishref2MeanOf.loop7 (x0 : MendRound) (q155 : List (List Int)) (x216 : MendLink) : Nat → Int → (List (List Int)) → Option (Int × (List (List Int)))
  | 0, _, _ => none
  | n250 + 1, q254, q255 => (if decide (q254 < (w64 ((w64 ((w64 (((x0.Plan).length : Int) * 3)) + 1)) - x216.Back))) then ((gx q155 x216.From).bind fun x264 => ((gx x264 q254).bind fun x274 => (((if decide (x274 ≥ 0) then ((gx q255 x216.To).bind fun x298 => ((gx q255 x216.To).bind fun x308 => ((gx x308 (w64 (q254 + x216.Back))).bind fun x318 => ((ix x298 (w64 (q254 + x216.Back))).bind fun _ => ((sx x298 (w64 (q254 + x216.Back)) (mx x318 (w64 (x274 + x216.Len)))).bind fun x334 => some (q255.set ((x216.To).toNat) x334)))))) else some q255) : Option (List (List Int))).bind fun q288 => Fishref2MeanOf.loop7 x0 q155 x216 n250 (w64 (q254 + 1)) q288))) else some (q254, q255))
def Fishref2MeanOf.loop5 (x0 : MendRound) (fu : Nat) (q155 : List (List Int)) : (List MendLink) → (List (List Int)) → Option (List (List Int))
  | [], q224 => some q224
  | x216 :: rest217, q224 => ((Fishref2MeanOf.loop7 x0 q155 x216 fu 0 q224).bind fun q249 => match q249 with | (_, q255) => Fishref2MeanOf.loop5 x0 fu q155 rest217 q255)
def Fishref2MeanOf.loop8 (x342 : List Int) : Nat → Nat → Int → Int → Bool → Option (Int × Int × Bool)
  | 0, _, q364, q365, q366 => some (q364, q365, q366)
  | rest356 + 1, k354, q364, q365, q366 => ((gx x342 ((k354 : Nat) : Int)).bind fun x368 => (bnd ((if decide (x368 ≥ 0) then (if decide (((k354 : Nat) : Int) > 0) then (if !q366 then true else decide ((w64 (x368 * q365)) > (w64 (q364 * ((k354 : Nat) : Int))))) else false) else false) : Bool) fun q382 => (bnd ((if q382 then (x368, ((k354 : Nat) : Int), true) else (q364, q365, q366)) : Int × Int × Bool) fun q388 => match q388 with | (q391, q392, q393) => Fishref2MeanOf.loop8 x342 rest356 (k354 + 1) q391 q392 q393)))
def Fishref2MeanOf.loop3 (x0 : MendRound) (fu : Nat) (k54 : Nat) : (List Int) → Int → Int → Bool → (List (List Int)) → Option (Int × Int × Bool × (List (List Int)))
  | [], q152, q153, q154, q155 => some (q152, q153, q154, q155)
  | _ :: rest145, q152, q153, q154, q155 => ((mks ((x0.Plan).length : Int) ([] : List Int)).bind fun x163 => ((Fishref2MeanOf.loop4 x0 fu x163.length 0 x163).bind fun q181 => ((Fishref2MeanOf.loop5 x0 fu q155 x0.Links q181).bind fun q224 => ((gx q224 ((k54 : Nat) : Int)).bind fun x342 => ((Fishref2MeanOf.loop8 x342 ((x342).length) 0 q152 q153 q154).bind fun q353 => match q353 with | (q364, q365, q366) => Fishref2MeanOf.loop3 x0 fu k54 rest145 q364 q365 q366 q224)))))
def Fishref2MeanOf.loop1 (x0 : MendRound) (fu : Nat) : (List Int) → Nat → Int → Int → Bool → Option (Int × Int × Bool)
  | [], _, q63, q64, q65 => some (q63, q64, q65)
  | _ :: rest56, k54, q63, q64, q65 => ((mks ((x0.Plan).length : Int) ([] : List Int)).bind fun x67 => ((Fishref2MeanOf.loop2 x0 fu x67.length 0 x67).bind fun q85 => ((gx q85 ((k54 : Nat) : Int)).bind fun x117 => ((ix x117 0).bind fun _ => ((sx x117 (0 : Int) 0).bind fun x133 => ((Fishref2MeanOf.loop3 x0 fu k54 x0.Plan q63 q64 q65 (q85.set ((((k54 : Nat) : Int)).toNat) x133)).bind fun q142 => match q142 with | (q152, q153, q154, _) => Fishref2MeanOf.loop1 x0 fu rest56 (k54 + 1) q152 q153 q154))))))
def Fishref2MeanOf (fu : Nat) (x0 : MendRound) : Option (Int × Int × Bool) := ((Fishref2MeanOf.loop1 x0 fu x0.Plan 0 0 0 false).bind fun q53 => match q53 with | (q63, q64, q65) => (if !q65 then some (0, 0, false) else ((Fishref2Lowest fu q63 q64).bind fun q397 => some (q397.1, q397.2, true))))
def SlicesMaxLint.loop1 (x0 : List Int) : Nat → Int → Int → Option (Int × Int)
  | 0, _, _ => none
  | n63 + 1, q67, q68 => (if decide (q68 < ((x0).length : Int)) then ((gx x0 q68).bind fun x71 => SlicesMaxLint.loop1 x0 n63 (mx q67 x71) (w64 (q68 + 1))) else some (q67, q68))
def SlicesMaxLint (fu : Nat) (x0 : List Int) : Option Int := (if decide (((x0).length : Int) < 1) then none else ((gx x0 0).bind fun x52 => ((SlicesMaxLint.loop1 x0 fu x52 1).bind fun q62 => match q62 with | (q67, _) => some q67)))
def Fishref2SettlesOf.loop4 (x0 : MendRound) (q89 : List (List Int)) (q96 : Int) : (List MendLink) → (List Int) → Option (List Int)
  | [], q141 => some q141
  | x133 :: rest134, q141 => (((if (x133.Back == 0) then ((gx q141 x133.To).bind fun x166 => ((gx q141 x133.From).bind fun x176 => ((Fishref2SlackOf x0 x133).bind fun q186 => ((ix q141 x133.To).bind fun _ => ((sx q141 x133.To (mx x166 (w64 (x176 - q186)))).bind fun x193 => some x193))))) else (((if decide (x133.Back ≤ q96) then ((gx q141 x133.To).bind fun x211 => ((gx q89 (w64 (q96 - x133.Back))).bind fun x221 => ((gx x221 x133.From).bind fun x234 => ((Fishref2SlackOf x0 x133).bind fun q243 => ((ix q141 x133.To).bind fun _ => ((sx q141 x133.To (mx x211 (w64 (x234 - q243)))).bind fun x250 => some x250)))))) else some q141) : Option (List Int)).bind fun q202 => some q202)) : Option (List Int)).bind fun q157 => Fishref2SettlesOf.loop4 x0 q89 q96 rest134 q157)
def Fishref2SettlesOf.loop3 (x0 : MendRound) (q89 : List (List Int)) (q96 : Int) : Nat → Int → (List Int) → Option (Int × (List Int))
  | 0, _, _ => none
  | n117 + 1, q121, q122 => (if decide (q121 < (w64 (((x0.Plan).length : Int) + 1))) then ((Fishref2SettlesOf.loop4 x0 q89 q96 x0.Links q122).bind fun q141 => Fishref2SettlesOf.loop3 x0 q89 q96 n117 (w64 (q121 + 1)) q141) else some (q121, q122))
def Fishref2SettlesOf.loop5 (fu : Nat) (x259 : List (List Int)) : Nat → Int → Int → Option (Int × Int)
  | 0, _, _ => none
  | n267 + 1, q271, q272 => (((if decide (q272 ≥ 0) then ((gx x259 q272).bind fun x281 => ((SlicesMaxLint fu x281).bind fun q294 => some (q294 == 0))) else some false) : Option Bool).bind fun q278 => (if q278 then Fishref2SettlesOf.loop5 fu x259 n267 (w64 (q271 + 1)) (w64 (q272 - 1)) else some (q271, q272)))
def Fishref2SettlesOf.loop1 (x0 : MendRound) (fu : Nat) : Nat → (List (List Int)) → Int → Option (Out (Int × Bool) ((List (List Int)) × Int))
  | 0, _, _ => none
  | n85 + 1, q89, q96 => ((mks ((x0.Plan).length : Int) (0 : Int)).bind fun x98 => ((Fishref2SettlesOf.loop3 x0 q89 q96 fu 0 x98).bind fun q116 => match q116 with | (_, q122) => ((apd q89 [q122]).bind fun x259 => ((Fishref2SettlesOf.loop5 fu x259 fu 0 (w64 (((x259.length : Nat) : Int) - 1))).bind fun q266 => match q266 with | (q271, _) => (bnd ((if decide (q271 ≥ 3) then true else (q271 == ((x259.length : Nat) : Int))) : Bool) fun q301 => (if q301 then some (.ret (w64 (((x259.length : Nat) : Int) - q271), true)) else Fishref2SettlesOf.loop1 x0 fu n85 x259 (w64 (q96 + 1))))))))
def Fishref2SettlesOf (fu : Nat) (x0 : MendRound) (x1 : Int) : Option (Int × Bool) := ((Fishref2MeanOf fu x0).bind fun q52 => (bnd ((if decide (x1 > 0) then (if q52.2.2 then decide (q52.1 ≥ (w64 (q52.2.1 * x0.Period))) else false) else false) : Bool) fun q58 => (if q58 then some (0, false) else ((SlicesRepeatLint fu [x1] ((x0.Plan).length : Int)).bind fun q69 => ((Fishref2SettlesOf.loop1 x0 fu fu [q69] 1).bind fun q84 => match q84 with | .ret r => some r | .next _ => none)))))
def Fishlaw2MendSettles (fu : Nat) (x0 : MendRound) (x1 : Int) : Option Bool := ((MendSettles fu x0 x1).bind fun q52 => ((MendRoom fu x0).bind fun q54 => ((Fishref2RoundFault x0).bind fun q61 => (if (q61 != 0) then ((((Fishlaw2rounds fu).bind fun q70 => (if q70 then (if (q52.2 == q61) then (if (q54.2 == q61) then (if (q52.1 == 0) then some (((q54.1).length : Int) == 0) else some false) else some false) else some false) else some false)) : Option Bool).bind fun q68 => some q68) else ((((Fishlaw2rounds fu).bind fun q82 => (if !q82 then some true else (if (q54.2 != 0) then some true else ((Fishref2RoomOf fu x0).bind fun q86 => ((Fishlaw2lists q54.1 q86).bind fun q93 => some !q93))))) : Option Bool).bind fun q80 => (if q80 then some false else (bnd ((if decide (x1 < 0) then true else decide (x1 > 28800)) : Bool) fun q100 => (if q100 then (bnd ((if (q52.2 == 2) then (q52.1 == 0) else false) : Bool) fun q108 => some q108) else ((Fishref2SettlesOf fu x0 x1).bind fun q111 => (if !q111.2 then (bnd ((if (q52.2 == 9) then (q52.1 == 0) else false) : Bool) fun q118 => some q118) else (bnd ((if (q52.2 == 0) then (q52.1 == q111.1) else false) : Bool) fun q125 => some q125)))))))))))
end Go.Fp
