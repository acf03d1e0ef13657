/- The mirrors of the functions that MendSpreads reaches: plain Lean functions on data. No condition. -/
import Derived.Test.YtfioafdipipcaaaFpCopy
namespace Go.Fp
structure MendFirst where
  Event : Int
  Period : Int
  Secs : Int
  deriving DecidableEq, Inhabited
-- MendFirst is of one size
def MendFirst.cells (x : MendFirst) : List Go.Value := [.int .i64 x.Event, .int .i64 x.Period, .int .i64 x.Secs]
def RMendFirst : Rd MendFirst := fun _ cs x => cs = x.cells
theorem RMendFirst.mono : Rmono RMendFirst := fun _ _ _ _ _ h => h
theorem RMendFirst.one : Rone RMendFirst := by intro s cs x h; subst h; rfl

structure MendLink where
  From : Int
  To : Int
  Len : Int
  Back : Int
  deriving DecidableEq, Inhabited
-- MendLink is of one size
def MendLink.cells (x : MendLink) : List Go.Value := [.int .i64 x.From, .int .i64 x.To, .int .i64 x.Len, .int .i64 x.Back]
def RMendLink : Rd MendLink := fun _ cs x => cs = x.cells
theorem RMendLink.mono : Rmono RMendLink := fun _ _ _ _ _ h => h
theorem RMendLink.one : Rone RMendLink := by intro s cs x h; subst h; rfl

structure MendRound where
  Period : Int
  Plan : List Int
  Links : List MendLink
  deriving DecidableEq, Inhabited
def szMendRound (x : MendRound) : Nat := (szL sz1) x.Plan + (szL sz1) x.Links + 1
def RMendRound : Rd MendRound := fun s cs x => ∃ a0 c0 a1 c1, cs = [.int .i64 x.Period, .slice a0 x.Plan.length c0, .slice a1 x.Links.length c1] ∧ Sl 1 (RI .i64) s a0 c0 x.Plan ∧ Sl 4 RMendLink s a1 c1 x.Links
theorem RMendRound.one : Rone RMendRound := by rintro s cs x ⟨a0, c0, a1, c1, rfl, _⟩; rfl
theorem RMendRound.mono : Rmono RMendRound := fun _ _ h _ _ ⟨a0, c0, a1, c1, e, h0, h1⟩ => ⟨a0, c0, a1, c1, e, h0.mono RI.mono h, h1.mono RMendLink.mono h⟩
def Mendwithin (x0 : Int) (x1 : Int) (x2 : Int) : Bool := (bnd ((if decide (x0 ≥ x1) then decide (x0 ≤ x2) else false) : Bool) fun q55 => q55)
def MendRoundslack (x0 : MendRound) (x1 : MendLink) : Option Int := ((gx x0.Plan x1.To).bind fun x53 => ((gx x0.Plan x1.From).bind fun x62 => some (w64 ((w64 ((w64 (x53 - x62)) + (w64 (x1.Back * x0.Period)))) - x1.Len))))
def MendRoundring.loop3 : (List MendLink) → Bool → (List Int) → Option (Bool × (List Int))
  | [], q95, q96 => some (q95, q96)
  | x87 :: rest88, q95, q96 => (((if (x87.Back == 0) then ((gx q96 x87.To).bind fun x115 => ((gx q96 x87.From).bind fun x125 => some (decide (x115 ≤ x125)))) else some false) : Option Bool).bind fun q112 => (((if q112 then ((gx q96 x87.From).bind fun x149 => ((ix q96 x87.To).bind fun _ => ((sx q96 x87.To (w64 (x149 + 1))).bind fun x164 => some (true, x164)))) else some (q95, q96)) : Option (Bool × (List Int))).bind fun q136 => match q136 with | (q139, q140) => MendRoundring.loop3 rest88 q139 q140))
def MendRoundring.loop2 (x0 : MendRound) : Nat → Int → (List Int) → Option (Out Bool (Int × (List Int)))
  | 0, _, _ => none
  | n71 + 1, q75, q76 => (if decide (q75 < (w64 (((x0.Plan).length : Int) + 1))) then ((MendRoundring.loop3 x0.Links false q76).bind fun q85 => match q85 with | (q95, q96) => (if !q95 then some (.ret false) else MendRoundring.loop2 x0 n71 (w64 (q75 + 1)) q96)) else some (.next (q75, q76)))
def MendRoundring (fu : Nat) (x0 : MendRound) : Option Bool := ((mks ((x0.Plan).length : Int) (0 : Int)).bind fun x52 => ((MendRoundring.loop2 x0 fu 0 x52).bind fun q70 => match q70 with | .ret r => some r | .next (_, _) => some true))
def MendCheckRound.loop1 (x0 : MendRound) : (List Int) → Out Int Unit
  | [] => (.next ())
  | x64 :: rest65 => (if !(Mendwithin x64 0 (w64 (x0.Period - 1))) then (.ret 2) else MendCheckRound.loop1 x0 rest65)
def MendCheckRound.loop2 (x0 : MendRound) : (List MendLink) → Option (Out Int Unit)
  | [] => some (.next ())
  | x81 :: rest82 => (bnd ((if !(Mendwithin x81.From 0 (w64 (((x0.Plan).length : Int) - 1))) then true else !(Mendwithin x81.To 0 (w64 (((x0.Plan).length : Int) - 1)))) : Bool) fun q99 => (if q99 then some (.ret 3) else (bnd ((if !(Mendwithin x81.Len 0 28800) then true else !(Mendwithin x81.Back 0 3)) : Bool) fun q107 => (if q107 then some (.ret 2) else ((MendRoundslack x0 x81).bind fun q111 => (if decide (q111 < 0) then some (.ret 13) else MendCheckRound.loop2 x0 rest82))))))
def MendCheckRound (fu : Nat) (x0 : MendRound) : Option Int := (if !(Mendwithin x0.Period 1 3600) then some 2 else (bnd ((if !(Mendwithin ((x0.Plan).length : Int) 1 8) then true else decide (((x0.Links).length : Int) > 24)) : Bool) fun q57 => (if q57 then some 4 else (bnd (MendCheckRound.loop1 x0 x0.Plan) fun q62 => match q62 with | .ret r => some r | .next () => ((MendCheckRound.loop2 x0 x0.Links).bind fun q79 => match q79 with | .ret r => some r | .next () => ((MendRoundring fu x0).bind fun q114 => (if q114 then some 5 else some 0)))))))
def SlicesCloneLint (x0 : List Int) : Option (List Int) := ((apd [] x0).bind fun x56 => some x56)
def MendRoundfollow.loop2 (x0 : MendRound) (x2 : List (List Int)) : (List MendLink) → Bool → (List Int) → Option (Bool × (List Int))
  | [], q86, q87 => some (q86, q87)
  | x78 :: rest79, q86, q87 => (if decide (x78.Back > 0) then (if decide (x78.Back > ((x2).length : Int)) then MendRoundfollow.loop2 x0 x2 rest79 q86 q87 else ((gx x2 (w64 (x78.Back - 1))).bind fun x101 => ((gx x101 x78.From).bind fun x113 => ((MendRoundslack x0 x78).bind fun q122 => ((gx q87 x78.To).bind fun x124 => (((if decide ((w64 (x113 - q122)) > x124) then ((ix q87 x78.To).bind fun _ => ((sx q87 x78.To (w64 (x113 - q122))).bind fun x152 => some (true, x152))) else some (q86, q87)) : Option (Bool × (List Int))).bind fun q135 => match q135 with | (q138, q139) => MendRoundfollow.loop2 x0 x2 rest79 q138 q139)))))) else ((gx q87 x78.From).bind fun x157 => ((MendRoundslack x0 x78).bind fun q167 => ((gx q87 x78.To).bind fun x169 => (((if decide ((w64 (x157 - q167)) > x169) then ((ix q87 x78.To).bind fun _ => ((sx q87 x78.To (w64 (x157 - q167))).bind fun x197 => some (true, x197))) else some (q86, q87)) : Option (Bool × (List Int))).bind fun q180 => match q180 with | (q183, q184) => MendRoundfollow.loop2 x0 x2 rest79 q183 q184)))))
def MendRoundfollow.loop1 (x0 : MendRound) (x2 : List (List Int)) : Nat → Bool → (List Int) → Option (Bool × (List Int))
  | 0, _, _ => none
  | n62 + 1, q66, q67 => (if q66 then ((MendRoundfollow.loop2 x0 x2 x0.Links false q67).bind fun q76 => match q76 with | (q86, q87) => MendRoundfollow.loop1 x0 x2 n62 q86 q87) else some (q66, q67))
def MendRoundfollow (fu : Nat) (x0 : MendRound) (x1 : List Int) (x2 : List (List Int)) : Option (List Int) := ((SlicesCloneLint x1).bind fun q52 => ((MendRoundfollow.loop1 x0 x2 fu true q52).bind fun q61 => match q61 with | (_, q67) => some q67))
def MendSpread.loop1 (x0 : MendRound) : (List MendFirst) → Out ((List (List Int)) × Int) Unit
  | [] => (.next ())
  | x63 :: rest64 => (if !(Mendwithin x63.Event 0 (w64 (((x0.Plan).length : Int) - 1))) then (.ret ([], 3)) else (bnd ((if !(Mendwithin x63.Period 0 59) then true else !(Mendwithin x63.Secs 0 28800)) : Bool) fun q83 => (if q83 then (.ret ([], 2)) else MendSpread.loop1 x0 rest64)))
def MendSpread.loop4 (q117 : Int) : (List MendFirst) → (List Int) → Option (List Int)
  | [], q137 => some q137
  | x129 :: rest130, q137 => (((if (x129.Period == q117) then ((gx q137 x129.Event).bind fun x162 => ((ix q137 x129.Event).bind fun _ => ((sx q137 x129.Event (mx x162 x129.Secs)).bind fun x177 => some x177))) else some q137) : Option (List Int)).bind fun q153 => MendSpread.loop4 q117 rest130 q153)
def MendSpread.loop3 (x0 : MendRound) (x1 : List MendFirst) (x2 : Int) (fu : Nat) : Nat → (List (List Int)) → (List (List Int)) → Int → Option ((List (List Int)) × (List (List Int)) × Int)
  | 0, _, _, _ => none
  | n102 + 1, q106, q113, q117 => (if decide (q117 < x2) then ((mks ((x0.Plan).length : Int) (0 : Int)).bind fun x120 => ((MendSpread.loop4 q117 x1 x120).bind fun q137 => ((MendRoundfollow fu x0 q137 q113).bind fun q182 => ((apd q106 [q182]).bind fun x198 => ((cutl q113 0 (mn ((q113).length : Int) 2)).bind fun x207 => ((apd [q182] x207).bind fun x216 => MendSpread.loop3 x0 x1 x2 fu n102 x198 x216 (w64 (q117 + 1)))))))) else some (q106, q113, q117))
def MendSpread (fu : Nat) (x0 : MendRound) (x1 : List MendFirst) (x2 : Int) : Option ((List (List Int)) × Int) := ((MendCheckRound fu x0).bind fun q52 => (if (q52 != 0) then some ([], q52) else (if !(Mendwithin x2 0 60) then some ([], 2) else (if decide (((x1).length : Int) > 20) then some ([], 4) else (bnd (MendSpread.loop1 x0 x1) fun q61 => match q61 with | .ret r => some r | .next () => ((MendSpread.loop3 x0 x1 x2 fu fu [] [] 0).bind fun q101 => match q101 with | (q106, _, _) => some (q106, 0)))))))
def Fishref2within (x0 : Int) (x1 : Int) (x2 : Int) : Bool := (bnd ((if decide (x0 ≥ x1) then decide (x0 ≤ x2) else false) : Bool) fun q55 => q55)
def Fishref2SlackOf (x0 : MendRound) (x1 : MendLink) : Option Int := ((gx x0.Plan x1.To).bind fun x53 => ((gx x0.Plan x1.From).bind fun x62 => some (w64 ((w64 ((w64 (x53 - x62)) + (w64 (x1.Back * x0.Period)))) - x1.Len))))
def SlicesIndexLbool.loop1 (x1 : Bool) : (List Bool) → Nat → Out Int Unit
  | [], _ => (.next ())
  | x54 :: rest55, k53 => (if (x1 == x54) then (.ret ((k53 : Nat) : Int)) else SlicesIndexLbool.loop1 x1 rest55 (k53 + 1))
def SlicesIndexLbool (x0 : List Bool) (x1 : Bool) : Int := (bnd (SlicesIndexLbool.loop1 x1 x0 0) fun q52 => match q52 with | .ret r => r | .next () => (-1))
def SlicesContainsLbool (x0 : List Bool) (x1 : Bool) : Bool := decide ((SlicesIndexLbool x0 x1) ≥ 0)
def Fishref2RoundFault.loop1 (x0 : MendRound) : (List Int) → Out Int Unit
  | [] => (.next ())
  | x64 :: rest65 => (if !(Fishref2within x64 0 (w64 (x0.Period - 1))) then (.ret 2) else Fishref2RoundFault.loop1 x0 rest65)
def Fishref2RoundFault.loop2 (x0 : MendRound) : (List MendLink) → Option (Out Int Unit)
  | [] => some (.next ())
  | x81 :: rest82 => (bnd ((if decide (x81.From < 0) then true else (if decide (x81.From ≥ ((x0.Plan).length : Int)) then true else (if decide (x81.To < 0) then true else decide (x81.To ≥ ((x0.Plan).length : Int))))) : Bool) fun q99 => (if q99 then some (.ret 3) else (bnd ((if !(Fishref2within x81.Len 0 28800) then true else !(Fishref2within x81.Back 0 3)) : Bool) fun q109 => (if q109 then some (.ret 2) else ((Fishref2SlackOf x0 x81).bind fun q113 => (if decide (q113 < 0) then some (.ret 13) else Fishref2RoundFault.loop2 x0 rest82))))))
def Fishref2RoundFault.loop5 (q151 : List Bool) (k142 : Nat) : (List MendLink) → Bool → Option Bool
  | [], q169 => some q169
  | x161 :: rest162, q169 => (((if q169 then (if decide (x161.Back > 0) then some true else (if (x161.To != ((k142 : Nat) : Int)) then some true else ((gx q151 x161.From).bind fun x185 => some x185))) else some false) : Option Bool).bind fun q180 => Fishref2RoundFault.loop5 q151 k142 rest162 q180)
def Fishref2RoundFault.loop4 (x0 : MendRound) : (List Int) → Nat → (List Bool) → Option (List Bool)
  | [], _, q151 => some q151
  | _ :: rest144, k142, q151 => ((Fishref2RoundFault.loop5 q151 k142 x0.Links true).bind fun q169 => ((((gx q151 ((k142 : Nat) : Int)).bind fun x206 => (if x206 then ((ix q151 ((k142 : Nat) : Int)).bind fun _ => ((sx q151 ((k142 : Nat) : Int) true).bind fun x222 => some x222)) else ((ix q151 ((k142 : Nat) : Int)).bind fun _ => ((sx q151 ((k142 : Nat) : Int) q169).bind fun x232 => some x232)))) : Option (List Bool)).bind fun q199 => Fishref2RoundFault.loop4 x0 rest144 (k142 + 1) q199))
def Fishref2RoundFault.loop3 (x0 : MendRound) : (List Int) → (List Bool) → Option (List Bool)
  | [], q133 => some q133
  | _ :: rest126, q133 => ((Fishref2RoundFault.loop4 x0 x0.Plan 0 q133).bind fun q151 => Fishref2RoundFault.loop3 x0 rest126 q151)
def Fishref2RoundFault (x0 : MendRound) : Option Int := (if !(Fishref2within x0.Period 1 3600) then some 2 else (bnd ((if !(Fishref2within ((x0.Plan).length : Int) 1 8) then true else decide (((x0.Links).length : Int) > 24)) : Bool) fun q57 => (if q57 then some 4 else (bnd (Fishref2RoundFault.loop1 x0 x0.Plan) fun q62 => match q62 with | .ret r => some r | .next () => ((Fishref2RoundFault.loop2 x0 x0.Links).bind fun q79 => match q79 with | .ret r => some r | .next () => ((mks ((x0.Plan).length : Int) (false : Bool)).bind fun x116 => ((Fishref2RoundFault.loop3 x0 x0.Plan x116).bind fun q133 => (if (SlicesContainsLbool q133 false) then some 5 else some 0))))))))
def Fishlaw2firstsFault.loop1 (x0 : MendRound) : (List MendFirst) → Out Int Unit
  | [] => (.next ())
  | x64 :: rest65 => (bnd ((if decide (x64.Event < 0) then true else decide (x64.Event ≥ ((x0.Plan).length : Int))) : Bool) fun q82 => (if q82 then (.ret 3) else (bnd ((if decide (x64.Period < 0) then true else (if decide (x64.Period ≥ 60) then true else (if decide (x64.Secs < 0) then true else decide (x64.Secs > 28800)))) : Bool) fun q90 => (if q90 then (.ret 2) else Fishlaw2firstsFault.loop1 x0 rest65))))
def Fishlaw2firstsFault (x0 : MendRound) (x1 : List MendFirst) (x2 : Int) : Int := (bnd ((if decide (x2 < 0) then true else decide (x2 > 60)) : Bool) fun q56 => (if q56 then 2 else (if decide (((x1).length : Int) > 20) then 4 else (bnd (Fishlaw2firstsFault.loop1 x0 x1) fun q62 => match q62 with | .ret r => r | .next () => 0))))
def MathBitsMul64 (x0 : Int) (x1 : Int) : Int × Int := (IntKind.wrap .u64 ((IntKind.wrap .u64 ((IntKind.wrap .u64 ((Int.fdiv x0 (2 ^ (min (Int.toNat 32) (IntKind.bits .u64)))) * (Int.fdiv x1 (2 ^ (min (Int.toNat 32) (IntKind.bits .u64)))))) + (Int.fdiv (IntKind.wrap .u64 ((IntKind.wrap .u64 ((Int.fdiv x0 (2 ^ (min (Int.toNat 32) (IntKind.bits .u64)))) * (IntKind.wrap .u64 ((BitVec.ofInt (IntKind.bits .u64) x1 &&& BitVec.ofInt (IntKind.bits .u64) 4294967295).toNat : Int)))) + (Int.fdiv (IntKind.wrap .u64 ((IntKind.wrap .u64 ((BitVec.ofInt (IntKind.bits .u64) x0 &&& BitVec.ofInt (IntKind.bits .u64) 4294967295).toNat : Int)) * (IntKind.wrap .u64 ((BitVec.ofInt (IntKind.bits .u64) x1 &&& BitVec.ofInt (IntKind.bits .u64) 4294967295).toNat : Int)))) (2 ^ (min (Int.toNat 32) (IntKind.bits .u64)))))) (2 ^ (min (Int.toNat 32) (IntKind.bits .u64)))))) + (Int.fdiv (IntKind.wrap .u64 ((IntKind.wrap .u64 ((BitVec.ofInt (IntKind.bits .u64) (IntKind.wrap .u64 ((IntKind.wrap .u64 ((Int.fdiv x0 (2 ^ (min (Int.toNat 32) (IntKind.bits .u64)))) * (IntKind.wrap .u64 ((BitVec.ofInt (IntKind.bits .u64) x1 &&& BitVec.ofInt (IntKind.bits .u64) 4294967295).toNat : Int)))) + (Int.fdiv (IntKind.wrap .u64 ((IntKind.wrap .u64 ((BitVec.ofInt (IntKind.bits .u64) x0 &&& BitVec.ofInt (IntKind.bits .u64) 4294967295).toNat : Int)) * (IntKind.wrap .u64 ((BitVec.ofInt (IntKind.bits .u64) x1 &&& BitVec.ofInt (IntKind.bits .u64) 4294967295).toNat : Int)))) (2 ^ (min (Int.toNat 32) (IntKind.bits .u64)))))) &&& BitVec.ofInt (IntKind.bits .u64) 4294967295).toNat : Int)) + (IntKind.wrap .u64 ((IntKind.wrap .u64 ((BitVec.ofInt (IntKind.bits .u64) x0 &&& BitVec.ofInt (IntKind.bits .u64) 4294967295).toNat : Int)) * (Int.fdiv x1 (2 ^ (min (Int.toNat 32) (IntKind.bits .u64)))))))) (2 ^ (min (Int.toNat 32) (IntKind.bits .u64))))), IntKind.wrap .u64 (x0 * x1))
def MathBitsMul (x0 : Int) (x1 : Int) : Int × Int := (bnd (MathBitsMul64 x0 x1) fun q51 => (q51.1, q51.2))
def SlicesRepeatLint.loop1 (x62 : List Int) : Nat → Int → (List Int) → Option (Int × (List Int))
  | 0, _, _ => none
  | n75 + 1, q79, q80 => (if decide (q79 < ((x62.length : Nat) : Int)) then ((cutl q80 q79 ((x62.length : Nat) : Int)).bind fun _ => ((cutl q80 0 q79).bind fun _ => (bnd (cpl q80 ((q79).toNat) x62.length ((q80.take ((q79).toNat)).drop 0)) fun x107 => SlicesRepeatLint.loop1 x62 n75 (w64 (q79 + ((min ((q80.take ((q79).toNat)).drop 0).length (x62.length - ((q79).toNat)) : Nat) : Int))) x107))) else some (q79, q80))
def SlicesRepeatLint (fu : Nat) (x0 : List Int) (x1 : Int) : Option (List Int) := (if decide (x1 < 0) then none else (bnd (MathBitsMul (IntKind.wrap .u64 ((x0).length : Int)) (IntKind.wrap .u64 x1)) fun q52 => (bnd ((if decide (q52.1 > 0) then true else decide (q52.2 > 9223372036854775807)) : Bool) fun q58 => (if q58 then none else ((mks (w64 q52.2) (0 : Int)).bind fun x62 => (bnd (cpl x62 0 x62.length x0) fun x68 => ((SlicesRepeatLint.loop1 x62 fu ((min x0.length (x62.length - 0) : Nat) : Int) x68).bind fun q74 => match q74 with | (_, q80) => some q80)))))))
def MendRoom.loop3 (x0 : MendRound) (k63 : Nat) : (List MendLink) → Bool → (List (List Int)) → Option (Bool × (List (List Int)))
  | [], q156, q157 => some (q156, q157)
  | x148 :: rest149, q156, q157 => ((gx q157 ((k63 : Nat) : Int)).bind fun x170 => ((gx x170 x148.From).bind fun x180 => (if decide (x180 < 0) then MendRoom.loop3 x0 k63 rest149 q156 q157 else ((gx q157 ((k63 : Nat) : Int)).bind fun x191 => ((gx x191 x148.From).bind fun x201 => ((MendRoundslack x0 x148).bind fun q211 => ((((gx q157 ((k63 : Nat) : Int)).bind fun x219 => ((gx x219 x148.To).bind fun x229 => (if decide (x229 < 0) then some true else ((gx q157 ((k63 : Nat) : Int)).bind fun x240 => ((gx x240 x148.To).bind fun x250 => some (decide ((w64 (x201 + q211)) < x250))))))) : Option Bool).bind fun q217 => (((if q217 then ((gx q157 ((k63 : Nat) : Int)).bind fun x275 => ((ix x275 x148.To).bind fun _ => ((sx x275 x148.To (w64 (x201 + q211))).bind fun x291 => some (true, (q157.set ((((k63 : Nat) : Int)).toNat) x291))))) else some (q156, q157)) : Option (Bool × (List (List Int)))).bind fun q261 => match q261 with | (q264, q265) => MendRoom.loop3 x0 k63 rest149 q264 q265))))))))
def MendRoom.loop2 (x0 : MendRound) (k63 : Nat) : Nat → Bool → (List (List Int)) → Option (Bool × (List (List Int)))
  | 0, _, _ => none
  | n131 + 1, q135, q136 => (if q135 then ((MendRoom.loop3 x0 k63 x0.Links false q136).bind fun q146 => match q146 with | (q156, q157) => MendRoom.loop2 x0 k63 n131 q156 q157) else some (q135, q136))
def MendRoom.loop1 (x0 : MendRound) (fu : Nat) : Nat → Nat → (List (List Int)) → Option (List (List Int))
  | 0, _, q73 => some q73
  | rest65 + 1, k63, q73 => ((SlicesRepeatLint fu [(-1)] ((x0.Plan).length : Int)).bind fun q87 => ((ix q73 ((k63 : Nat) : Int)).bind fun _ => ((sx q73 ((k63 : Nat) : Int) q87).bind fun x100 => ((gx x100 ((k63 : Nat) : Int)).bind fun x105 => ((ix x105 ((k63 : Nat) : Int)).bind fun _ => ((sx x105 ((k63 : Nat) : Int) 0).bind fun x121 => ((MendRoom.loop2 x0 k63 fu true (x100.set ((((k63 : Nat) : Int)).toNat) x121)).bind fun q130 => match q130 with | (_, q136) => MendRoom.loop1 x0 fu rest65 (k63 + 1) q136)))))))
def MendRoom (fu : Nat) (x0 : MendRound) : Option ((List (List Int)) × Int) := ((MendCheckRound fu x0).bind fun q52 => (if (q52 != 0) then some ([], q52) else ((mks ((x0.Plan).length : Int) ([] : List Int)).bind fun x55 => ((MendRoom.loop1 x0 fu x55.length 0 x55).bind fun q73 => some (q73, 0)))))
def SlicesEqualLint.loop1 (x1 : List Int) : (List Int) → Nat → Option (Out Bool Unit)
  | [], _ => some (.next ())
  | x55 :: rest56, k54 => ((gx x1 ((k54 : Nat) : Int)).bind fun x68 => (if (x55 != x68) then some (.ret false) else SlicesEqualLint.loop1 x1 rest56 (k54 + 1)))
def SlicesEqualLint (x0 : List Int) (x1 : List Int) : Option Bool := (if (((x0).length : Int) != ((x1).length : Int)) then some false else ((SlicesEqualLint.loop1 x1 x0 0).bind fun q53 => match q53 with | .ret r => some r | .next () => some true))
def SlicesEqualFuncLLint_v1.loop1 (x1 : List (List Int)) : (List (List Int)) → Nat → Option (Out Bool Unit)
  | [], _ => some (.next ())
  | x55 :: rest56, k54 => ((gx x1 ((k54 : Nat) : Int)).bind fun x71 => ((SlicesEqualLint x55 x71).bind fun q83 => (if !q83 then some (.ret false) else SlicesEqualFuncLLint_v1.loop1 x1 rest56 (k54 + 1))))
def SlicesEqualFuncLLint_v1 (x0 : List (List Int)) (x1 : List (List Int)) : Option Bool := (if (((x0).length : Int) != ((x1).length : Int)) then some false else ((SlicesEqualFuncLLint_v1.loop1 x1 x0 0).bind fun q53 => match q53 with | .ret r => some r | .next () => some true))
def Fishlaw2lists (x0 : List (List Int)) (x1 : List (List Int)) : Option Bool := ((SlicesEqualFuncLLint_v1 x0 x1).bind fun q51 => some q51)
def Fishlaw2rounds (fu : Nat) : Option Bool := ((MendRoom fu (MendRound.mk 60 [0, 20] [(MendLink.mk 0 1 15 0), (MendLink.mk 1 0 35 1)])).bind fun q64 => (((if (q64.2 == 0) then ((Fishlaw2lists q64.1 [[0, 5], [5, 0]]).bind fun q96 => some q96) else some false) : Option Bool).bind fun q75 => some q75))
def Fishref2SpreadOf.loop1 (x0 : MendRound) : Nat → Nat → (List (List Int)) → Option (List (List Int))
  | 0, _, q70 => some q70
  | rest62 + 1, k60, q70 => ((mks ((x0.Plan).length : Int) (0 : Int)).bind fun x78 => ((ix q70 ((k60 : Nat) : Int)).bind fun _ => ((sx q70 ((k60 : Nat) : Int) x78).bind fun x89 => Fishref2SpreadOf.loop1 x0 rest62 (k60 + 1) x89)))
def Fishref2SpreadOf.loop2 (x2 : Int) : (List MendFirst) → (List (List Int)) → Option (List (List Int))
  | [], q105 => some q105
  | x97 :: rest98, q105 => (((if decide (x97.Period < x2) then ((gx q105 x97.Period).bind fun x132 => ((gx q105 x97.Period).bind fun x142 => ((gx x142 x97.Event).bind fun x152 => ((ix x132 x97.Event).bind fun _ => ((sx x132 x97.Event (mx x152 x97.Secs)).bind fun x168 => some (q105.set ((x97.Period).toNat) x168)))))) else some q105) : Option (List (List Int))).bind fun q122 => Fishref2SpreadOf.loop2 x2 rest98 q122)
def Fishref2SpreadOf.loop5 (x0 : MendRound) (k194 : Nat) : (List MendLink) → Bool → (List (List Int)) → Option (Bool × (List (List Int)))
  | [], q224, q225 => some (q224, q225)
  | x216 :: rest217, q224, q225 => (if decide (((k194 : Nat) : Int) < x216.Back) then Fishref2SpreadOf.loop5 x0 k194 rest217 q224 q225 else ((gx q225 (w64 (((k194 : Nat) : Int) - x216.Back))).bind fun x239 => ((gx x239 x216.From).bind fun x249 => ((Fishref2SlackOf x0 x216).bind fun q259 => ((gx q225 ((k194 : Nat) : Int)).bind fun x261 => ((gx x261 x216.To).bind fun x271 => (((if decide ((w64 (x249 - q259)) > x271) then ((gx q225 ((k194 : Nat) : Int)).bind fun x296 => ((ix x296 x216.To).bind fun _ => ((sx x296 x216.To (w64 (x249 - q259))).bind fun x312 => some (true, (q225.set ((((k194 : Nat) : Int)).toNat) x312))))) else some (q224, q225)) : Option (Bool × (List (List Int)))).bind fun q282 => match q282 with | (q285, q286) => Fishref2SpreadOf.loop5 x0 k194 rest217 q285 q286)))))))
def Fishref2SpreadOf.loop4 (x0 : MendRound) : Nat → Nat → Bool → (List (List Int)) → Option (Bool × (List (List Int)))
  | 0, _, q204, q205 => some (q204, q205)
  | rest196 + 1, k194, q204, q205 => ((Fishref2SpreadOf.loop5 x0 k194 x0.Links q204 q205).bind fun q214 => match q214 with | (q224, q225) => Fishref2SpreadOf.loop4 x0 rest196 (k194 + 1) q224 q225)
def Fishref2SpreadOf.loop3 (x0 : MendRound) (x52 : List (List Int)) : Nat → Bool → (List (List Int)) → Option (Bool × (List (List Int)))
  | 0, _, _ => none
  | n178 + 1, q182, q183 => (if q182 then ((Fishref2SpreadOf.loop4 x0 x52.length 0 false q183).bind fun q193 => match q193 with | (q204, q205) => Fishref2SpreadOf.loop3 x0 x52 n178 q204 q205) else some (q182, q183))
def Fishref2SpreadOf (fu : Nat) (x0 : MendRound) (x1 : List MendFirst) (x2 : Int) : Option (List (List Int)) := ((mks x2 ([] : List Int)).bind fun x52 => ((Fishref2SpreadOf.loop1 x0 x52.length 0 x52).bind fun q70 => ((Fishref2SpreadOf.loop2 x2 x1 q70).bind fun q105 => ((Fishref2SpreadOf.loop3 x0 x52 fu true q105).bind fun q177 => match q177 with | (_, q183) => some q183))))
def Fishlaw2MendSpreads (fu : Nat) (x0 : MendRound) (x1 : List MendFirst) (x2 : Int) : Option Bool := ((MendSpread fu x0 x1 x2).bind fun q52 => ((Fishref2RoundFault x0).bind fun q62 => (bnd ((if (q62 == 0) then (Fishlaw2firstsFault x0 x1 x2) else q62) : Int) fun q68 => (if (q68 != 0) then ((((Fishlaw2rounds fu).bind fun q78 => (if q78 then (if (q52.2 == q68) then some (((q52.1.length : Nat) : Int) == 0) else some false) else some false)) : Option Bool).bind fun q76 => some q76) else ((((Fishlaw2rounds fu).bind fun q88 => (if q88 then (if (q52.2 == 0) then ((Fishref2SpreadOf fu x0 x1 x2).bind fun q92 => ((Fishlaw2lists q52.1 q92).bind fun q99 => some q99)) else some false) else some false)) : Option Bool).bind fun q86 => some q86)))))
end Go.Fp
