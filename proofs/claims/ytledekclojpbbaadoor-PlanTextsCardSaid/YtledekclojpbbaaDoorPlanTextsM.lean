/- The mirrors of the functions that PlanTexts reaches: plain Lean functions on data. No condition. -/
import Derived.Test.YtledekclojpbbaaDoorFpAllT
import Derived.Test.YtledekclojpbbaaDoorFpInD
import Derived.Test.YtledekclojpbbaaDoorFpErr
namespace Go.Fp
structure ApiStop where
  Station : Int
  Track : Int
  Arr : Int
  Dep : Int
  deriving DecidableEq, Inhabited
-- ApiStop is of one size
def InApiStop (x : ApiStop) : Prop := inI x.Station ∧ inI x.Track ∧ inI x.Arr ∧ inI x.Dep
def ApiStop.cells (x : ApiStop) : List Go.Value := [.int .i64 x.Station, .int .i64 x.Track, .int .i64 x.Arr, .int .i64 x.Dep]
def RApiStop : Rd ApiStop := fun _ cs x => cs = x.cells
theorem RApiStop.mono : Rmono RApiStop := fun _ _ _ _ _ h => h
theorem RApiStop.one : Rone RApiStop := by intro s cs x h; subst h; rfl

structure ApiTrain where
  No : Int
  Stock : Int
  Stops : List ApiStop
  Legs : List (List Int)
  deriving DecidableEq, Inhabited
def szApiTrain (x : ApiTrain) : Nat := (szL sz1) x.Stops + (szL (szL sz1)) x.Legs + 1
def InApiTrain (x : ApiTrain) : Prop := inI x.No ∧ inI x.Stock ∧ (inL InApiStop) x.Stops ∧ (inL (inL inI)) x.Legs
def RApiTrain : Rd ApiTrain := fun s cs x => ∃ a0 c0 a1 c1, cs = [.int .i64 x.No, .int .i64 x.Stock, .slice a0 x.Stops.length c0, .slice a1 x.Legs.length c1] ∧ Sl 4 RApiStop s a0 c0 x.Stops ∧ Sl 1 (RL 1 (RI .i64)) s a1 c1 x.Legs
theorem RApiTrain.one : Rone RApiTrain := by rintro s cs x ⟨a0, c0, a1, c1, rfl, _⟩; rfl
theorem RApiTrain.mono : Rmono RApiTrain := fun _ _ h _ _ ⟨a0, c0, a1, c1, e, h0, h1⟩ => ⟨a0, c0, a1, c1, e, h0.mono RApiStop.mono h, h1.mono (RL.mono RI.mono) h⟩

structure ApiDay where
  Trains : List ApiTrain
  Turns : List (List Int)
  deriving DecidableEq, Inhabited
def szApiDay (x : ApiDay) : Nat := (szL szApiTrain) x.Trains + (szL (szL sz1)) x.Turns + 1
def InApiDay (x : ApiDay) : Prop := (inL InApiTrain) x.Trains ∧ (inL (inL inI)) x.Turns
def RApiDay : Rd ApiDay := fun s cs x => ∃ a0 c0 a1 c1, cs = [.slice a0 x.Trains.length c0, .slice a1 x.Turns.length c1] ∧ Sl 4 RApiTrain s a0 c0 x.Trains ∧ Sl 1 (RL 1 (RI .i64)) s a1 c1 x.Turns
theorem RApiDay.one : Rone RApiDay := by rintro s cs x ⟨a0, c0, a1, c1, rfl, _⟩; rfl
theorem RApiDay.mono : Rmono RApiDay := fun _ _ h _ _ ⟨a0, c0, a1, c1, e, h0, h1⟩ => ⟨a0, c0, a1, c1, e, h0.mono RApiTrain.mono h, h1.mono (RL.mono RI.mono) h⟩
def Planform.loop2 : (List (List Int)) → Out Int Unit
  | [] => (.next ())
  | x94 :: rest95 => (if (((x94).length : Int) == 0) then (.ret 1) else Planform.loop2 rest95)
def Planform.loop3 : (List (List Int)) → Out Int Unit
  | [] => (.next ())
  | x115 :: rest116 => (if decide (((x115).length : Int) > 4) then (.ret 4) else Planform.loop3 rest116)
def Planform.loop1 : (List ApiTrain) → Out Int Unit
  | [] => (.next ())
  | x63 :: rest64 => (bnd ((if (((x63.Stops).length : Int) == 0) then true else (((x63.Legs).length : Int) != (w64 (((x63.Stops).length : Int) - 1)))) : Bool) fun q87 => (if q87 then (.ret 1) else (bnd (Planform.loop2 x63.Legs) fun q92 => match q92 with | .ret r => (.ret r) | .next () => (if decide (((x63.Stops).length : Int) > 8) then (.ret 4) else (bnd (Planform.loop3 x63.Legs) fun q113 => match q113 with | .ret r => (.ret r) | .next () => Planform.loop1 rest64)))))
def Planform.loop4 : (List (List Int)) → Out Int Unit
  | [] => (.next ())
  | x135 :: rest136 => (if (((x135).length : Int) == 0) then (.ret 1) else (if decide (((x135).length : Int) > 12) then (.ret 4) else Planform.loop4 rest136))
def Planform (x0 : ApiDay) : Int := (bnd ((if decide (((x0.Trains).length : Int) > 12) then true else decide (((x0.Turns).length : Int) > 8)) : Bool) fun q56 => (if q56 then 4 else (bnd (Planform.loop1 x0.Trains) fun q61 => match q61 with | .ret r => r | .next () => (bnd (Planform.loop4 x0.Turns) fun q133 => match q133 with | .ret r => r | .next () => 0))))
def Planwithin (x0 : Int) (x1 : Int) (x2 : Int) : Bool := (bnd ((if decide (x0 ≥ x1) then decide (x0 ≤ x2) else false) : Bool) fun q55 => q55)
def Plansentence.loop1 : (List Int) → ByteArray → Option ByteArray
  | [], q62 => some q62
  | x54 :: rest55, q62 => ((itoa x54).bind fun q68 => ((scat (str [32]) q68).bind fun x70 => ((scat q62 x70).bind fun x72 => Plansentence.loop1 rest55 x72)))
def Plansentence (x0 : ByteArray) (x1 : List Int) : Option ByteArray := ((Plansentence.loop1 x1 x0).bind fun q62 => ((scat q62 (str [10])).bind fun x74 => some x74))
def PlanText_1_v1.loop1 : (List Int) → Bool → Bool
  | [], q64 => q64
  | x56 :: rest57, q64 => (bnd ((if q64 then (Planwithin x56 0 999999) else false) : Bool) fun q74 => PlanText_1_v1.loop1 rest57 q74)
def PlanText_1_v1 (x0 : ByteArray) (x1 : List Int) (y0 : Bool) (y1_0 : ByteArray) : Option (Bool × ByteArray) := (bnd (PlanText_1_v1.loop1 x1 y0) fun q64 => ((Plansentence x0 x1).bind fun q77 => ((sbw y1_0 q77).bind fun q79 => some (q64, q79))))
def PlanText.loop2 : (List ApiStop) → ByteArray → Bool → Option (ByteArray × Bool)
  | [], q99, q100 => some (q99, q100)
  | x91 :: rest92, q99, q100 => ((PlanText_1_v1 (str [115, 116, 111, 112]) [x91.Station, x91.Track, x91.Arr, x91.Dep] q100 q99).bind fun q113 => PlanText.loop2 rest92 q113.2 q113.1)
def PlanText.loop3 : (List (List Int)) → ByteArray → Bool → Option (ByteArray × Bool)
  | [], q126, q127 => some (q126, q127)
  | x118 :: rest119, q126, q127 => ((PlanText_1_v1 (str [108, 101, 103]) x118 q127 q126).bind fun q136 => PlanText.loop3 rest119 q136.2 q136.1)
def PlanText.loop1 : (List ApiTrain) → ByteArray → Bool → Option (ByteArray × Bool)
  | [], q66, q67 => some (q66, q67)
  | x58 :: rest59, q66, q67 => ((PlanText_1_v1 (str [116, 114, 97, 105, 110]) [x58.No, x58.Stock] q67 q66).bind fun q86 => ((PlanText.loop2 x58.Stops q86.2 q86.1).bind fun q89 => match q89 with | (q99, q100) => ((PlanText.loop3 x58.Legs q99 q100).bind fun q116 => match q116 with | (q126, q127) => PlanText.loop1 rest59 q126 q127)))
def PlanText.loop4 : (List (List Int)) → ByteArray → Bool → Option (ByteArray × Bool)
  | [], q149, q150 => some (q149, q150)
  | x141 :: rest142, q149, q150 => ((PlanText_1_v1 (str [116, 117, 114, 110]) x141 q150 q149).bind fun q159 => PlanText.loop4 rest142 q159.2 q159.1)
def PlanText (x0 : ApiDay) : Option (ByteArray × Int) := (if ((Planform x0) != 0) then some ((str []), (Planform x0)) else ((PlanText.loop1 x0.Trains ByteArray.empty true).bind fun q56 => match q56 with | (q66, q67) => ((PlanText.loop4 x0.Turns q66 q67).bind fun q139 => match q139 with | (q149, q150) => (if !q150 then some ((str []), 2) else some (q149, 0)))))
def Fishref2numbersIn.loop2 : (List ApiStop) → (List (List Int)) → Option (List (List Int))
  | [], q107 => some q107
  | x99 :: rest100, q107 => ((apd q107 [[x99.Station, x99.Track, x99.Arr, x99.Dep]]).bind fun x127 => Fishref2numbersIn.loop2 rest100 x127)
def Fishref2numbersIn.loop1 : (List ApiTrain) → (List (List Int)) → Option (List (List Int))
  | [], q64 => some q64
  | x56 :: rest57, q64 => ((apd q64 [[x56.No, x56.Stock]]).bind fun x90 => ((Fishref2numbersIn.loop2 x56.Stops x90).bind fun q107 => ((apd q107 x56.Legs).bind fun x133 => Fishref2numbersIn.loop1 rest57 x133)))
def Fishref2numbersIn (x0 : ApiDay) : Option (List (List Int)) := ((Fishref2numbersIn.loop1 x0.Trains []).bind fun q64 => ((apd q64 x0.Turns).bind fun x139 => some x139))
def Fishref2within (x0 : Int) (x1 : Int) (x2 : Int) : Bool := (bnd ((if decide (x0 ≥ x1) then decide (x0 ≤ x2) else false) : Bool) fun q55 => q55)
def Fishref2TextFault.loop2 : (List (List Int)) → Out Int Unit
  | [] => (.next ())
  | x94 :: rest95 => (if (((x94).length : Int) == 0) then (.ret 1) else Fishref2TextFault.loop2 rest95)
def Fishref2TextFault.loop3 : (List (List Int)) → Out Int Unit
  | [] => (.next ())
  | x115 :: rest116 => (if decide (((x115).length : Int) > 4) then (.ret 4) else Fishref2TextFault.loop3 rest116)
def Fishref2TextFault.loop1 : (List ApiTrain) → Out Int Unit
  | [] => (.next ())
  | x63 :: rest64 => (bnd ((if (((x63.Stops).length : Int) == 0) then true else (((x63.Legs).length : Int) != (w64 (((x63.Stops).length : Int) - 1)))) : Bool) fun q87 => (if q87 then (.ret 1) else (bnd (Fishref2TextFault.loop2 x63.Legs) fun q92 => match q92 with | .ret r => (.ret r) | .next () => (if decide (((x63.Stops).length : Int) > 8) then (.ret 4) else (bnd (Fishref2TextFault.loop3 x63.Legs) fun q113 => match q113 with | .ret r => (.ret r) | .next () => Fishref2TextFault.loop1 rest64)))))
def Fishref2TextFault.loop4 : (List (List Int)) → Out Int Unit
  | [] => (.next ())
  | x135 :: rest136 => (if (((x135).length : Int) == 0) then (.ret 1) else (if decide (((x135).length : Int) > 12) then (.ret 4) else Fishref2TextFault.loop4 rest136))
def Fishref2TextFault.loop6 : (List Int) → Out Int Unit
  | [] => (.next ())
  | x192 :: rest193 => (if !(Fishref2within x192 0 999999) then (.ret 2) else Fishref2TextFault.loop6 rest193)
def Fishref2TextFault.loop5 (q153 : (List (List Int))) : Nat → Nat → Option (Out Int Unit)
  | 0, _ => some (.next ())
  | rest167 + 1, k165 => ((gx q153 ((k165 : Nat) : Int)).bind fun x176 => (bnd (Fishref2TextFault.loop6 x176) fun q190 => match q190 with | .ret r => some (.ret r) | .next () => Fishref2TextFault.loop5 q153 rest167 (k165 + 1)))
def Fishref2TextFault (x0 : ApiDay) : Option Int := (bnd ((if decide (((x0.Trains).length : Int) > 12) then true else decide (((x0.Turns).length : Int) > 8)) : Bool) fun q56 => (if q56 then some 4 else (bnd (Fishref2TextFault.loop1 x0.Trains) fun q61 => match q61 with | .ret r => some r | .next () => (bnd (Fishref2TextFault.loop4 x0.Turns) fun q133 => match q133 with | .ret r => some r | .next () => ((Fishref2numbersIn x0).bind fun q153 => ((Fishref2TextFault.loop5 q153 q153.length 0).bind fun q164 => match q164 with | .ret r => some r | .next () => some 0))))))
def Fishlaw2plans : Option Bool := ((PlanText (ApiDay.mk [(ApiTrain.mk 7 0 [(ApiStop.mk 0 0 0 3), (ApiStop.mk 1 5 9 9)] [[0, 3]])] [[0]])).bind fun q87 => (bnd ((if (q87.2 == 0) then (seq q87.1 (str [116, 114, 97, 105, 110, 32, 55, 32, 48, 10, 115, 116, 111, 112, 32, 48, 32, 48, 32, 48, 32, 51, 10, 115, 116, 111, 112, 32, 49, 32, 53, 32, 57, 32, 57, 10, 108, 101, 103, 32, 48, 32, 51, 10, 116, 117, 114, 110, 32, 48, 10])) else false) : Bool) fun q93 => some q93))
def InternalStringsliteHasSuffix (x0 : ByteArray) (x1 : ByteArray) : Option Bool := (((if decide (((x0.size : Nat) : Int) ≥ ((x1.size : Nat) : Int)) then ((scut x0 (w64 (((x0.size : Nat) : Int) - ((x1.size : Nat) : Int))) ((x0.size : Nat) : Int)).bind fun x58 => some (seq x58 x1)) else some false) : Option Bool).bind fun q55 => some q55)
def InternalStringsliteCutSuffix (x0 : ByteArray) (x1 : ByteArray) : Option (ByteArray × Bool) := ((InternalStringsliteHasSuffix x0 x1).bind fun q51 => (if !q51 then some (x0, false) else ((scut x0 0 (w64 (((x0.size : Nat) : Int) - ((x1.size : Nat) : Int)))).bind fun x54 => some (x54, true))))
def StringsCutSuffix (x0 : ByteArray) (x1 : ByteArray) : Option (ByteArray × Bool) := ((InternalStringsliteCutSuffix x0 x1).bind fun q51 => some (q51.1, q51.2))
def LineLines.loop1 (q56 : List ByteArray) : Nat → Nat → (List (List ByteArray)) → Option (List (List ByteArray))
  | 0, _, q74 => some q74
  | rest66 + 1, k64, q74 => ((gx q56 ((k64 : Nat) : Int)).bind fun x82 => ((splitq x82 (str [32])).bind fun q92 => ((apd q74 [q92]).bind fun x102 => LineLines.loop1 q56 rest66 (k64 + 1) x102)))
def LineLines (x0 : ByteArray) : Option ((List (List ByteArray)) × Bool) := (if (seq x0 (str [])) then some ([], true) else ((StringsCutSuffix x0 (str [10])).bind fun q53 => ((splitq q53.1 (str [10])).bind fun q56 => ((LineLines.loop1 q56 q56.length 0 []).bind fun q74 => some (q74, q53.2)))))
def InternalStringsliteHasPrefix (x0 : ByteArray) (x1 : ByteArray) : Option Bool := (((if decide (((x0.size : Nat) : Int) ≥ ((x1.size : Nat) : Int)) then ((scut x0 0 ((x1.size : Nat) : Int)).bind fun x58 => some (seq x58 x1)) else some false) : Option Bool).bind fun q55 => some q55)
def InternalStringsliteTrimPrefix (x0 : ByteArray) (x1 : ByteArray) : Option ByteArray := ((InternalStringsliteHasPrefix x0 x1).bind fun q51 => (if q51 then ((scut x0 ((x1.size : Nat) : Int) ((x0.size : Nat) : Int)).bind fun x54 => some x54) else some x0))
def StringsTrimPrefix (x0 : ByteArray) (x1 : ByteArray) : Option ByteArray := ((InternalStringsliteTrimPrefix x0 x1).bind fun q51 => some q51)
def LineNumber (x0 : ByteArray) : Option (Int × Bool) := ((atoiq x0).bind fun q51 => (((if q51.2 then ((itoa q51.1).bind fun q63 => (if (seq q63 x0) then ((StringsTrimPrefix x0 (str [45])).bind fun q66 => some (q51.1, decide (((q66.size : Nat) : Int) ≤ 9))) else some (q51.1, false))) else some (q51.1, false)) : Option (Int × Bool)).bind fun q56 => match q56 with | (q59, q60) => some (q59, q60)))
def LineNumbers.loop1 : (List ByteArray) → (List Int) → Option (Out ((List Int) × Bool) (List Int))
  | [], q63 => some (.next q63)
  | x55 :: rest56, q63 => ((LineNumber x55).bind fun q75 => (if !q75.2 then some (.ret ([], false)) else ((apd q63 [q75.1]).bind fun x80 => LineNumbers.loop1 rest56 x80)))
def LineNumbers (x0 : List ByteArray) : Option ((List Int) × Bool) := ((LineNumbers.loop1 x0 []).bind fun q53 => match q53 with | .ret r => some r | .next q63 => some (q63, true))
def Planadd_v1 (x1 : ByteArray) (x2 : List Int) (x3 : Int) (y0 : ApiDay) : Option (Int × Bool × (List ApiTrain) × (List (List Int))) := (if decide (((y0.Trains.length : Nat) : Int) > 0) then ((gx y0.Trains (w64 (((y0.Trains.length : Nat) : Int) - 1))).bind fun x66 => (bnd ((if (seq x1 (str [116, 114, 97, 105, 110])) then (if (((x2).length : Int) == 2) then decide (x3 < 3) else false) else false) : Bool) fun q75 => (if q75 then ((gx x2 0).bind fun x81 => ((gx x2 1).bind fun x90 => ((apd y0.Trains [(ApiTrain.mk x81 x90 [] [])]).bind fun x102 => some (1, true, x102, y0.Turns)))) else (bnd ((if (seq x1 (str [115, 116, 111, 112])) then (if (((x2).length : Int) == 4) then (x3 == 1) else false) else false) : Bool) fun q113 => (if q113 then ((gx x2 0).bind fun x138 => ((gx x2 1).bind fun x147 => ((gx x2 2).bind fun x156 => ((gx x2 3).bind fun x165 => ((apd x66.Stops [(ApiStop.mk x138 x147 x156 x165)]).bind fun x178 => some (1, true, (List.set y0.Trains ((w64 (((y0.Trains.length : Nat) : Int) - 1)).toNat) (ApiTrain.mk x66.No x66.Stock x178 x66.Legs)), y0.Turns)))))) else (bnd ((if (seq x1 (str [108, 101, 103])) then (if decide (((x2).length : Int) > 0) then (if (x3 == 1) then true else (x3 == 2)) else false) else false) : Bool) fun q195 => (if q195 then ((apd x66.Legs [x2]).bind fun x224 => some (2, true, (List.set y0.Trains ((w64 (((y0.Trains.length : Nat) : Int) - 1)).toNat) (ApiTrain.mk x66.No x66.Stock x66.Stops x224)), y0.Turns)) else (bnd ((if (seq x1 (str [116, 117, 114, 110])) then decide (((x2).length : Int) > 0) else false) : Bool) fun q241 => (if q241 then ((apd y0.Turns [x2]).bind fun x246 => some (3, true, y0.Trains, x246)) else some (0, false, y0.Trains, y0.Turns)))))))))) else (bnd ((if (seq x1 (str [116, 114, 97, 105, 110])) then (if (((x2).length : Int) == 2) then decide (x3 < 3) else false) else false) : Bool) fun q256 => (if q256 then ((gx x2 0).bind fun x262 => ((gx x2 1).bind fun x271 => ((apd y0.Trains [(ApiTrain.mk x262 x271 [] [])]).bind fun x283 => some (1, true, x283, y0.Turns)))) else (bnd ((if (seq x1 (str [115, 116, 111, 112])) then (if (((x2).length : Int) == 4) then (x3 == 1) else false) else false) : Bool) fun q294 => (if q294 then none else (bnd ((if (seq x1 (str [108, 101, 103])) then (if decide (((x2).length : Int) > 0) then (if (x3 == 1) then true else (x3 == 2)) else false) else false) : Bool) fun q304 => (if q304 then none else (bnd ((if (seq x1 (str [116, 117, 114, 110])) then decide (((x2).length : Int) > 0) else false) : Bool) fun q314 => (if q314 then ((apd y0.Turns [x2]).bind fun x319 => some (3, true, y0.Trains, x319)) else some (0, false, y0.Trains, y0.Turns))))))))))
def PlanRead.loop2 : (List ByteArray) → Bool → Option Bool
  | [], q154 => some q154
  | x146 :: rest147, q154 => (((if q154 then ((StringsTrimPrefix x146 (str [45])).bind fun q167 => some (decide (((q167.size : Nat) : Int) ≤ 6))) else some false) : Option Bool).bind fun q164 => PlanRead.loop2 rest147 q164)
def PlanRead.loop1 (q53 : (List (List ByteArray)) × Bool) : Nat → Nat → Int → (List ApiTrain) → (List (List Int)) → (List ApiTrain) → (List (List Int)) → Option (Out (ApiDay × Int) (Int × (List ApiTrain) × (List (List Int)) × (List ApiTrain) × (List (List Int))))
  | 0, _, q80, q81, q85, q89, q96 => some (.next (q80, q81, q85, q89, q96))
  | rest72 + 1, k70, q80, q81, q85, q89, q96 => ((gx q53.1 ((k70 : Nat) : Int)).bind fun x104 => ((cutl x104 1 ((x104).length : Int)).bind fun x117 => ((LineNumbers x117).bind fun q126 => ((cutl x104 1 ((x104).length : Int)).bind fun x134 => ((PlanRead.loop2 x134 q126.2).bind fun q154 => (if !q154 then some (.ret ((ApiDay.mk [] []), 10)) else ((gx x104 0).bind fun x170 => ((Planadd_v1 x170 q126.1 q80 (ApiDay.mk q89 q96)).bind fun q182 => (if !q182.2.1 then some (.ret ((ApiDay.mk [] []), 10)) else PlanRead.loop1 q53 rest72 (k70 + 1) q182.1 q81 q85 q182.2.2.1 q182.2.2.2)))))))))
def PlanRead (x0 : ByteArray) : Option (ApiDay × Int) := (if decide (((x0.size : Nat) : Int) > 20000) then some ((ApiDay.mk [] []), 4) else ((LineLines x0).bind fun q53 => (if !q53.2 then some ((ApiDay.mk [] []), 10) else ((PlanRead.loop1 q53 q53.1.length 0 0 [] [] ([] : List ApiTrain) []).bind fun q69 => match q69 with | .ret r => some r | .next (_, _, _, q89, q96) => ((PlanText (ApiDay.mk q89 q96)).bind fun q201 => (if (q201.2 != 0) then some ((ApiDay.mk [] []), q201.2) else some ((ApiDay.mk q89 q96), 0)))))))
def Fishref2DayText_1_v1.loop1 : (List Int) → ByteArray → Option ByteArray
  | [], q65 => some q65
  | x57 :: rest58, q65 => ((itoa x57).bind fun q72 => ((scat (str [32]) q72).bind fun x74 => ((scat q65 x74).bind fun x76 => Fishref2DayText_1_v1.loop1 rest58 x76)))
def Fishref2DayText_1_v1 (x0 : ByteArray) (x1 : List Int) (y0 : ByteArray) : Option ByteArray := ((scat y0 x0).bind fun x52 => ((Fishref2DayText_1_v1.loop1 x1 x52).bind fun q65 => ((scat q65 (str [10])).bind fun x78 => some x78)))
def Fishref2DayText.loop2 : (List ApiStop) → ByteArray → Option ByteArray
  | [], q96 => some q96
  | x88 :: rest89, q96 => ((Fishref2DayText_1_v1 (str [115, 116, 111, 112]) [x88.Station, x88.Track, x88.Arr, x88.Dep] q96).bind fun q109 => Fishref2DayText.loop2 rest89 q109)
def Fishref2DayText.loop3 : (List (List Int)) → ByteArray → Option ByteArray
  | [], q122 => some q122
  | x114 :: rest115, q122 => ((Fishref2DayText_1_v1 (str [108, 101, 103]) x114 q122).bind fun q131 => Fishref2DayText.loop3 rest115 q131)
def Fishref2DayText.loop1 : (List ApiTrain) → ByteArray → Option ByteArray
  | [], q64 => some q64
  | x56 :: rest57, q64 => ((Fishref2DayText_1_v1 (str [116, 114, 97, 105, 110]) [x56.No, x56.Stock] q64).bind fun q83 => ((Fishref2DayText.loop2 x56.Stops q83).bind fun q96 => ((Fishref2DayText.loop3 x56.Legs q96).bind fun q122 => Fishref2DayText.loop1 rest57 q122)))
def Fishref2DayText.loop4 : (List (List Int)) → ByteArray → Option ByteArray
  | [], q144 => some q144
  | x136 :: rest137, q144 => ((Fishref2DayText_1_v1 (str [116, 117, 114, 110]) x136 q144).bind fun q153 => Fishref2DayText.loop4 rest137 q153)
def Fishref2DayText (x0 : ApiDay) : Option ByteArray := ((Fishref2DayText.loop1 x0.Trains (str [])).bind fun q64 => ((Fishref2DayText.loop4 x0.Turns q64).bind fun q144 => some q144))
def SlicesEqualLapiStop.loop1 (x1 : List ApiStop) : (List ApiStop) → Nat → Option (Out Bool Unit)
  | [], _ => some (.next ())
  | x55 :: rest56, k54 => ((gx x1 ((k54 : Nat) : Int)).bind fun x68 => (if !((x55.Station == x68.Station) && ((x55.Track == x68.Track) && ((x55.Arr == x68.Arr) && (x55.Dep == x68.Dep)))) then some (.ret false) else SlicesEqualLapiStop.loop1 x1 rest56 (k54 + 1)))
def SlicesEqualLapiStop (x0 : List ApiStop) (x1 : List ApiStop) : Option Bool := (if (((x0).length : Int) != ((x1).length : Int)) then some false else ((SlicesEqualLapiStop.loop1 x1 x0 0).bind fun q53 => match q53 with | .ret r => some r | .next () => some true))
def SlicesEqualLint.loop1 (x1 : List Int) : (List Int) → Nat → Option (Out Bool Unit)
  | [], _ => some (.next ())
  | x55 :: rest56, k54 => ((gx x1 ((k54 : Nat) : Int)).bind fun x68 => (if (x55 != x68) then some (.ret false) else SlicesEqualLint.loop1 x1 rest56 (k54 + 1)))
def SlicesEqualLint (x0 : List Int) (x1 : List Int) : Option Bool := (if (((x0).length : Int) != ((x1).length : Int)) then some false else ((SlicesEqualLint.loop1 x1 x0 0).bind fun q53 => match q53 with | .ret r => some r | .next () => some true))
def SlicesEqualFuncLLint_v1.loop1 (x1 : List (List Int)) : (List (List Int)) → Nat → Option (Out Bool Unit)
  | [], _ => some (.next ())
  | x55 :: rest56, k54 => ((gx x1 ((k54 : Nat) : Int)).bind fun x71 => ((SlicesEqualLint x55 x71).bind fun q83 => (if !q83 then some (.ret false) else SlicesEqualFuncLLint_v1.loop1 x1 rest56 (k54 + 1))))
def SlicesEqualFuncLLint_v1 (x0 : List (List Int)) (x1 : List (List Int)) : Option Bool := (if (((x0).length : Int) != ((x1).length : Int)) then some false else ((SlicesEqualFuncLLint_v1.loop1 x1 x0 0).bind fun q53 => match q53 with | .ret r => some r | .next () => some true))
def Fishref2SameTrain (x0 : ApiTrain) (x1 : ApiTrain) : Option Bool := (((if (x0.No == x1.No) then (if (x0.Stock == x1.Stock) then ((SlicesEqualLapiStop x0.Stops x1.Stops).bind fun q61 => (if q61 then ((SlicesEqualFuncLLint_v1 x0.Legs x1.Legs).bind fun q64 => some q64) else some false)) else some false) else some false) : Option Bool).bind fun q57 => some q57)
def SlicesEqualFuncLapiTrain_v1.loop1 (x1 : List ApiTrain) : (List ApiTrain) → Nat → Option (Out Bool Unit)
  | [], _ => some (.next ())
  | x55 :: rest56, k54 => ((gx x1 ((k54 : Nat) : Int)).bind fun x75 => ((Fishref2SameTrain x55 x75).bind fun q91 => (if !q91 then some (.ret false) else SlicesEqualFuncLapiTrain_v1.loop1 x1 rest56 (k54 + 1))))
def SlicesEqualFuncLapiTrain_v1 (x0 : List ApiTrain) (x1 : List ApiTrain) : Option Bool := (if (((x0).length : Int) != ((x1).length : Int)) then some false else ((SlicesEqualFuncLapiTrain_v1.loop1 x1 x0 0).bind fun q53 => match q53 with | .ret r => some r | .next () => some true))
def Fishref2SameDay (x0 : ApiDay) (x1 : ApiDay) : Option Bool := ((((SlicesEqualFuncLapiTrain_v1 x0.Trains x1.Trains).bind fun q59 => (if q59 then ((SlicesEqualFuncLLint_v1 x0.Turns x1.Turns).bind fun q62 => some q62) else some false)) : Option Bool).bind fun q57 => some q57)
def Fishlaw2PlanTexts (x0 : ApiDay) : Option Bool := ((PlanText x0).bind fun q52 => ((Fishref2TextFault x0).bind fun q54 => (if (q54 != 0) then ((((Fishlaw2plans).bind fun q63 => (if q63 then (if (q52.2 == q54) then some (seq q52.1 (str [])) else some false) else some false)) : Option Bool).bind fun q61 => some q61) else ((PlanRead q52.1).bind fun q67 => ((((Fishlaw2plans).bind fun q86 => (if q86 then (if (q52.2 == 0) then ((Fishref2DayText x0).bind fun q90 => (if (seq q52.1 q90) then (if (q67.2 == 0) then ((Fishref2SameDay q67.1 x0).bind fun q94 => some q94) else some false) else some false)) else some false) else some false)) : Option Bool).bind fun q84 => some q84)))))
end Go.Fp
