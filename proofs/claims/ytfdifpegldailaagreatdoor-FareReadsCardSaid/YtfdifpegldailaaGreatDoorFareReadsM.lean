/- The mirrors of the functions that FareReads reaches: plain Lean functions on data. No condition. -/
import Derived.Test.YtfdifpegldailaaGreatDoorFpAllT
import Derived.Test.YtfdifpegldailaaGreatDoorFpErr
import Derived.Test.YtfdifpegldailaaGreatDoorFpJoin
import Derived.Test.YtfdifpegldailaaGreatDoorFpRune
namespace Go.Fp
structure Ar10str where
  f0 : ByteArray
  f1 : ByteArray
  f2 : ByteArray
  f3 : ByteArray
  f4 : ByteArray
  f5 : ByteArray
  f6 : ByteArray
  f7 : ByteArray
  f8 : ByteArray
  f9 : ByteArray
  deriving DecidableEq, Inhabited
def Ar10str.cells (x : Ar10str) : List Go.Value := [.string x.f0, .string x.f1, .string x.f2, .string x.f3, .string x.f4, .string x.f5, .string x.f6, .string x.f7, .string x.f8, .string x.f9]
def RAr10str : Rd Ar10str := fun _ cs x => cs = x.cells
theorem RAr10str.mono : Rmono RAr10str := fun _ _ _ _ _ h => h
theorem RAr10str.one : Rone RAr10str := by intro s cs x h; subst h; rfl

structure Ar7str where
  f0 : ByteArray
  f1 : ByteArray
  f2 : ByteArray
  f3 : ByteArray
  f4 : ByteArray
  f5 : ByteArray
  f6 : ByteArray
  deriving DecidableEq, Inhabited
def Ar7str.cells (x : Ar7str) : List Go.Value := [.string x.f0, .string x.f1, .string x.f2, .string x.f3, .string x.f4, .string x.f5, .string x.f6]
def RAr7str : Rd Ar7str := fun _ cs x => cs = x.cells
theorem RAr7str.mono : Rmono RAr7str := fun _ _ _ _ _ h => h
theorem RAr7str.one : Rone RAr7str := by intro s cs x h; subst h; rfl

structure FareBand where
  Upto : Int
  Price : Int
  deriving DecidableEq, Inhabited
-- FareBand is of one size
def FareBand.cells (x : FareBand) : List Go.Value := [.int .i64 x.Upto, .int .i64 x.Price]
def RFareBand : Rd FareBand := fun _ cs x => cs = x.cells
theorem RFareBand.mono : Rmono RFareBand := fun _ _ _ _ _ h => h
theorem RFareBand.one : Rone RFareBand := by intro s cs x h; subst h; rfl

structure FareCond where
  Kind : Int
  A : Int
  B : Int
  Kids : List FareCond
instance : Inhabited FareCond := ⟨⟨0, 0, 0, []⟩⟩
mutual
def szFareCond : FareCond → Nat
  | ⟨_, _, _, k⟩ => szsFareCond k + 1
def szsFareCond : List FareCond → Nat
  | [] => 1
  | x :: r => szFareCond x + szsFareCond r
end
theorem szsFareCond_eq : ∀ l, szsFareCond l = szL szFareCond l
  | [] => rfl
  | x :: r => by rw [szsFareCond, szsFareCond_eq r]; simp only [szL, List.map_cons, List.sum_cons]; omega
def RNFareCond : Nat → Rd FareCond
  | 0 => fun _ _ _ => False
  | n + 1 => fun s cs x => ∃ a0 c0, cs = [.int .i64 x.Kind, .int .i64 x.A, .int .i64 x.B, .slice a0 x.Kids.length c0] ∧ Sl 4 (RNFareCond n) s a0 c0 x.Kids
def RFareCond : Rd FareCond := fun s cs x => ∃ n, RNFareCond n s cs x
theorem RNFareCond.mono : ∀ n, Rmono (RNFareCond n)
  | 0 => fun _ _ _ _ _ h => h.elim
  | n + 1 => fun _ _ h _ _ ⟨a0, c0, e, h0⟩ => ⟨a0, c0, e, h0.mono (RNFareCond.mono n) h⟩
theorem RFareCond.mono : Rmono RFareCond := fun s t h cs x ⟨n, q⟩ => ⟨n, RNFareCond.mono n s t h cs x q⟩
theorem RNFareCond.up : ∀ n s cs x, RNFareCond n s cs x → RNFareCond (n + 1) s cs x
  | 0 => fun _ _ _ h => h.elim
  | n + 1 => fun _ _ _ ⟨a0, c0, e, h0⟩ => ⟨a0, c0, e, h0.impl (RNFareCond.up n)⟩
theorem RFareCond.unf {s : Sg} {cs : List Value} {x : FareCond} (h : RFareCond s cs x) : ∃ a0 c0, cs = [.int .i64 x.Kind, .int .i64 x.A, .int .i64 x.B, .slice a0 x.Kids.length c0] ∧ Sl 4 RFareCond s a0 c0 x.Kids := by
  obtain ⟨n, h⟩ := h
  cases n with
  | zero => exact h.elim
  | succ n => obtain ⟨a0, c0, e, h0⟩ := h; exact ⟨a0, c0, e, h0.impl (fun _ _ _ q => ⟨n, q⟩)⟩
theorem RFareCond.fold {s : Sg} {cs : List Value} {x : FareCond} (h : ∃ a0 c0, cs = [.int .i64 x.Kind, .int .i64 x.A, .int .i64 x.B, .slice a0 x.Kids.length c0] ∧ Sl 4 RFareCond s a0 c0 x.Kids) : RFareCond s cs x := by
  obtain ⟨a0, c0, e, h0⟩ := h
  obtain ⟨n, q⟩ := Sl.level RNFareCond.up h0
  exact ⟨n + 1, a0, c0, e, q⟩
theorem RFareCond.one : Rone RFareCond := by intro s cs x h; obtain ⟨a0, c0, rfl, _⟩ := h.unf; rfl

structure FareReader where
  words : List ByteArray
  at_ : Int
  deriving DecidableEq, Inhabited
def RFareReader : Rd FareReader := fun s cs x => ∃ a0 c0, cs = [.slice a0 x.words.length c0, .int .i64 x.at_] ∧ Sl 1 RS s a0 c0 x.words
theorem RFareReader.one : Rone RFareReader := by rintro s cs x ⟨a0, c0, rfl, _⟩; rfl
theorem RFareReader.mono : Rmono RFareReader := fun _ _ h _ _ ⟨a0, c0, e, h0⟩ => ⟨a0, c0, e, h0.mono RS.mono h⟩

structure FareRule where
  If : FareCond
  Do : Int
  N : Int
  Stop : Bool
  deriving Inhabited
def szFareRule (x : FareRule) : Nat := szFareCond x.If + 1
def RFareRule : Rd FareRule := fun s cs x => ∃ a0 c0, cs = [.int .i64 x.If.Kind, .int .i64 x.If.A, .int .i64 x.If.B, .slice a0 x.If.Kids.length c0, .int .i64 x.Do, .int .i64 x.N, .bool x.Stop] ∧ Sl 4 RFareCond s a0 c0 x.If.Kids
theorem RFareRule.one : Rone RFareRule := by rintro s cs x ⟨a0, c0, rfl, _⟩; rfl
theorem RFareRule.mono : Rmono RFareRule := fun _ _ h _ _ ⟨a0, c0, e, h0⟩ => ⟨a0, c0, e, h0.mono RFareCond.mono h⟩

structure FareTariff where
  ByKm : Bool
  Bands : List FareBand
  Round : Int
  Rules : List FareRule
  deriving Inhabited
def szFareTariff (x : FareTariff) : Nat := (szL sz1) x.Bands + (szL szFareRule) x.Rules + 1
def RFareTariff : Rd FareTariff := fun s cs x => ∃ a0 c0 a1 c1, cs = [.bool x.ByKm, .slice a0 x.Bands.length c0, .int .i64 x.Round, .slice a1 x.Rules.length c1] ∧ Sl 2 RFareBand s a0 c0 x.Bands ∧ Sl 7 RFareRule s a1 c1 x.Rules
theorem RFareTariff.one : Rone RFareTariff := by rintro s cs x ⟨a0, c0, a1, c1, rfl, _⟩; rfl
theorem RFareTariff.mono : Rmono RFareTariff := fun _ _ h _ _ ⟨a0, c0, a1, c1, e, h0, h1⟩ => ⟨a0, c0, a1, c1, e, h0.mono RFareBand.mono h, h1.mono RFareRule.mono h⟩

structure FareTrip where
  Day : Int
  At : Int
  Km : Int
  Age : Int
  Card : Bool
  Zones : List Int
  deriving DecidableEq, Inhabited
def RFareTrip : Rd FareTrip := fun s cs x => ∃ a0 c0, cs = [.int .i64 x.Day, .int .i64 x.At, .int .i64 x.Km, .int .i64 x.Age, .bool x.Card, .slice a0 x.Zones.length c0] ∧ Sl 1 (RI .i64) s a0 c0 x.Zones
theorem RFareTrip.one : Rone RFareTrip := by rintro s cs x ⟨a0, c0, rfl, _⟩; rfl
theorem RFareTrip.mono : Rmono RFareTrip := fun _ _ h _ _ ⟨a0, c0, e, h0⟩ => ⟨a0, c0, e, h0.mono RI.mono h⟩

structure Fishref2Parser where
  l : List ByteArray
  bad : Bool
  deriving DecidableEq, Inhabited
def RFishref2Parser : Rd Fishref2Parser := fun s cs x => ∃ a0 c0, cs = [.slice a0 x.l.length c0, .bool x.bad] ∧ Sl 1 RS s a0 c0 x.l
theorem RFishref2Parser.one : Rone RFishref2Parser := by rintro s cs x ⟨a0, c0, rfl, _⟩; rfl
theorem RFishref2Parser.mono : Rmono RFishref2Parser := fun _ _ h _ _ ⟨a0, c0, e, h0⟩ => ⟨a0, c0, e, h0.mono RS.mono h⟩
def Farewords.loop1 (x0 : ByteArray) : Nat → (List ByteArray) → Bool → Nat → Option ((List ByteArray) × Bool × Nat)
  | 0, _, _, _ => none
  | n56 + 1, q60, q67, q68 => (if decide (q68 < x0.size) then (((if (((Utf8.decode x0 q68).1 : Int) == 32) then some (q60, true) else (bnd ((if (((Utf8.decode x0 q68).1 : Int) == 40) then true else (((Utf8.decode x0 q68).1 : Int) == 41)) : Bool) fun q89 => (((if q89 then ((apd q60 [(Utf8.encode ((Utf8.decode x0 q68).1 : Int))]).bind fun x107 => some (x107, true)) else (((if q67 then ((apd q60 [(Utf8.encode ((Utf8.decode x0 q68).1 : Int))]).bind fun x128 => some (x128, false)) else ((gx q60 (w64 (((q60.length : Nat) : Int) - 1))).bind fun x134 => ((scat x134 (Utf8.encode ((Utf8.decode x0 q68).1 : Int))).bind fun x144 => ((ix q60 (w64 (((q60.length : Nat) : Int) - 1))).bind fun _ => ((sx q60 (w64 (((q60.length : Nat) : Int) - 1)) x144).bind fun x151 => some (x151, q67)))))) : Option ((List ByteArray) × Bool)).bind fun q114 => match q114 with | (q117, q124) => some (q117, q124))) : Option ((List ByteArray) × Bool)).bind fun q93 => match q93 with | (q96, q103) => some (q96, q103)))) : Option ((List ByteArray) × Bool)).bind fun q72 => match q72 with | (q75, q82) => Farewords.loop1 x0 n56 q75 q82 (q68 + (Utf8.decode x0 q68).2)) else some (q60, q67, q68))
def Farewords (fu : Nat) (x0 : ByteArray) : Option (List ByteArray) := ((Farewords.loop1 x0 fu [] true 0).bind fun q55 => match q55 with | (q60, _, _) => some q60)
def FareReadertake_v1 (x1 : ByteArray) (y0 : FareReader) : Option (Bool × Int) := (((if decide (y0.at_ < ((y0.words.length : Nat) : Int)) then ((gx y0.words y0.at_).bind fun x59 => some (seq x59 x1)) else some false) : Option Bool).bind fun q56 => (if q56 then some (true, w64 (y0.at_ + 1)) else some (false, y0.at_)))
def FareReadermust_v1 (x1 : ByteArray) (y0 : FareReader) : Option (Option Int) := ((FareReadertake_v1 x1 y0).bind fun q52 => (if !q52.1 then some none else some (some q52.2)))
def FareReaderword_v1 (y0 : FareReader) : Option (Option (ByteArray × Int)) := (if (y0.at_ == ((y0.words.length : Nat) : Int)) then some none else ((gx y0.words (w64 ((w64 (y0.at_ + 1)) - 1))).bind fun x53 => some (some (x53, w64 (y0.at_ + 1)))))
def Farenumber (x0 : ByteArray) : Option (Option Int) := ((atoiq x0).bind fun q51 => (((if (!(q51.2)) then some true else (if decide (q51.1 < 0) then some true else ((itoa q51.1).bind fun q63 => some (!(seq q63 x0))))) : Option Bool).bind fun q59 => (if q59 then some none else some (some q51.1))))
def FareReadernumber_v1 (y0 : FareReader) : Option (Option (Int × Int)) := ((FareReaderword_v1 y0).bind fun q52 => match q52 with | none => some none | some rr54 => ((Farenumber rr54.1).bind fun q59 => match q59 with | none => some none | some rr61 => some (some (rr61, rr54.2))))
def Farenames : Ar10str := (Ar10str.mk (str [97, 108, 119, 97, 121, 115]) (str [99, 97, 114, 100]) (str [97, 103, 101]) (str [116, 105, 109, 101]) (str [107, 109]) (str [99, 111, 117, 110, 116]) (str [116, 111, 117, 99, 104]) (str [98, 101, 103, 105, 110]) (str [102, 105, 110, 105, 115, 104]) (str [110, 111, 116]))
def Farenumbers (x0 : Int) : Int := (bnd ((if (x0 == 2) then (x0 == 2) else (bnd ((if (x0 == 3) then (x0 == 3) else (bnd ((if (x0 == 4) then (x0 == 4) else (x0 == 5)) : Bool) fun q69 => q69)) : Bool) fun q62 => q62)) : Bool) fun q55 => (if q55 then 2 else (bnd ((if (x0 == 6) then (x0 == 6) else (bnd ((if (x0 == 7) then (x0 == 7) else (x0 == 8)) : Bool) fun q84 => q84)) : Bool) fun q77 => (if q77 then 1 else 0))))
def FareReaderlist_v6.loop1 (x2 : ByteArray) (y0 : FareReader) (self_FareReaderone_v1 : FareReader → Option (Option (FareCond × Int))) : Nat → (List FareCond) → Int → Option (Out (Option (FareCond × Int)) ((List FareCond) × Int))
  | 0, _, _ => none
  | n73 + 1, q77, q84 => ((FareReadertake_v1 x2 (FareReader.mk y0.words q84)).bind fun q86 => (if q86.1 then ((self_FareReaderone_v1 (FareReader.mk y0.words q86.2)).bind fun q89 => match q89 with | none => some (.ret none) | some rr91 => ((apd q77 [rr91.1]).bind fun x104 => FareReaderlist_v6.loop1 x2 y0 self_FareReaderone_v1 n73 x104 rr91.2)) else some (.next (q77, q86.2))))
def FareReaderlist_v6 (fu : Nat) (self_FareReaderone_v1 : FareReader → Option (Option (FareCond × Int))) (x1 : Int) (x2 : ByteArray) (y0 : FareReader) : Option (Option (FareCond × Int)) := ((self_FareReaderone_v1 y0).bind fun q54 => match q54 with | none => some none | some rr56 => ((FareReaderlist_v6.loop1 x2 y0 self_FareReaderone_v1 fu [rr56.1] rr56.2).bind fun q72 => match q72 with | .ret r => some r | .next (q77, q84) => (if (((q77.length : Nat) : Int) == 1) then ((gx q77 0).bind fun x111 => some (some (x111, q84))) else some (some ((FareCond.mk x1 0 0 q77), q84)))))
def FareReaderand_v3 (fu : Nat) (self_FareReaderone_v1 : FareReader → Option (Option (FareCond × Int))) (y0 : FareReader) : Option (Option (FareCond × Int)) := ((FareReaderlist_v6 fu self_FareReaderone_v1 10 (str [97, 110, 100]) y0).bind fun q54 => match q54 with | none => some none | some rr56 => some (some (rr56.1, rr56.2)))
def FareReaderlist_v5.loop1 (x2 : ByteArray) (y0 : FareReader) (fu : Nat) (self_FareReaderone_v1 : FareReader → Option (Option (FareCond × Int))) : Nat → (List FareCond) → Int → Option (Out (Option (FareCond × Int)) ((List FareCond) × Int))
  | 0, _, _ => none
  | n73 + 1, q77, q84 => ((FareReadertake_v1 x2 (FareReader.mk y0.words q84)).bind fun q86 => (if q86.1 then ((FareReaderand_v3 fu self_FareReaderone_v1 (FareReader.mk y0.words q86.2)).bind fun q89 => match q89 with | none => some (.ret none) | some rr91 => ((apd q77 [rr91.1]).bind fun x104 => FareReaderlist_v5.loop1 x2 y0 fu self_FareReaderone_v1 n73 x104 rr91.2)) else some (.next (q77, q86.2))))
def FareReaderlist_v5 (fu : Nat) (self_FareReaderone_v1 : FareReader → Option (Option (FareCond × Int))) (x1 : Int) (x2 : ByteArray) (y0 : FareReader) : Option (Option (FareCond × Int)) := ((FareReaderand_v3 fu self_FareReaderone_v1 y0).bind fun q54 => match q54 with | none => some none | some rr56 => ((FareReaderlist_v5.loop1 x2 y0 fu self_FareReaderone_v1 fu [rr56.1] rr56.2).bind fun q72 => match q72 with | .ret r => some r | .next (q77, q84) => (if (((q77.length : Nat) : Int) == 1) then ((gx q77 0).bind fun x111 => some (some (x111, q84))) else some (some ((FareCond.mk x1 0 0 q77), q84)))))
def FareReaderor_v3 (fu : Nat) (self_FareReaderone_v1 : FareReader → Option (Option (FareCond × Int))) (y0 : FareReader) : Option (Option (FareCond × Int)) := ((FareReaderlist_v5 fu self_FareReaderone_v1 11 (str [111, 114]) y0).bind fun q54 => match q54 with | none => some none | some rr56 => some (some (rr56.1, rr56.2)))
def FareReaderone_v1.loop3 (y0 : FareReader) (k92 : Nat) : Nat → Int → Int → Int → Int → Option (Out (Option (FareCond × Int)) (Int × Int × Int × Int))
  | 0, _, _, _, _ => none
  | n156 + 1, q160, q161, q162, q163 => (if decide (q160 < (Farenumbers ((k92 : Nat) : Int))) then (if (q160 == 0) then ((FareReadernumber_v1 (FareReader.mk y0.words q163)).bind fun q169 => match q169 with | none => some (.ret none) | some rr171 => FareReaderone_v1.loop3 y0 k92 n156 (w64 (q160 + 1)) rr171.1 q162 rr171.2) else (if (q160 == 1) then ((FareReadernumber_v1 (FareReader.mk y0.words q163)).bind fun q178 => match q178 with | none => some (.ret none) | some rr180 => FareReaderone_v1.loop3 y0 k92 n156 (w64 (q160 + 1)) q161 rr180.1 rr180.2) else none)) else some (.next (q160, q161, q162, q163)))
def FareReaderone_v1.loop1 (y0 : FareReader) (fu : Nat) (self_FareReaderone_v1 : FareReader → Option (Option (FareCond × Int))) (rr81 : ByteArray × Int) : (List ByteArray) → Nat → Int → Int → Int → (List FareCond) → Int → Option (Out (Option (FareCond × Int)) (Int × Int × Int × (List FareCond) × Int))
  | [], _, q101, q102, q103, q104, q108 => some (.next (q101, q102, q103, q104, q108))
  | x93 :: rest94, k92, q101, q102, q103, q104, q108 => (if !(seq rr81.1 x93) then FareReaderone_v1.loop1 y0 fu self_FareReaderone_v1 rr81 rest94 (k92 + 1) q101 q102 q103 q104 q108 else (((if (((k92 : Nat) : Int) == 9) then ((self_FareReaderone_v1 (FareReader.mk y0.words q108)).bind fun q123 => match q123 with | none => some (.ret none) | some rr125 => some (.next ([rr125.1], rr125.2))) else some (.next ([], q108))) : Option (Out (Option (FareCond × Int)) ((List FareCond) × Int))).bind fun q113 => match q113 with | .ret r => some (.ret r) | .next (q116, q120) => ((FareReaderone_v1.loop3 y0 k92 fu 0 0 0 q120).bind fun q155 => match q155 with | .ret r => some (.ret r) | .next (_, q161, q162, q163) => some (.ret (some ((FareCond.mk ((k92 : Nat) : Int) q161 q162 q116), q163))))))
def FareReaderone_v1 : Nat → FareReader → Option (Option (FareCond × Int))
  | 0, _ => none
  | fu + 1, y0 => ((FareReadertake_v1 (str [40]) y0).bind fun q54 => (if q54.1 then ((FareReaderor_v3 fu (FareReaderone_v1 fu) (FareReader.mk y0.words q54.2)).bind fun q57 => match q57 with | none => some none | some rr59 => ((FareReadermust_v1 (str [41]) (FareReader.mk y0.words rr59.2)).bind fun q72 => match q72 with | none => some none | some rr74 => some (some (rr59.1, rr74)))) else ((FareReaderword_v1 (FareReader.mk y0.words q54.2)).bind fun q79 => match q79 with | none => some none | some rr81 => (bnd (Farenames) fun q86 => ((FareReaderone_v1.loop1 y0 fu (FareReaderone_v1 fu) rr81 [q86.f0, q86.f1, q86.f2, q86.f3, q86.f4, q86.f5, q86.f6, q86.f7, q86.f8, q86.f9] 0 0 0 0 [] rr81.2).bind fun q91 => match q91 with | .ret r => some r | .next (_, _, _, _, _) => some none)))))
def Faredeeds : Ar7str := (Ar7str.mk (str []) (str [112, 101, 114, 99, 101, 110, 116]) (str [109, 105, 110, 117, 115]) (str [112, 108, 117, 115]) (str [102, 105, 120]) (str [97, 116, 109, 111, 115, 116]) (str [97, 116, 108, 101, 97, 115, 116]))
def FareReaderrule_v1.loop1 (rr78 : ByteArray × Int) : (List ByteArray) → Nat → Int → Int
  | [], _, q98 => q98
  | x90 :: rest91, k89, q98 => (bnd ((if decide (((k89 : Nat) : Int) > 0) then (seq rr78.1 x90) else false) : Bool) fun q104 => (bnd ((if q104 then ((k89 : Nat) : Int) else q98) : Int) fun q111 => FareReaderrule_v1.loop1 rr78 rest91 (k89 + 1) q111))
def FareReaderrule_v1 (fu : Nat) (y0 : FareReader) : Option (Option (FareRule × Int)) := ((FareReaderor_v3 fu (FareReaderone_v1 fu) y0).bind fun q54 => match q54 with | none => some none | some rr56 => ((FareReadermust_v1 (str [58]) (FareReader.mk y0.words rr56.2)).bind fun q69 => match q69 with | none => some none | some rr71 => ((FareReaderword_v1 (FareReader.mk y0.words rr71)).bind fun q76 => match q76 with | none => some none | some rr78 => (bnd (Faredeeds) fun q83 => (bnd (FareReaderrule_v1.loop1 rr78 [q83.f0, q83.f1, q83.f2, q83.f3, q83.f4, q83.f5, q83.f6] 0 0) fun q98 => (if (q98 == 0) then some none else ((FareReadernumber_v1 (FareReader.mk y0.words rr78.2)).bind fun q115 => match q115 with | none => some none | some rr117 => ((FareReadertake_v1 (str [115, 116, 111, 112]) (FareReader.mk y0.words rr117.2)).bind fun q122 => some (some ((FareRule.mk rr56.1 q98 rr117.1 q122.1), q122.2))))))))))
def FareCondtext_1_v3 (self_FareCondtext : FareCond → Option ByteArray) (x0 : FareCond) (y0 : FareCond) : Option ByteArray := ((self_FareCondtext x0).bind fun q52 => (bnd ((if (x0.Kind == 10) then (if (y0.Kind != 11) then true else (x0.Kind == 11)) else (x0.Kind == 11)) : Bool) fun q58 => (if q58 then ((scat (str [40]) q52).bind fun x63 => ((scat x63 (str [41])).bind fun x65 => some x65)) else some q52)))
def FareCondtext.loop1 (x0 : FareCond) (self_FareCondtext : FareCond → Option ByteArray) : (List FareCond) → (List ByteArray) → Option (List ByteArray)
  | [], q94 => some q94
  | x86 :: rest87, q94 => ((FareCondtext_1_v3 self_FareCondtext x86 x0).bind fun q110 => ((apd q94 [q110]).bind fun x113 => FareCondtext.loop1 x0 self_FareCondtext rest87 x113))
def FareCondtext.loop2 (x0 : FareCond) : (List Int) → Nat → ByteArray → Option ByteArray
  | [], _, q146 => some q146
  | x138 :: rest139, k137, q146 => (((if decide (((k137 : Nat) : Int) < (Farenumbers x0.Kind)) then ((itoa x138).bind fun q155 => ((scat (str [32]) q155).bind fun x157 => ((scat q146 x157).bind fun x159 => some x159))) else some q146) : Option ByteArray).bind fun q152 => FareCondtext.loop2 x0 rest139 (k137 + 1) q152)
def FareCondtext : Nat → FareCond → Option ByteArray
  | 0, _ => none
  | fu + 1, x0 => (((if (x0.Kind == 9) then ((gx x0.Kids 0).bind fun x58 => ((FareCondtext_1_v3 (FareCondtext fu) x58 x0).bind fun q70 => ((scat (str [110, 111, 116, 32]) q70).bind fun x72 => some (.ret x72)))) else (bnd ((if (x0.Kind == 10) then (x0.Kind == 10) else (x0.Kind == 11)) : Bool) fun q78 => (if q78 then ((FareCondtext.loop1 x0 (FareCondtext fu) x0.Kids []).bind fun q94 => ((joinq q94 ((mget (mput (mput [] 10 (str [32, 97, 110, 100, 32])) 11 (str [32, 111, 114, 32])) x0.Kind).getD ByteArray.empty)).bind fun q120 => some (.ret q120))) else some (.next ())))) : Option (Out ByteArray Unit)).bind fun q53 => match q53 with | .ret r => some r | .next () => (bnd (Farenames) fun q126 => ((gx [q126.f0, q126.f1, q126.f2, q126.f3, q126.f4, q126.f5, q126.f6, q126.f7, q126.f8, q126.f9] x0.Kind).bind fun x130 => ((FareCondtext.loop2 x0 [x0.A, x0.B] 0 x130).bind fun q146 => some q146))))
def FareTarifftext.loop1 : (List FareBand) → ByteArray → Option ByteArray
  | [], q67 => some q67
  | x59 :: rest60, q67 => ((itoa x59.Upto).bind fun q75 => ((scat (str [98, 97, 110, 100, 32]) q75).bind fun x77 => ((scat x77 (str [32])).bind fun x79 => ((itoa x59.Price).bind fun q81 => ((scat x79 q81).bind fun x83 => ((scat x83 (str [10])).bind fun x85 => ((sbw q67 x85).bind fun q87 => FareTarifftext.loop1 rest60 q87)))))))
def FareTarifftext.loop2 (fu : Nat) : (List FareRule) → ByteArray → Option ByteArray
  | [], q108 => some q108
  | x100 :: rest101, q108 => ((FareCondtext fu x100.If).bind fun q119 => ((scat q119 (str [32, 58, 32])).bind fun x121 => (bnd (Faredeeds) fun q123 => ((gx [q123.f0, q123.f1, q123.f2, q123.f3, q123.f4, q123.f5, q123.f6] x100.Do).bind fun x127 => ((scat x121 x127).bind fun x132 => ((scat x132 (str [32])).bind fun x134 => ((itoa x100.N).bind fun q136 => ((scat x134 q136).bind fun x138 => ((sbw q108 x138).bind fun q140 => (if x100.Stop then ((sbw q140 (str [32, 115, 116, 111, 112])).bind fun q143 => ((sbw q143 (str [10])).bind fun q145 => FareTarifftext.loop2 fu rest101 q145)) else ((sbw q140 (str [10])).bind fun q147 => FareTarifftext.loop2 fu rest101 q147)))))))))))
def FareTarifftext (fu : Nat) (x0 : FareTariff) : Option ByteArray := ((sbw ByteArray.empty ((mget (mput (mput [] false (str [122, 111, 110, 101, 115, 10])) true (str [107, 109, 10])) x0.ByKm).getD ByteArray.empty)).bind fun q54 => ((FareTarifftext.loop1 x0.Bands q54).bind fun q67 => ((itoa x0.Round).bind fun q89 => ((scat (str [114, 111, 117, 110, 100, 32]) q89).bind fun x91 => ((scat x91 (str [10])).bind fun x93 => ((sbw q67 x93).bind fun q95 => ((FareTarifftext.loop2 fu x0.Rules q95).bind fun q108 => some q108)))))))
def Faretariff.loop1 (fu : Nat) (q56 : List ByteArray) : Nat → Nat → Int → Bool → (List FareBand) → Int → (List FareRule) → Option (Out (Option FareTariff) (Int × Bool × (List FareBand) × Int × (List FareRule)))
  | 0, _, q76, q77, q78, q85, q86 => some (.next (q76, q77, q78, q85, q86))
  | rest68 + 1, k66, q76, q77, q78, q85, q86 => ((gx q56 ((k66 : Nat) : Int)).bind fun x94 => ((Farewords fu x94).bind fun q104 => (((if (q76 == 0) then ((FareReadertake_v1 (str [107, 109]) (FareReader.mk q104 0)).bind fun q137 => (if !q137.1 then ((FareReadermust_v1 (str [122, 111, 110, 101, 115]) (FareReader.mk q104 q137.2)).bind fun q140 => match q140 with | none => some (.ret none) | some rr142 => some (.next (1, rr142, q137.1, q78, q85, q86))) else some (.next (1, q137.2, q137.1, q78, q85, q86)))) else (((if (q76 == 1) then ((FareReadertake_v1 (str [98, 97, 110, 100]) (FareReader.mk q104 0)).bind fun q155 => some (q155.1, q155.2)) else some (false, 0)) : Option (Bool × Int)).bind fun q148 => match q148 with | (q151, q152) => (((if q151 then ((FareReadernumber_v1 (FareReader.mk q104 q152)).bind fun q181 => match q181 with | none => some (.ret none) | some rr183 => ((FareReadernumber_v1 (FareReader.mk q104 rr183.2)).bind fun q188 => match q188 with | none => some (.ret none) | some rr190 => ((apd q78 [(FareBand.mk rr183.1 rr190.1)]).bind fun x196 => some (.next (q76, rr190.2, x196, q85, q86))))) else (((if (q76 == 1) then ((FareReadermust_v1 (str [114, 111, 117, 110, 100]) (FareReader.mk q104 q152)).bind fun q218 => match q218 with | none => some (.ret none) | some rr220 => ((FareReadernumber_v1 (FareReader.mk q104 rr220)).bind fun q225 => match q225 with | none => some (.ret none) | some rr227 => some (.next (2, rr227.2, rr227.1, q86)))) else ((FareReaderrule_v1 fu (FareReader.mk q104 q152)).bind fun q233 => match q233 with | none => some (.ret none) | some rr235 => ((apd q86 [rr235.1]).bind fun x248 => some (.next (q76, rr235.2, q85, x248))))) : Option (Out (Option FareTariff) (Int × Int × Int × (List FareRule)))).bind fun q203 => match q203 with | .ret r => some (.ret r) | .next (q206, q207, q208, q209) => some (.next (q206, q207, q78, q208, q209)))) : Option (Out (Option FareTariff) (Int × Int × (List FareBand) × Int × (List FareRule)))).bind fun q158 => match q158 with | .ret r => some (.ret r) | .next (q161, q162, q163, q170, q171) => some (.next (q161, q162, q77, q163, q170, q171))))) : Option (Out (Option FareTariff) (Int × Int × Bool × (List FareBand) × Int × (List FareRule)))).bind fun q114 => match q114 with | .ret r => some (.ret r) | .next (q117, q118, q119, q120, q127, q128) => (if decide (q118 < ((q104.length : Nat) : Int)) then some (.ret none) else Faretariff.loop1 fu q56 rest68 (k66 + 1) q117 q119 q120 q127 q128))))
def Faretariff (fu : Nat) (x0 : ByteArray) : Option (Option FareTariff) := ((cutsq x0 (str [10])).bind fun q52 => (if !q52.2 then some none else ((splitq q52.1 (str [10])).bind fun q56 => ((Faretariff.loop1 fu q56 q56.length 0 0 false [] 0 []).bind fun q65 => match q65 with | .ret r => some r | .next (q76, q77, q78, q85, q86) => (((if decide (q76 < 2) then some true else ((FareTarifftext fu (FareTariff.mk q77 q78 q85 q86)).bind fun q262 => some (!(seq q262 x0)))) : Option Bool).bind fun q259 => (if q259 then some none else some (some (FareTariff.mk q77 q78 q85 q86))))))))
def Farewithin (x0 : Int) (x1 : Int) (x2 : Int) : Bool := (bnd ((if decide (x0 ≥ x1) then decide (x0 ≤ x2) else false) : Bool) fun q55 => q55)
def FareCondsize.loop1 (self_FareCondsize : FareCond → Option (Int × Int)) : (List FareCond) → Int → Int → Option (Int × Int)
  | [], q63, q64 => some (q63, q64)
  | x55 :: rest56, q63, q64 => ((self_FareCondsize x55).bind fun q74 => FareCondsize.loop1 self_FareCondsize rest56 (w64 (q63 + q74.1)) (mx q64 q74.2))
def FareCondsize : Nat → FareCond → Option (Int × Int)
  | 0, _ => none
  | fu + 1, x0 => ((FareCondsize.loop1 (FareCondsize fu) x0.Kids 1 0).bind fun q53 => match q53 with | (q63, q64) => some (q63, w64 (q64 + 1)))
def FareCondnode.loop1 (self_FareCondnode : FareCond → Option Int) : (List FareCond) → Option (Out Int Unit)
  | [] => some (.next ())
  | x98 :: rest99 => ((self_FareCondnode x98).bind fun q115 => (if (q115 != 0) then some (.ret q115) else FareCondnode.loop1 self_FareCondnode rest99))
def FareCondnode : Nat → FareCond → Option Int
  | 0, _ => none
  | fu + 1, x0 => (if !(Farewithin x0.Kind 0 11) then some 15 else (bnd ((if !(Farewithin x0.A 0 28800) then true else !(Farewithin x0.B 0 28800)) : Bool) fun q57 => (if q57 then some 2 else (bnd ((if decide ((Farenumbers x0.Kind) < 1) then (if (x0.A != 0) then true else (if decide ((Farenumbers x0.Kind) < 2) then (if (x0.B != 0) then true else (if ((Farenumbers x0.Kind) == 2) then decide (x0.A > x0.B) else false)) else (if ((Farenumbers x0.Kind) == 2) then decide (x0.A > x0.B) else false))) else (if decide ((Farenumbers x0.Kind) < 2) then (if (x0.B != 0) then true else (if ((Farenumbers x0.Kind) == 2) then decide (x0.A > x0.B) else false)) else (if ((Farenumbers x0.Kind) == 2) then decide (x0.A > x0.B) else false))) : Bool) fun q65 => (if q65 then some 1 else (bnd ((if (x0.Kind == 9) then (if (((x0.Kids).length : Int) != 1) then true else (if decide (x0.Kind > 9) then (if decide (((x0.Kids).length : Int) < 2) then true else (if decide (x0.Kind < 9) then decide (((x0.Kids).length : Int) > 0) else false)) else (if decide (x0.Kind < 9) then decide (((x0.Kids).length : Int) > 0) else false))) else (if decide (x0.Kind > 9) then (if decide (((x0.Kids).length : Int) < 2) then true else (if decide (x0.Kind < 9) then decide (((x0.Kids).length : Int) > 0) else false)) else (if decide (x0.Kind < 9) then decide (((x0.Kids).length : Int) > 0) else false))) : Bool) fun q82 => (if q82 then some 1 else ((FareCondnode.loop1 (FareCondnode fu) x0.Kids).bind fun q96 => match q96 with | .ret r => some r | .next () => some 0))))))))
def FareCondcheck (fu : Nat) (x0 : FareCond) : Option Int := ((FareCondsize fu x0).bind fun q52 => (bnd ((if decide (q52.1 > 40) then true else decide (q52.2 > 6)) : Bool) fun q58 => (if q58 then some 4 else ((FareCondnode fu x0).bind fun q62 => some q62))))
def FareCheckTariff.loop1 (x0 : FareTariff) : (List FareBand) → Nat → Option (Out Int Unit)
  | [], _ => some (.next ())
  | x63 :: rest64, k62 => (bnd ((if !(Farewithin x63.Upto 1 1000) then true else !(Farewithin x63.Price 0 100000)) : Bool) fun q81 => (if q81 then some (.ret 2) else (((if decide (((k62 : Nat) : Int) > 0) then ((gx x0.Bands (w64 (((k62 : Nat) : Int) - 1))).bind fun x92 => (if decide (x63.Upto ≤ x92.Upto) then some true else ((gx x0.Bands (w64 (((k62 : Nat) : Int) - 1))).bind fun x102 => some (decide (x63.Price < x102.Price))))) else some false) : Option Bool).bind fun q89 => (if q89 then some (.ret 1) else FareCheckTariff.loop1 x0 rest64 (k62 + 1)))))
def FareCheckTariff.loop2 (fu : Nat) : (List FareRule) → Option (Out Int Unit)
  | [] => some (.next ())
  | x116 :: rest117 => ((FareCondcheck fu x116.If).bind fun q133 => (if (q133 != 0) then some (.ret q133) else (bnd ((if (x116.Do == 1) then 200 else 100000) : Int) fun q140 => (if !(Farewithin x116.Do 1 6) then some (.ret 15) else (if !(Farewithin x116.N 0 q140) then some (.ret 2) else FareCheckTariff.loop2 fu rest117)))))
def FareCheckTariff (fu : Nat) (x0 : FareTariff) : Option Int := (bnd ((if !(Farewithin ((x0.Bands).length : Int) 1 8) then true else decide (((x0.Rules).length : Int) > 20)) : Bool) fun q56 => (if q56 then some 4 else ((FareCheckTariff.loop1 x0 x0.Bands 0).bind fun q61 => match q61 with | .ret r => some r | .next () => (if !(Farewithin x0.Round 1 100) then some 2 else ((FareCheckTariff.loop2 fu x0.Rules).bind fun q114 => match q114 with | .ret r => some r | .next () => some 0)))))
def FareRead (fu : Nat) (x0 : ByteArray) : Option (FareTariff × Int) := (if decide (((x0.size : Nat) : Int) > 65536) then some ((FareTariff.mk false [] 0 []), 4) else ((Faretariff fu x0).bind fun q54 => match q54 with | none => some ((FareTariff.mk false [] 0 []), 10) | some rr56 => ((FareCheckTariff fu rr56).bind fun q71 => (if (q71 != 0) then some ((FareTariff.mk false [] 0 []), q71) else some (rr56, 0)))))
def Fishref2plain (x0 : ByteArray) : Option (Int × Bool) := ((atoiq x0).bind fun q51 => (((if q51.2 then (if decide (q51.1 ≥ 0) then ((itoa q51.1).bind fun q64 => some (q51.1, (seq q64 x0))) else some (q51.1, false)) else some (q51.1, false)) : Option (Int × Bool)).bind fun q56 => match q56 with | (q59, q60) => some (q59, q60)))
def Fishref2tokens.loop2 : Nat → ByteArray → (List ByteArray) → Option (ByteArray × (List ByteArray))
  | 0, _, _ => none
  | n82 + 1, q86, q87 => (if (haspq q86 (str [40])) then ((apd q87 [(str [40])]).bind fun x98 => ((scut q86 1 ((q86.size : Nat) : Int)).bind fun x104 => Fishref2tokens.loop2 n82 x104 x98)) else some (q86, q87))
def Fishref2tokens.loop3 : Nat → ByteArray → Int → Option (ByteArray × Int)
  | 0, _, _ => none
  | n109 + 1, q113, q114 => ((hassq q113 (str [41])).bind fun q116 => (if q116 then ((scut q113 0 (w64 (((q113.size : Nat) : Int) - 1))).bind fun x119 => Fishref2tokens.loop3 n109 x119 (w64 (q114 + 1))) else some (q113, q114)))
def Fishref2tokens.loop5 (q114 : Int) : Nat → Int → (List ByteArray) → Option (Int × (List ByteArray))
  | 0, _, _ => none
  | n141 + 1, q145, q146 => (if decide (q145 < q114) then ((apd q146 [(str [41])]).bind fun x156 => Fishref2tokens.loop5 q114 n141 (w64 (q145 + 1)) x156) else some (q145, q146))
def Fishref2tokens.loop1 (fu : Nat) : List ByteArray → (List ByteArray) → Option (List ByteArray)
  | [], q71 => some q71
  | x60 :: rest61, q71 => ((Fishref2tokens.loop2 fu x60 q71).bind fun q81 => match q81 with | (q86, q87) => ((Fishref2tokens.loop3 fu q86 0).bind fun q108 => match q108 with | (q113, q114) => ((apd q87 [q113]).bind fun x122 => ((Fishref2tokens.loop5 q114 fu 0 x122).bind fun q140 => match q140 with | (_, q146) => Fishref2tokens.loop1 fu rest61 q146))))
def Fishref2tokens (fu : Nat) (x0 : ByteArray) : Option (List ByteArray) := ((splitq x0 (str [32])).bind fun q52 => ((Fishref2tokens.loop1 fu q52 []).bind fun q71 => some q71))
def Fishref2Parsernext_v1 (y0 : Fishref2Parser) : Option (ByteArray × (List ByteArray) × Bool) := (if (((y0.l.length : Nat) : Int) == 0) then some ((str []), y0.l, true) else ((gx y0.l 0).bind fun x60 => ((cutl y0.l 1 ((y0.l.length : Nat) : Int)).bind fun x70 => some (x60, x70, y0.bad))))
def SlicesIndexLstring.loop1 (x1 : ByteArray) : (List ByteArray) → Nat → Out Int Unit
  | [], _ => (.next ())
  | x54 :: rest55, k53 => (if (seq x1 x54) then (.ret ((k53 : Nat) : Int)) else SlicesIndexLstring.loop1 x1 rest55 (k53 + 1))
def SlicesIndexLstring (x0 : List ByteArray) (x1 : ByteArray) : Int := (bnd (SlicesIndexLstring.loop1 x1 x0 0) fun q52 => match q52 with | .ret r => r | .next () => (-1))
def Fishref2numbersOf (x0 : Int) : Int := (bnd ((if (x0 == 2) then (x0 == 2) else (bnd ((if (x0 == 3) then (x0 == 3) else (bnd ((if (x0 == 4) then (x0 == 4) else (x0 == 5)) : Bool) fun q69 => q69)) : Bool) fun q62 => q62)) : Bool) fun q55 => (if q55 then 2 else (bnd ((if (x0 == 6) then (x0 == 6) else (bnd ((if (x0 == 7) then (x0 == 7) else (x0 == 8)) : Bool) fun q84 => q84)) : Bool) fun q77 => (if q77 then 1 else 0))))
def Fishref2Parserjoined_v4.loop1 (x2 : ByteArray) (self_Fishref2Parserunit_v1 : Fishref2Parser → Option (FareCond × (List ByteArray) × Bool)) : Nat → (List FareCond) → (List ByteArray) → Bool → Option ((List FareCond) × (List ByteArray) × Bool)
  | 0, _, _, _ => none
  | n87 + 1, q91, q98, q105 => (((if !q105 then (if decide (((q98.length : Nat) : Int) > 0) then ((gx q98 0).bind fun x115 => some (seq x115 x2)) else some false) else some false) : Option Bool).bind fun q111 => (if q111 then ((Fishref2Parsernext_v1 (Fishref2Parser.mk q98 q105)).bind fun q126 => ((self_Fishref2Parserunit_v1 (Fishref2Parser.mk q126.2.1 q126.2.2)).bind fun q133 => ((apd q91 [q133.1]).bind fun x148 => Fishref2Parserjoined_v4.loop1 x2 self_Fishref2Parserunit_v1 n87 x148 q133.2.1 q133.2.2))) else some (q91, q98, q105)))
def Fishref2Parserjoined_v4 (fu : Nat) (self_Fishref2Parserunit_v1 : Fishref2Parser → Option (FareCond × (List ByteArray) × Bool)) (x1 : Int) (x2 : ByteArray) (y0 : Fishref2Parser) : Option (FareCond × (List ByteArray) × Bool) := ((self_Fishref2Parserunit_v1 y0).bind fun q68 => ((Fishref2Parserjoined_v4.loop1 x2 self_Fishref2Parserunit_v1 fu [q68.1] q68.2.1 q68.2.2).bind fun q86 => match q86 with | (q91, q98, q105) => (if (((q91.length : Nat) : Int) == 1) then ((gx q91 0).bind fun x155 => some (x155, q98, q105)) else some ((FareCond.mk x1 0 0 q91), q98, q105))))
def Fishref2Parserwhole_1_v2 (fu : Nat) (self_Fishref2Parserunit_v1 : Fishref2Parser → Option (FareCond × (List ByteArray) × Bool)) (y1 : Fishref2Parser) : Option (FareCond × (List ByteArray) × Bool) := ((Fishref2Parserjoined_v4 fu self_Fishref2Parserunit_v1 10 (str [97, 110, 100]) y1).bind fun q68 => some (q68.1, q68.2.1, q68.2.2))
def Fishref2Parserjoined_v3.loop1 (x2 : ByteArray) (fu : Nat) (self_Fishref2Parserunit_v1 : Fishref2Parser → Option (FareCond × (List ByteArray) × Bool)) : Nat → (List FareCond) → (List ByteArray) → Bool → Option ((List FareCond) × (List ByteArray) × Bool)
  | 0, _, _, _ => none
  | n87 + 1, q91, q98, q105 => (((if !q105 then (if decide (((q98.length : Nat) : Int) > 0) then ((gx q98 0).bind fun x115 => some (seq x115 x2)) else some false) else some false) : Option Bool).bind fun q111 => (if q111 then ((Fishref2Parsernext_v1 (Fishref2Parser.mk q98 q105)).bind fun q126 => ((Fishref2Parserwhole_1_v2 fu self_Fishref2Parserunit_v1 (Fishref2Parser.mk q126.2.1 q126.2.2)).bind fun q133 => ((apd q91 [q133.1]).bind fun x148 => Fishref2Parserjoined_v3.loop1 x2 fu self_Fishref2Parserunit_v1 n87 x148 q133.2.1 q133.2.2))) else some (q91, q98, q105)))
def Fishref2Parserjoined_v3 (fu : Nat) (self_Fishref2Parserunit_v1 : Fishref2Parser → Option (FareCond × (List ByteArray) × Bool)) (x1 : Int) (x2 : ByteArray) (y0 : Fishref2Parser) : Option (FareCond × (List ByteArray) × Bool) := ((Fishref2Parserwhole_1_v2 fu self_Fishref2Parserunit_v1 y0).bind fun q68 => ((Fishref2Parserjoined_v3.loop1 x2 fu self_Fishref2Parserunit_v1 fu [q68.1] q68.2.1 q68.2.2).bind fun q86 => match q86 with | (q91, q98, q105) => (if (((q91.length : Nat) : Int) == 1) then ((gx q91 0).bind fun x155 => some (x155, q98, q105)) else some ((FareCond.mk x1 0 0 q91), q98, q105))))
def Fishref2Parserwhole_v2 (fu : Nat) (self_Fishref2Parserunit_v1 : Fishref2Parser → Option (FareCond × (List ByteArray) × Bool)) (y0 : Fishref2Parser) : Option (FareCond × (List ByteArray) × Bool) := ((Fishref2Parserjoined_v3 fu self_Fishref2Parserunit_v1 11 (str [111, 114]) y0).bind fun q69 => some (q69.1, q69.2.1, q69.2.2))
def Fishref2Parserunit_v1.loop2 (q68 : ByteArray × (List ByteArray) × Bool) : Nat → Int → Int → Int → (List ByteArray) → Bool → Option (Int × Int × Int × (List ByteArray) × Bool)
  | 0, _, _, _, _, _ => none
  | n155 + 1, q159, q160, q161, q162, q169 => (if decide (q159 < (Fishref2numbersOf (SlicesIndexLstring [(str [97, 108, 119, 97, 121, 115]), (str [99, 97, 114, 100]), (str [97, 103, 101]), (str [116, 105, 109, 101]), (str [107, 109]), (str [99, 111, 117, 110, 116]), (str [116, 111, 117, 99, 104]), (str [98, 101, 103, 105, 110]), (str [102, 105, 110, 105, 115, 104])] q68.1))) then ((Fishref2Parsernext_v1 (Fishref2Parser.mk q162 q169)).bind fun q172 => ((Fishref2plain q172.1).bind fun q179 => (bnd ((if q172.2.2 then true else !q179.2) : Bool) fun q185 => (bnd ((if (q159 == 0) then (q179.1, q161) else (q160, q179.1)) : Int × Int) fun q189 => match q189 with | (q192, q193) => Fishref2Parserunit_v1.loop2 q68 n155 (w64 (q159 + 1)) q192 q193 q172.2.1 q185)))) else some (q159, q160, q161, q162, q169))
def Fishref2Parserunit_v1 : Nat → Fishref2Parser → Option (FareCond × (List ByteArray) × Bool)
  | 0, _ => none
  | fu + 1, y0 => ((Fishref2Parsernext_v1 y0).bind fun q68 => (if q68.2.2 then some ((FareCond.mk 0 0 0 []), q68.2.1, q68.2.2) else (if (seq q68.1 (str [110, 111, 116])) then (((Fishref2Parserunit_v1 fu) (Fishref2Parser.mk q68.2.1 q68.2.2)).bind fun q77 => some ((FareCond.mk 9 0 0 [q77.1]), q77.2.1, q77.2.2)) else (if (seq q68.1 (str [40])) then ((Fishref2Parserwhole_v2 fu (Fishref2Parserunit_v1 fu) (Fishref2Parser.mk q68.2.1 q68.2.2)).bind fun q98 => ((((Fishref2Parsernext_v1 (Fishref2Parser.mk q98.2.1 q98.2.2)).bind fun q126 => (if !(seq q126.1 (str [41])) then some (q126.2.1, true) else some (q126.2.1, q126.2.2))) : Option ((List ByteArray) × Bool)).bind fun q114 => match q114 with | (q117, q124) => some (q98.1, q117, q124))) else (if decide ((SlicesIndexLstring [(str [97, 108, 119, 97, 121, 115]), (str [99, 97, 114, 100]), (str [97, 103, 101]), (str [116, 105, 109, 101]), (str [107, 109]), (str [99, 111, 117, 110, 116]), (str [116, 111, 117, 99, 104]), (str [98, 101, 103, 105, 110]), (str [102, 105, 110, 105, 115, 104])] q68.1) < 0) then some ((FareCond.mk 0 0 0 []), q68.2.1, true) else ((Fishref2Parserunit_v1.loop2 q68 fu 0 0 0 q68.2.1 q68.2.2).bind fun q154 => match q154 with | (_, q160, q161, q162, q169) => some ((FareCond.mk (SlicesIndexLstring [(str [97, 108, 119, 97, 121, 115]), (str [99, 97, 114, 100]), (str [97, 103, 101]), (str [116, 105, 109, 101]), (str [107, 109]), (str [99, 111, 117, 110, 116]), (str [116, 111, 117, 99, 104]), (str [98, 101, 103, 105, 110]), (str [102, 105, 110, 105, 115, 104])] q68.1) q160 q161 []), q162, q169)))))))
def Fishref2kidText (self_Fishref2CondText : FareCond → Option ByteArray) (x0 : FareCond) (x1 : FareCond) : Option ByteArray := ((self_Fishref2CondText x1).bind fun q53 => (bnd ((if (x1.Kind == 11) then true else (if (x1.Kind == 10) then (x0.Kind != 11) else false)) : Bool) fun q59 => (if q59 then ((scat (str [40]) q53).bind fun x64 => ((scat x64 (str [41])).bind fun x66 => some x66)) else some q53)))
def Fishref2CondText.loop1 (x0 : FareCond) (self_Fishref2CondText : FareCond → Option ByteArray) : (List FareCond) → (List ByteArray) → Option (List ByteArray)
  | [], q107 => some q107
  | x99 :: rest100, q107 => ((Fishref2kidText self_Fishref2CondText x0 x99).bind fun q123 => ((apd q107 [q123]).bind fun x126 => Fishref2CondText.loop1 x0 self_Fishref2CondText rest100 x126))
def Fishref2CondText.loop3 (x0 : FareCond) : Nat → ByteArray → Int → Option (ByteArray × Int)
  | 0, _, _ => none
  | n159 + 1, q163, q164 => (if decide (q164 < (Fishref2numbersOf x0.Kind)) then ((gx [x0.A, x0.B] q164).bind fun x167 => ((itoa x167).bind fun q172 => ((scat (str [32]) q172).bind fun x174 => ((scat q163 x174).bind fun x176 => Fishref2CondText.loop3 x0 n159 x176 (w64 (q164 + 1)))))) else some (q163, q164))
def Fishref2CondText : Nat → FareCond → Option ByteArray
  | 0, _ => none
  | fu + 1, x0 => (((if (x0.Kind == 9) then ((gx x0.Kids 0).bind fun x64 => ((Fishref2kidText (Fishref2CondText fu) x0 x64).bind fun q76 => ((scat (str [110, 111, 116, 32]) q76).bind fun x78 => some (.ret x78)))) else (bnd ((if (x0.Kind == 10) then (x0.Kind == 10) else (x0.Kind == 11)) : Bool) fun q84 => (if q84 then (bnd ((if (x0.Kind == 11) then (str [32, 111, 114, 32]) else (str [32, 97, 110, 100, 32])) : ByteArray) fun q92 => ((Fishref2CondText.loop1 x0 (Fishref2CondText fu) x0.Kids []).bind fun q107 => ((joinq q107 q92).bind fun q132 => some (.ret q132)))) else some (.next ())))) : Option (Out ByteArray Unit)).bind fun q59 => match q59 with | .ret r => some r | .next () => ((gx [(str [97, 108, 119, 97, 121, 115]), (str [99, 97, 114, 100]), (str [97, 103, 101]), (str [116, 105, 109, 101]), (str [107, 109]), (str [99, 111, 117, 110, 116]), (str [116, 111, 117, 99, 104]), (str [98, 101, 103, 105, 110]), (str [102, 105, 110, 105, 115, 104])] x0.Kind).bind fun x137 => ((Fishref2CondText.loop3 x0 fu x137 0).bind fun q158 => match q158 with | (q163, _) => some q163)))
def Fishref2condOf (fu : Nat) (x0 : ByteArray) : Option (FareCond × Bool) := ((Fishref2tokens fu x0).bind fun q52 => ((Fishref2Parserwhole_v2 fu (Fishref2Parserunit_v1 fu) (Fishref2Parser.mk q52 false)).bind fun q63 => (((if !q63.2.2 then (if (((q63.2.1.length : Nat) : Int) == 0) then ((Fishref2CondText fu q63.1).bind fun q94 => some ((seq q94 x0), q63.1.Kind, q63.1.A, q63.1.B, q63.1.Kids)) else some (false, q63.1.Kind, q63.1.A, q63.1.B, q63.1.Kids)) else some (false, q63.1.Kind, q63.1.A, q63.1.B, q63.1.Kids)) : Option (Bool × Int × Int × Int × (List FareCond))).bind fun q79 => match q79 with | (q82, q83, q84, q85, q86) => some ((FareCond.mk q83 q84 q85 q86), q82))))
def Fishref2ruleOf (fu : Nat) (x0 : ByteArray) : Option (FareRule × Bool) := ((cutq x0 (str [32, 58, 32])).bind fun q52 => (if !q52.2.2 then some ((FareRule.mk (FareCond.mk 0 0 0 []) 0 0 false), false) else ((Fishref2condOf fu q52.1).bind fun q55 => ((splitq q52.2.1 (str [32])).bind fun q65 => (((if !q55.2 then some true else (if decide (((q65.length : Nat) : Int) < 2) then some true else (if decide (((q65.length : Nat) : Int) > 3) then some true else (if (((q65.length : Nat) : Int) == 3) then ((gx q65 2).bind fun x81 => some (!(seq x81 (str [115, 116, 111, 112])))) else some false)))) : Option Bool).bind fun q75 => (if q75 then some ((FareRule.mk (FareCond.mk 0 0 0 []) 0 0 false), false) else ((gx q65 0).bind fun x98 => ((gx q65 1).bind fun x108 => ((Fishref2plain x108).bind fun q118 => (bnd ((if q118.2 then (decide ((SlicesIndexLstring [(str []), (str [112, 101, 114, 99, 101, 110, 116]), (str [109, 105, 110, 117, 115]), (str [112, 108, 117, 115]), (str [102, 105, 120]), (str [97, 116, 109, 111, 115, 116]), (str [97, 116, 108, 101, 97, 115, 116])] x98) > 0), q55.1.Kind, q55.1.A, q55.1.B, q55.1.Kids, (SlicesIndexLstring [(str []), (str [112, 101, 114, 99, 101, 110, 116]), (str [109, 105, 110, 117, 115]), (str [112, 108, 117, 115]), (str [102, 105, 120]), (str [97, 116, 109, 111, 115, 116]), (str [97, 116, 108, 101, 97, 115, 116])] x98), q118.1, (((q65.length : Nat) : Int) == 3)) else (false, q55.1.Kind, q55.1.A, q55.1.B, q55.1.Kids, (SlicesIndexLstring [(str []), (str [112, 101, 114, 99, 101, 110, 116]), (str [109, 105, 110, 117, 115]), (str [112, 108, 117, 115]), (str [102, 105, 120]), (str [97, 116, 109, 111, 115, 116]), (str [97, 116, 108, 101, 97, 115, 116])] x98), q118.1, (((q65.length : Nat) : Int) == 3))) : Bool × Int × Int × Int × (List FareCond) × Int × Int × Bool) fun q121 => match q121 with | (q124, q125, q126, q127, q128, q132, q133, q134) => some ((FareRule.mk (FareCond.mk q125 q126 q127 q128) q132 q133 q134), q124)))))))))))
def Fishref2tariffOf.loop1 : Nat → (List ByteArray) → Bool → (List FareBand) → Int → (List FareRule) → (List FareBand) → Option (Out (FareTariff × Bool) ((List ByteArray) × Bool × (List FareBand) × Int × (List FareRule) × (List FareBand)))
  | 0, _, _, _, _, _, _ => none
  | n115 + 1, q119, q123, q124, q128, q129, q133 => (((if decide (((q119).length : Int) > 0) then ((gx q119 0).bind fun x148 => some (haspq x148 (str [98, 97, 110, 100, 32]))) else some false) : Option Bool).bind fun q145 => (if q145 then ((gx q119 0).bind fun x158 => ((splitq x158 (str [32])).bind fun q167 => (if (((q167.length : Nat) : Int) != 3) then some (.ret ((FareTariff.mk false [] 0 []), false)) else ((gx q167 1).bind fun x174 => ((Fishref2plain x174).bind fun q184 => ((gx q167 2).bind fun x186 => ((Fishref2plain x186).bind fun q196 => (bnd ((if !q184.2 then true else !q196.2) : Bool) fun q202 => (if q202 then some (.ret ((FareTariff.mk false [] 0 []), false)) else ((apd q133 [(FareBand.mk q184.1 q196.1)]).bind fun x207 => ((cutl q119 1 ((q119).length : Int)).bind fun x213 => Fishref2tariffOf.loop1 n115 x213 q123 q124 q128 q129 x207))))))))))) else some (.next (q119, q123, q124, q128, q129, q133))))
def Fishref2tariffOf.loop2 (fu : Nat) : (List ByteArray) → Bool → (List FareBand) → Int → (List FareRule) → (List FareRule) → Option (Out (FareTariff × Bool) (Bool × (List FareBand) × Int × (List FareRule) × (List FareRule)))
  | [], q274, q275, q279, q280, q284 => some (.next (q274, q275, q279, q280, q284))
  | x266 :: rest267, q274, q275, q279, q280, q284 => ((Fishref2ruleOf fu x266).bind fun q296 => (if !q296.2 then some (.ret ((FareTariff.mk false [] 0 []), false)) else ((apd q284 [q296.1]).bind fun x308 => Fishref2tariffOf.loop2 fu rest267 q274 q275 q279 q280 x308)))
def Fishref2tariffOf (fu : Nat) (x0 : ByteArray) : Option (FareTariff × Bool) := ((cutsq x0 (str [10])).bind fun q52 => ((splitq q52.1 (str [10])).bind fun q54 => (((if !q52.2 then some true else ((gx q54 0).bind fun x67 => (if !(seq x67 (str [122, 111, 110, 101, 115])) then ((gx q54 0).bind fun x78 => some (!(seq x78 (str [107, 109])))) else some false))) : Option Bool).bind fun q64 => (if q64 then some ((FareTariff.mk false [] 0 []), false) else ((gx q54 0).bind fun x89 => ((cutl q54 1 ((q54).length : Int)).bind fun x103 => ((Fishref2tariffOf.loop1 fu x103 false [] 0 [] []).bind fun q114 => match q114 with | .ret r => some r | .next (q119, q123, q124, q128, q129, q133) => (((if (((q119).length : Int) == 0) then some true else ((gx q119 0).bind fun x229 => some (!(haspq x229 (str [114, 111, 117, 110, 100, 32]))))) : Option Bool).bind fun q226 => (if q226 then some ((FareTariff.mk false [] 0 []), false) else ((gx q119 0).bind fun x239 => ((scut x239 6 ((x239.size : Nat) : Int)).bind fun x248 => ((Fishref2plain x248).bind fun q250 => (if !q250.2 then some ((FareTariff.mk false [] 0 []), false) else ((cutl q119 1 ((q119).length : Int)).bind fun x253 => ((Fishref2tariffOf.loop2 fu x253 q123 q124 q128 q129 []).bind fun q264 => match q264 with | .ret r => some r | .next (_, _, _, _, q284) => some ((FareTariff.mk (seq x89 (str [107, 109])) q133 q250.1 q284), true))))))))))))))))
def Fishref2within (x0 : Int) (x1 : Int) (x2 : Int) : Bool := (bnd ((if decide (x0 ≥ x1) then decide (x0 ≤ x2) else false) : Bool) fun q55 => q55)
def Fishref2shape_v1.loop1 (self_Fishref2shape_v1 : FareCond → Int → Option (Int × Int)) : (List FareCond) → Int → Int → Option (Int × Int)
  | [], q65, q66 => some (q65, q66)
  | x57 :: rest58, q65, q66 => ((self_Fishref2shape_v1 x57 q66).bind fun q76 => (if decide (q76.2 < 0) then some (mx q65 q76.1, q76.2) else Fishref2shape_v1.loop1 self_Fishref2shape_v1 rest58 (mx q65 q76.1) q76.2))
def Fishref2shape_v1 : Nat → FareCond → Int → Option (Int × Int)
  | 0, _, _ => none
  | fu + 1, x0, y0 => (if decide ((w64 (y0 - 1)) < 0) then some (1, w64 (y0 - 1)) else ((Fishref2shape_v1.loop1 (Fishref2shape_v1 fu) x0.Kids 0 (w64 (y0 - 1))).bind fun q55 => match q55 with | (q65, q66) => some (w64 (q65 + 1), q66)))
def Fishref2nodeFault.loop1 (self_Fishref2nodeFault : FareCond → Option Int) : (List FareCond) → Option (Out Int Unit)
  | [] => some (.next ())
  | x83 :: rest84 => ((self_Fishref2nodeFault x83).bind fun q100 => (if (q100 != 0) then some (.ret q100) else Fishref2nodeFault.loop1 self_Fishref2nodeFault rest84))
def Fishref2nodeFault.loop2 (self_Fishref2nodeFault : FareCond → Option Int) : (List FareCond) → Option (Out Int Unit)
  | [] => some (.next ())
  | x115 :: rest116 => ((self_Fishref2nodeFault x115).bind fun q132 => (if (q132 != 0) then some (.ret q132) else Fishref2nodeFault.loop2 self_Fishref2nodeFault rest116))
def Fishref2nodeFault.loop3 (self_Fishref2nodeFault : FareCond → Option Int) : (List FareCond) → Option (Out Int Unit)
  | [] => some (.next ())
  | x139 :: rest140 => ((self_Fishref2nodeFault x139).bind fun q156 => (if (q156 != 0) then some (.ret q156) else Fishref2nodeFault.loop3 self_Fishref2nodeFault rest140))
def Fishref2nodeFault : Nat → FareCond → Option Int
  | 0, _ => none
  | fu + 1, x0 => (if !(Fishref2within x0.Kind 0 11) then some 15 else (bnd ((if !(Fishref2within x0.A 0 28800) then true else !(Fishref2within x0.B 0 28800)) : Bool) fun q57 => (if q57 then some 2 else (bnd ((if decide ((Fishref2numbersOf x0.Kind) < 1) then (if (x0.A != 0) then true else (if decide ((Fishref2numbersOf x0.Kind) < 2) then (if (x0.B != 0) then true else (if ((Fishref2numbersOf x0.Kind) == 2) then decide (x0.A > x0.B) else false)) else (if ((Fishref2numbersOf x0.Kind) == 2) then decide (x0.A > x0.B) else false))) else (if decide ((Fishref2numbersOf x0.Kind) < 2) then (if (x0.B != 0) then true else (if ((Fishref2numbersOf x0.Kind) == 2) then decide (x0.A > x0.B) else false)) else (if ((Fishref2numbersOf x0.Kind) == 2) then decide (x0.A > x0.B) else false))) : Bool) fun q65 => (if q65 then some 1 else (if (x0.Kind == 9) then (if (((x0.Kids).length : Int) != 1) then some 1 else ((Fishref2nodeFault.loop1 (Fishref2nodeFault fu) x0.Kids).bind fun q81 => match q81 with | .ret r => some r | .next () => some 0)) else (bnd ((if (x0.Kind == 10) then (x0.Kind == 10) else (x0.Kind == 11)) : Bool) fun q107 => (if q107 then (if decide (((x0.Kids).length : Int) < 2) then some 1 else ((Fishref2nodeFault.loop2 (Fishref2nodeFault fu) x0.Kids).bind fun q113 => match q113 with | .ret r => some r | .next () => some 0)) else (if decide (((x0.Kids).length : Int) > 0) then some 1 else ((Fishref2nodeFault.loop3 (Fishref2nodeFault fu) x0.Kids).bind fun q137 => match q137 with | .ret r => some r | .next () => some 0))))))))))
def Fishref2CondFault (fu : Nat) (x0 : FareCond) : Option Int := ((Fishref2shape_v1 fu x0 40).bind fun q53 => (bnd ((if decide (q53.2 < 0) then true else decide (q53.1 > 6)) : Bool) fun q59 => (if q59 then some 4 else ((Fishref2nodeFault fu x0).bind fun q63 => some q63))))
def Fishref2TariffFault.loop1 (x0 : FareTariff) : (List FareBand) → Nat → Option (Out Int Unit)
  | [], _ => some (.next ())
  | x63 :: rest64, k62 => (bnd ((if !(Fishref2within x63.Upto 1 1000) then true else !(Fishref2within x63.Price 0 100000)) : Bool) fun q81 => (if q81 then some (.ret 2) else (((if decide (((k62 : Nat) : Int) > 0) then ((gx x0.Bands (w64 (((k62 : Nat) : Int) - 1))).bind fun x92 => (if decide (x63.Upto ≤ x92.Upto) then some true else ((gx x0.Bands (w64 (((k62 : Nat) : Int) - 1))).bind fun x102 => some (decide (x63.Price < x102.Price))))) else some false) : Option Bool).bind fun q89 => (if q89 then some (.ret 1) else Fishref2TariffFault.loop1 x0 rest64 (k62 + 1)))))
def Fishref2TariffFault.loop2 (fu : Nat) : (List FareRule) → Option (Out Int Unit)
  | [] => some (.next ())
  | x116 :: rest117 => ((Fishref2CondFault fu x116.If).bind fun q133 => (if (q133 != 0) then some (.ret q133) else (if !(Fishref2within x116.Do 1 6) then some (.ret 15) else (bnd ((if (x116.Do == 1) then 200 else 100000) : Int) fun q141 => (if !(Fishref2within x116.N 0 q141) then some (.ret 2) else Fishref2TariffFault.loop2 fu rest117)))))
def Fishref2TariffFault (fu : Nat) (x0 : FareTariff) : Option Int := (bnd ((if !(Fishref2within ((x0.Bands).length : Int) 1 8) then true else decide (((x0.Rules).length : Int) > 20)) : Bool) fun q56 => (if q56 then some 4 else ((Fishref2TariffFault.loop1 x0 x0.Bands 0).bind fun q61 => match q61 with | .ret r => some r | .next () => (if !(Fishref2within x0.Round 1 100) then some 2 else ((Fishref2TariffFault.loop2 fu x0.Rules).bind fun q114 => match q114 with | .ret r => some r | .next () => some 0)))))
def Fishref2ReadTariff (fu : Nat) (x0 : ByteArray) : Option (FareTariff × Int) := (if decide (((x0.size : Nat) : Int) > 65536) then some ((FareTariff.mk false [] 0 []), 4) else ((Fishref2tariffOf fu x0).bind fun q53 => (if !q53.2 then some ((FareTariff.mk false [] 0 []), 10) else ((Fishref2TariffFault fu q53.1).bind fun q67 => (if (q67 != 0) then some ((FareTariff.mk false [] 0 []), q67) else some (q53.1, 0))))))
def FarecheckZones.loop1 (x0 : List Int) (x1 : Bool) : (List Int) → Nat → Option (Out Int Unit)
  | [], _ => some (.next ())
  | x54 :: rest55, k53 => (if !(Farewithin x54 0 19) then some (.ret 2) else (((if decide (((k53 : Nat) : Int) > 0) then ((gx x0 (w64 (((k53 : Nat) : Int) - 1))).bind fun x75 => (if (x54 == x75) then some true else (if x1 then ((gx x0 (w64 (((k53 : Nat) : Int) - 1))).bind fun x86 => some (decide (x54 < x86))) else some false))) else some false) : Option Bool).bind fun q72 => (if q72 then some (.ret 1) else FarecheckZones.loop1 x0 x1 rest55 (k53 + 1))))
def FarecheckZones (x0 : List Int) (x1 : Bool) : Option Int := ((FarecheckZones.loop1 x0 x1 x0 0).bind fun q52 => match q52 with | .ret r => some r | .next () => some 0)
def FareCheckTrip (x0 : FareTrip) : Option Int := (bnd ((if !(Farewithin x0.Day 0 6) then true else (if !(Farewithin x0.At 0 28800) then true else (if !(Farewithin x0.Km 0 1000) then true else !(Farewithin x0.Age 0 120)))) : Bool) fun q56 => (if q56 then some 2 else (if !(Farewithin ((x0.Zones).length : Int) 1 10) then some 4 else ((FarecheckZones x0.Zones false).bind fun q63 => some q63))))
def FareTariffprice_1_v1 (x0 : FareBand) (y0 : Int) : Bool := decide (x0.Upto ≥ y0)
def SlicesIndexFuncLfareBand_v1.loop1 (y0 : Int) : (List FareBand) → Nat → Out Int Unit
  | [], _ => (.next ())
  | x54 :: rest55, k53 => (if (FareTariffprice_1_v1 x54 y0) then (.ret ((k53 : Nat) : Int)) else SlicesIndexFuncLfareBand_v1.loop1 y0 rest55 (k53 + 1))
def SlicesIndexFuncLfareBand_v1 (x0 : List FareBand) (y0 : Int) : Int := (bnd (SlicesIndexFuncLfareBand_v1.loop1 y0 x0 0) fun q52 => match q52 with | .ret r => r | .next () => (-1))
def FareCondholds_1_v1 (x0 : Int) (y0 : FareCond) : Bool := (Farewithin x0 y0.A y0.B)
def SlicesIndexLint.loop1 (x1 : Int) : (List Int) → Nat → Out Int Unit
  | [], _ => (.next ())
  | x54 :: rest55, k53 => (if (x1 == x54) then (.ret ((k53 : Nat) : Int)) else SlicesIndexLint.loop1 x1 rest55 (k53 + 1))
def SlicesIndexLint (x0 : List Int) (x1 : Int) : Int := (bnd (SlicesIndexLint.loop1 x1 x0 0) fun q52 => match q52 with | .ret r => r | .next () => (-1))
def SlicesContainsLint (x0 : List Int) (x1 : Int) : Bool := decide ((SlicesIndexLint x0 x1) ≥ 0)
def FareCondholds_2_v1 (self_FareCondholds : FareCond → FareTrip → Option Bool) (x0 : FareCond) (y0 : FareTrip) : Option Bool := ((self_FareCondholds x0 y0).bind fun q52 => some !q52)
def SlicesIndexFuncLfareCond_v1.loop1 (y0 : FareTrip) (self_FareCondholds : FareCond → FareTrip → Option Bool) : (List FareCond) → Nat → Option (Out Int Unit)
  | [], _ => some (.next ())
  | x54 :: rest55, k53 => ((FareCondholds_2_v1 self_FareCondholds x54 y0).bind fun q70 => (if q70 then some (.ret ((k53 : Nat) : Int)) else SlicesIndexFuncLfareCond_v1.loop1 y0 self_FareCondholds rest55 (k53 + 1)))
def SlicesIndexFuncLfareCond_v1 (self_FareCondholds : FareCond → FareTrip → Option Bool) (x0 : List FareCond) (y0 : FareTrip) : Option Int := ((SlicesIndexFuncLfareCond_v1.loop1 y0 self_FareCondholds x0 0).bind fun q52 => match q52 with | .ret r => some r | .next () => some (-1))
def SlicesContainsFuncLfareCond_v1 (self_FareCondholds : FareCond → FareTrip → Option Bool) (x0 : List FareCond) (y0 : FareTrip) : Option Bool := ((SlicesIndexFuncLfareCond_v1 self_FareCondholds x0 y0).bind fun q51 => some (decide (q51 ≥ 0)))
def FareCondholds_3_v1 (self_FareCondholds : FareCond → FareTrip → Option Bool) (x0 : FareCond) (y0 : FareTrip) : Option Bool := ((self_FareCondholds x0 y0).bind fun q52 => some q52)
def SlicesIndexFuncLfareCond_v2.loop1 (y0 : FareTrip) (self_FareCondholds : FareCond → FareTrip → Option Bool) : (List FareCond) → Nat → Option (Out Int Unit)
  | [], _ => some (.next ())
  | x54 :: rest55, k53 => ((FareCondholds_3_v1 self_FareCondholds x54 y0).bind fun q70 => (if q70 then some (.ret ((k53 : Nat) : Int)) else SlicesIndexFuncLfareCond_v2.loop1 y0 self_FareCondholds rest55 (k53 + 1)))
def SlicesIndexFuncLfareCond_v2 (self_FareCondholds : FareCond → FareTrip → Option Bool) (x0 : List FareCond) (y0 : FareTrip) : Option Int := ((SlicesIndexFuncLfareCond_v2.loop1 y0 self_FareCondholds x0 0).bind fun q52 => match q52 with | .ret r => some r | .next () => some (-1))
def SlicesContainsFuncLfareCond_v2 (self_FareCondholds : FareCond → FareTrip → Option Bool) (x0 : List FareCond) (y0 : FareTrip) : Option Bool := ((SlicesIndexFuncLfareCond_v2 self_FareCondholds x0 y0).bind fun q51 => some (decide (q51 ≥ 0)))
def FareCondholds : Nat → FareCond → FareTrip → Option Bool
  | 0, _, _ => none
  | fu + 1, x0, x1 => (if (x0.Kind == 1) then some x1.Card else (if (x0.Kind == 2) then some (FareCondholds_1_v1 x1.Age x0) else (if (x0.Kind == 3) then some (FareCondholds_1_v1 x1.At x0) else (if (x0.Kind == 4) then some (FareCondholds_1_v1 x1.Km x0) else (if (x0.Kind == 5) then some (FareCondholds_1_v1 ((x1.Zones).length : Int) x0) else (if (x0.Kind == 6) then some (SlicesContainsLint x1.Zones x0.A) else (if (x0.Kind == 7) then ((gx x1.Zones 0).bind fun x60 => some (x60 == x0.A)) else (if (x0.Kind == 8) then ((gx x1.Zones (w64 (((x1.Zones).length : Int) - 1))).bind fun x70 => some (x70 == x0.A)) else (if (x0.Kind == 9) then ((gx x0.Kids 0).bind fun x80 => (((FareCondholds fu) x80 x1).bind fun q92 => some !q92)) else (if (x0.Kind == 10) then ((SlicesContainsFuncLfareCond_v1 (FareCondholds fu) x0.Kids x1).bind fun q95 => some !q95) else (if (x0.Kind == 11) then ((SlicesContainsFuncLfareCond_v2 (FareCondholds fu) x0.Kids x1).bind fun q98 => some q98) else some true)))))))))))
def FareRulechange (x0 : FareRule) (x1 : Int) : Int := (if (x0.Do == 1) then mn 100000 (w64 (Int.tdiv (w64 (x1 * x0.N)) 100)) else (if (x0.Do == 2) then mx 0 (w64 (x1 - x0.N)) else (if (x0.Do == 3) then mn 100000 (w64 (x1 + x0.N)) else (if (x0.Do == 4) then x0.N else (if (x0.Do == 5) then mn x1 x0.N else mx x1 x0.N)))))
def FareTariffprice.loop1 (x1 : FareTrip) (fu : Nat) : (List FareRule) → Nat → Int → (List Int) → Option (Int × (List Int))
  | [], _, q89, q90 => some (q89, q90)
  | x81 :: rest82, k80, q89, q90 => ((FareCondholds fu x81.If x1).bind fun q106 => (if !q106 then FareTariffprice.loop1 x1 fu rest82 (k80 + 1) q89 q90 else ((apd q90 [((k80 : Nat) : Int)]).bind fun x110 => (if x81.Stop then some ((FareRulechange x81 q89), x110) else FareTariffprice.loop1 x1 fu rest82 (k80 + 1) (FareRulechange x81 q89) x110))))
def FareTariffprice (fu : Nat) (x0 : FareTariff) (x1 : FareTrip) : Option (Int × (List Int)) := (bnd ((if x0.ByKm then x1.Km else ((x1.Zones).length : Int)) : Int) fun q58 => (bnd ((if decide ((SlicesIndexFuncLfareBand_v1 x0.Bands q58) < 0) then w64 (((x0.Bands).length : Int) - 1) else (SlicesIndexFuncLfareBand_v1 x0.Bands q58)) : Int) fun q65 => ((gx x0.Bands q65).bind fun x68 => ((FareTariffprice.loop1 x1 fu x0.Rules 0 x68.Price []).bind fun q79 => match q79 with | (q89, q90) => ((dv (w64 ((w64 (q89 + x0.Round)) - 1)) x0.Round).bind fun x117 => some (w64 (x117 * x0.Round), q90))))))
def FarePrice (fu : Nat) (x0 : FareTariff) (x1 : FareTrip) : Option (Int × (List Int) × Int) := ((FareCheckTariff fu x0).bind fun q53 => (if (q53 != 0) then some (0, [], q53) else ((FareCheckTrip x1).bind fun q57 => (if (q57 != 0) then some (0, [], q57) else ((FareTariffprice fu x0 x1).bind fun q61 => some (q61.1, q61.2, 0))))))
def SlicesEqualLint.loop1 (x1 : List Int) : (List Int) → Nat → Option (Out Bool Unit)
  | [], _ => some (.next ())
  | x55 :: rest56, k54 => ((gx x1 ((k54 : Nat) : Int)).bind fun x68 => (if (x55 != x68) then some (.ret false) else SlicesEqualLint.loop1 x1 rest56 (k54 + 1)))
def SlicesEqualLint (x0 : List Int) (x1 : List Int) : Option Bool := (if (((x0).length : Int) != ((x1).length : Int)) then some false else ((SlicesEqualLint.loop1 x1 x0 0).bind fun q53 => match q53 with | .ret r => some r | .next () => some true))
def Fishlaw2fares (fu : Nat) : Option Bool := ((FarePrice fu (FareTariff.mk false [(FareBand.mk 3 500)] 50 [(FareRule.mk (FareCond.mk 2 0 14 []) 1 50 false)]) (FareTrip.mk 0 0 0 10 false [1, 2])).bind fun q70 => (((if (q70.2.2 == 0) then (if (q70.1 == 250) then ((SlicesEqualLint q70.2.1 [0]).bind fun q92 => some q92) else some false) else some false) : Option Bool).bind fun q82 => some q82))
def SlicesEqualLfareBand.loop1 (x1 : List FareBand) : (List FareBand) → Nat → Option (Out Bool Unit)
  | [], _ => some (.next ())
  | x55 :: rest56, k54 => ((gx x1 ((k54 : Nat) : Int)).bind fun x68 => (if !((x55.Upto == x68.Upto) && (x55.Price == x68.Price)) then some (.ret false) else SlicesEqualLfareBand.loop1 x1 rest56 (k54 + 1)))
def SlicesEqualLfareBand (x0 : List FareBand) (x1 : List FareBand) : Option Bool := (if (((x0).length : Int) != ((x1).length : Int)) then some false else ((SlicesEqualLfareBand.loop1 x1 x0 0).bind fun q53 => match q53 with | .ret r => some r | .next () => some true))
def SlicesEqualFuncLfareCond_v2.loop1 (x1 : List FareCond) (self_Fishref2SameCond : FareCond → FareCond → Option Bool) : (List FareCond) → Nat → Option (Out Bool Unit)
  | [], _ => some (.next ())
  | x55 :: rest56, k54 => ((gx x1 ((k54 : Nat) : Int)).bind fun x72 => ((self_Fishref2SameCond x55 x72).bind fun q85 => (if !q85 then some (.ret false) else SlicesEqualFuncLfareCond_v2.loop1 x1 self_Fishref2SameCond rest56 (k54 + 1))))
def SlicesEqualFuncLfareCond_v2 (self_Fishref2SameCond : FareCond → FareCond → Option Bool) (x0 : List FareCond) (x1 : List FareCond) : Option Bool := (if (((x0).length : Int) != ((x1).length : Int)) then some false else ((SlicesEqualFuncLfareCond_v2.loop1 x1 self_Fishref2SameCond x0 0).bind fun q53 => match q53 with | .ret r => some r | .next () => some true))
def Fishref2SameCond : Nat → FareCond → FareCond → Option Bool
  | 0, _, _ => none
  | fu + 1, x0, x1 => (((if (x0.Kind == x1.Kind) then (if (x0.A == x1.A) then (if (x0.B == x1.B) then ((SlicesEqualFuncLfareCond_v2 (Fishref2SameCond fu) x0.Kids x1.Kids).bind fun q62 => some q62) else some false) else some false) else some false) : Option Bool).bind fun q57 => some q57)
def Fishref2SameTariff_1 (fu : Nat) (x0 : FareRule) (x1 : FareRule) : Option Bool := (((if (x0.Do == x1.Do) then (if (x0.N == x1.N) then (if (x0.Stop == x1.Stop) then ((Fishref2SameCond fu x0.If x1.If).bind fun q62 => some q62) else some false) else some false) else some false) : Option Bool).bind fun q57 => some q57)
def SlicesEqualFuncLfareRule_v1.loop1 (x1 : List FareRule) (fu : Nat) : (List FareRule) → Nat → Option (Out Bool Unit)
  | [], _ => some (.next ())
  | x55 :: rest56, k54 => ((gx x1 ((k54 : Nat) : Int)).bind fun x72 => ((Fishref2SameTariff_1 fu x55 x72).bind fun q85 => (if !q85 then some (.ret false) else SlicesEqualFuncLfareRule_v1.loop1 x1 fu rest56 (k54 + 1))))
def SlicesEqualFuncLfareRule_v1 (fu : Nat) (x0 : List FareRule) (x1 : List FareRule) : Option Bool := (if (((x0).length : Int) != ((x1).length : Int)) then some false else ((SlicesEqualFuncLfareRule_v1.loop1 x1 fu x0 0).bind fun q53 => match q53 with | .ret r => some r | .next () => some true))
def Fishref2SameTariff (fu : Nat) (x0 : FareTariff) (x1 : FareTariff) : Option Bool := (((if (x0.ByKm == x1.ByKm) then (if (x0.Round == x1.Round) then ((SlicesEqualLfareBand x0.Bands x1.Bands).bind fun q61 => (if q61 then ((SlicesEqualFuncLfareRule_v1 fu x0.Rules x1.Rules).bind fun q64 => some q64) else some false)) else some false) else some false) : Option Bool).bind fun q57 => some q57)
def Fishlaw2FareReads (fu : Nat) (x0 : ByteArray) : Option Bool := ((FareRead fu x0).bind fun q51 => ((Fishref2ReadTariff fu x0).bind fun q64 => ((((Fishlaw2fares fu).bind fun q83 => (if q83 then (if (q51.2 == q64.2) then ((Fishref2SameTariff fu q51.1 q64.1).bind fun q87 => some q87) else some false) else some false)) : Option Bool).bind fun q81 => some q81)))
end Go.Fp
