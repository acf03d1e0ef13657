/- The mirrors of the functions that GuideDesks reaches: plain Lean functions on data. No condition. -/
import Derived.Test.YthllfhmpjclplaaGreatDoorFpSb
import Derived.Test.YthllfhmpjclplaaGreatDoorFpPlc
import Derived.RangeFuncBox
import Derived.Shelf.Abstract
import Derived.WalkKit
import Derived.OwnWalkIn
import Derived.TacticsInMore
import Derived.LoopNIn
import Derived.LoopIn
import Derived.Maps.AppendAt
import Derived.Test.YthllfhmpjclplaaGreatDoorFpSort
import Derived.Test.YthllfhmpjclplaaGreatDoorFpTab
import Derived.Test.YthllfhmpjclplaaGreatDoorFpGrowX
import Derived.Test.YthllfhmpjclplaaGreatDoorFpInD
import Derived.Test.YthllfhmpjclplaaGreatDoorFpObj
import Derived.Test.YthllfhmpjclplaaGreatDoorFpMaps
import Derived.Test.YthllfhmpjclplaaGreatDoorFpOrc
open List renaming set → b4Y
namespace Go.Fp
structure B9 where
  Station : Int
  Track : Int
  Arr : Int
  Dep : Int
  deriving DecidableEq, Inhabited
-- B9 is of one size
def a1h (x : B9) : Prop := inI x.Station ∧ inI x.Track ∧ inI x.Arr ∧ inI x.Dep
def B9.cells (x : B9) : List Go.Value := [.int .i64 x.Station, .int .i64 x.Track, .int .i64 x.Arr, .int .i64 x.Dep]
def I9 : Rd B9 := fun _ cs x => cs = x.cells
theorem I9.mono : O7 I9 := fun _ _ _ _ _ h => h
theorem I9.one : a1F I9 := by intro s cs x h; subst h; rfl

structure B1 where
  No : Int
  Stock : Int
  Stops : List B9
  Legs : List (List Int)
  deriving DecidableEq, Inhabited
def a1q (x : B1) : Nat := (szL sz1) x.Stops + (szL (szL sz1)) x.Legs + 1
def a0r (x : B1) : Prop := inI x.No ∧ inI x.Stock ∧ (inL a1h) x.Stops ∧ (inL (inL inI)) x.Legs
def A7 : Rd B1 := fun s cs x => ∃ a0 c0 a1 c1, cs = [.int .i64 x.No, .int .i64 x.Stock, .slice a0 x.Stops.length c0, .slice a1 x.Legs.length c1] ∧ Sl 4 I9 s a0 c0 x.Stops ∧ Sl 1 (RL 1 (RI .i64)) s a1 c1 x.Legs
theorem A7.one : a1F A7 := by rintro s cs x ⟨a0, c0, a1, c1, rfl, _⟩; rfl
theorem A7.mono : O7 A7 := fun _ _ h _ _ ⟨a0, c0, a1, c1, e, h0, h1⟩ => ⟨a0, c0, a1, c1, e, h0.mono I9.mono h, h1.mono (RL.mono RI.mono) h⟩

structure B0 where
  Trains : List B1
  Turns : List (List Int)
  deriving DecidableEq, Inhabited
def a1J (x : B0) : Nat := (szL a1q) x.Trains + (szL (szL sz1)) x.Turns + 1
def S5 (x : B0) : Prop := (inL a0r) x.Trains ∧ (inL (inL inI)) x.Turns
def S6 : Rd B0 := fun s cs x => ∃ a0 c0 a1 c1, cs = [.slice a0 x.Trains.length c0, .slice a1 x.Turns.length c1] ∧ Sl 4 A7 s a0 c0 x.Trains ∧ Sl 1 (RL 1 (RI .i64)) s a1 c1 x.Turns
theorem S6.one : a1F S6 := by rintro s cs x ⟨a0, c0, a1, c1, rfl, _⟩; rfl
theorem S6.mono : O7 S6 := fun _ _ h _ _ ⟨a0, c0, a1, c1, e, h0, h1⟩ => ⟨a0, c0, a1, c1, e, h0.mono A7.mono h, h1.mono (RL.mono RI.mono) h⟩

structure M6 where
  f0 : Int
  f1 : Int
  f2 : Int
  deriving DecidableEq, Inhabited
-- M6 is of one size
def M6.cells (x : M6) : List Go.Value := [.int .i64 x.f0, .int .i64 x.f1, .int .i64 x.f2]
def a1w : Rd M6 := fun _ cs x => cs = x.cells
theorem a1w.mono : O7 a1w := fun _ _ _ _ _ h => h
theorem a1w.one : a1F a1w := by intro s cs x h; subst h; rfl

structure A1 where
  Train : Int
  On : Int
  Off : Int
  deriving DecidableEq, Inhabited
-- A1 is of one size
def a2h (x : A1) : Prop := inI x.Train ∧ inI x.On ∧ inI x.Off
def A1.cells (x : A1) : List Go.Value := [.int .i64 x.Train, .int .i64 x.On, .int .i64 x.Off]
def A8 : Rd A1 := fun _ cs x => cs = x.cells
theorem A8.mono : O7 A8 := fun _ _ _ _ _ h => h
theorem A8.one : a1F A8 := by intro s cs x h; subst h; rfl

structure A3 where
  Rides : List A1
  deriving DecidableEq, Inhabited
def X0 (x : A3) : Nat := (szL sz1) x.Rides + 1
def a0E (x : A3) : Prop := (inL a2h) x.Rides
def D9 : Rd A3 := fun s cs x => ∃ a0 c0, cs = [.slice a0 x.Rides.length c0] ∧ Sl 3 A8 s a0 c0 x.Rides
theorem D9.one : a1F D9 := by rintro s cs x ⟨a0, c0, rfl, _⟩; rfl
theorem D9.mono : O7 D9 := fun _ _ h _ _ ⟨a0, c0, e, h0⟩ => ⟨a0, c0, e, h0.mono A8.mono h⟩

structure C2 where
  From : Int
  To : Int
  Dep : Int
  Arr : Int
  State : Int
  Journey : A3
  deriving DecidableEq, Inhabited
def H0 : Rd C2 := fun s cs x => ∃ a0 c0, cs = [.int .i64 x.From, .int .i64 x.To, .int .i64 x.Dep, .int .i64 x.Arr, .int .i64 x.State, .slice a0 x.Journey.Rides.length c0] ∧ Sl 3 A8 s a0 c0 x.Journey.Rides
theorem H0.one : a1F H0 := by rintro s cs x ⟨a0, c0, rfl, _⟩; rfl
theorem H0.mono : O7 H0 := fun _ _ h _ _ ⟨a0, c0, e, h0⟩ => ⟨a0, c0, e, h0.mono A8.mono h⟩

structure C4 where
  Promise : C2
  over : List Bool
  came : List Int
  offs : List Int
  place : Int
  when : Int
  deriving DecidableEq, Inhabited
def Q1 : Rd C4 := fun s cs x => ∃ a0 c0 a1 c1 a2 c2 a3 c3, cs = [.int .i64 x.Promise.From, .int .i64 x.Promise.To, .int .i64 x.Promise.Dep, .int .i64 x.Promise.Arr, .int .i64 x.Promise.State, .slice a0 x.Promise.Journey.Rides.length c0, .slice a1 x.over.length c1, .slice a2 x.came.length c2, .slice a3 x.offs.length c3, .int .i64 x.place, .int .i64 x.when] ∧ Sl 3 A8 s a0 c0 x.Promise.Journey.Rides ∧ Sl 1 RB s a1 c1 x.over ∧ Sl 1 (RI .i64) s a2 c2 x.came ∧ Sl 1 (RI .i64) s a3 c3 x.offs
theorem Q1.one : a1F Q1 := by rintro s cs x ⟨a0, c0, a1, c1, a2, c2, a3, c3, rfl, _⟩; rfl
theorem Q1.mono : O7 Q1 := fun _ _ h _ _ ⟨a0, c0, a1, c1, a2, c2, a3, c3, e, h0, h1, h2, h3⟩ => ⟨a0, c0, a1, c1, a2, c2, a3, c3, e, h0.mono A8.mono h, h1.mono RB.mono h, h2.mono RI.mono h, h3.mono RI.mono h⟩

structure A4 where
  At : Int
  Promise : Int
  Ride : Int
  Kind : Int
  Value : Int
  deriving DecidableEq, Inhabited
-- A4 is of one size
def A4.cells (x : A4) : List Go.Value := [.int .i64 x.At, .int .i64 x.Promise, .int .i64 x.Ride, .int .i64 x.Kind, .int .i64 x.Value]
def A5 : Rd A4 := fun _ cs x => cs = x.cells
theorem A5.mono : O7 A5 := fun _ _ _ _ _ h => h
theorem A5.one : a1F A5 := by intro s cs x h; subst h; rfl

structure F3 where
  Newest : B0
  Least : Int
  Time : Int
  sold : List C4
  Told : List A4
  deriving DecidableEq, Inhabited
def Q4 : Rd F3 := fun s cs x => ∃ a0 c0 a1 c1 a2 c2 a3 c3, cs = [.slice a0 x.Newest.Trains.length c0, .slice a1 x.Newest.Turns.length c1, .int .i64 x.Least, .int .i64 x.Time, .slice a2 x.sold.length c2, .slice a3 x.Told.length c3] ∧ Sl 4 A7 s a0 c0 x.Newest.Trains ∧ Sl 1 (RL 1 (RI .i64)) s a1 c1 x.Newest.Turns ∧ Sl 1 (RO : Rd C4) s a2 c2 x.sold ∧ Sl 5 A5 s a3 c3 x.Told
theorem Q4.one : a1F Q4 := by rintro s cs x ⟨a0, c0, a1, c1, a2, c2, a3, c3, rfl, _⟩; rfl
theorem Q4.mono : O7 Q4 := fun _ _ h _ _ ⟨a0, c0, a1, c1, a2, c2, a3, c3, e, h0, h1, h2, h3⟩ => ⟨a0, c0, a1, c1, a2, c2, a3, c3, e, h0.mono A7.mono h, h1.mono (RL.mono RI.mono) h, h2.mono RO.mono h, h3.mono A5.mono h⟩

structure D7 where
  Day : B0
  least : Int
  deriving DecidableEq, Inhabited
def N8 : Rd D7 := fun s cs x => ∃ a0 c0 a1 c1, cs = [.slice a0 x.Day.Trains.length c0, .slice a1 x.Day.Turns.length c1, .int .i64 x.least] ∧ Sl 4 A7 s a0 c0 x.Day.Trains ∧ Sl 1 (RL 1 (RI .i64)) s a1 c1 x.Day.Turns
theorem N8.one : a1F N8 := by rintro s cs x ⟨a0, c0, a1, c1, rfl, _⟩; rfl
theorem N8.mono : O7 N8 := fun _ _ h _ _ ⟨a0, c0, a1, c1, e, h0, h1⟩ => ⟨a0, c0, a1, c1, e, h0.mono A7.mono h, h1.mono (RL.mono RI.mono) h⟩

structure C5 where
  Promise : C2
  over : List Bool
  arrived : List Int
  ends : List Int
  station : Int
  when : Int
  deriving DecidableEq, Inhabited
def M0 : Rd C5 := fun s cs x => ∃ a0 c0 a1 c1 a2 c2 a3 c3, cs = [.int .i64 x.Promise.From, .int .i64 x.Promise.To, .int .i64 x.Promise.Dep, .int .i64 x.Promise.Arr, .int .i64 x.Promise.State, .slice a0 x.Promise.Journey.Rides.length c0, .slice a1 x.over.length c1, .slice a2 x.arrived.length c2, .slice a3 x.ends.length c3, .int .i64 x.station, .int .i64 x.when] ∧ Sl 3 A8 s a0 c0 x.Promise.Journey.Rides ∧ Sl 1 RB s a1 c1 x.over ∧ Sl 1 (RI .i64) s a2 c2 x.arrived ∧ Sl 1 (RI .i64) s a3 c3 x.ends
theorem M0.one : a1F M0 := by rintro s cs x ⟨a0, c0, a1, c1, a2, c2, a3, c3, rfl, _⟩; rfl
theorem M0.mono : O7 M0 := fun _ _ h _ _ ⟨a0, c0, a1, c1, a2, c2, a3, c3, e, h0, h1, h2, h3⟩ => ⟨a0, c0, a1, c1, a2, c2, a3, c3, e, h0.mono A8.mono h, h1.mono RB.mono h, h2.mono RI.mono h, h3.mono RI.mono h⟩

structure G3 where
  net : D7
  time : Int
  promises : List C5
  messages : List A4
  deriving DecidableEq, Inhabited
def U5 : Rd G3 := fun s cs x => ∃ a0 c0 a1 c1 a2 c2 a3 c3, cs = [.slice a0 x.net.Day.Trains.length c0, .slice a1 x.net.Day.Turns.length c1, .int .i64 x.net.least, .int .i64 x.time, .slice a2 x.promises.length c2, .slice a3 x.messages.length c3] ∧ Sl 4 A7 s a0 c0 x.net.Day.Trains ∧ Sl 1 (RL 1 (RI .i64)) s a1 c1 x.net.Day.Turns ∧ Sl 11 M0 s a2 c2 x.promises ∧ Sl 5 A5 s a3 c3 x.messages
theorem U5.one : a1F U5 := by rintro s cs x ⟨a0, c0, a1, c1, a2, c2, a3, c3, rfl, _⟩; rfl
theorem U5.mono : O7 U5 := fun _ _ h _ _ ⟨a0, c0, a1, c1, a2, c2, a3, c3, e, h0, h1, h2, h3⟩ => ⟨a0, c0, a1, c1, a2, c2, a3, c3, e, h0.mono A7.mono h, h1.mono (RL.mono RI.mono) h, h2.mono M0.mono h, h3.mono A5.mono h⟩

structure F8 where
  train : Int
  off : Int
  deriving DecidableEq, Inhabited
-- F8 is of one size
def F8.cells (x : F8) : List Go.Value := [.int .i64 x.train, .int .i64 x.off]
def T1 : Rd F8 := fun _ cs x => cs = x.cells
theorem T1.mono : O7 T1 := fun _ _ _ _ _ h => h
theorem T1.one : a1F T1 := by intro s cs x h; subst h; rfl

structure A2 where
  Dep : Int
  Arr : Int
  Rides : Int
  deriving DecidableEq, Inhabited
-- A2 is of one size
def A2.cells (x : A2) : List Go.Value := [.int .i64 x.Dep, .int .i64 x.Arr, .int .i64 x.Rides]
def G8 : Rd A2 := fun _ cs x => cs = x.cells
theorem G8.mono : O7 G8 := fun _ _ _ _ _ h => h
theorem G8.one : a1F G8 := by intro s cs x h; subst h; rfl
def F1.loop2 : (List (List Int)) → Out Int Unit
  | [] => (.next ())
  | b :: a => (if (((b).length : Int) == 0) then (.ret 1) else F1.loop2 a)
def F1.loop3 : (List (List Int)) → Out Int Unit
  | [] => (.next ())
  | b :: a => (if decide (((b).length : Int) > 4) then (.ret 4) else F1.loop3 a)
def F1.loop1 : (List B1) → Out Int Unit
  | [] => (.next ())
  | a :: b => (bnd ((if (((a.Stops).length : Int) == 0) then true else (((a.Legs).length : Int) != (w64 (((a.Stops).length : Int) - 1)))) : Bool) fun d => (if d then (.ret 1) else (bnd (F1.loop2 a.Legs) fun e => match e with | .ret r => (.ret r) | .next () => (if decide (((a.Stops).length : Int) > 8) then (.ret 4) else (bnd (F1.loop3 a.Legs) fun c => match c with | .ret r => (.ret r) | .next () => F1.loop1 b)))))
def F1.loop4 : (List (List Int)) → Out Int Unit
  | [] => (.next ())
  | b :: a => (if (((b).length : Int) == 0) then (.ret 1) else (if decide (((b).length : Int) > 12) then (.ret 4) else F1.loop4 a))
def F1 (x0 : B0) : Int := (bnd ((if decide (((x0.Trains).length : Int) > 12) then true else decide (((x0.Turns).length : Int) > 8)) : Bool) fun b => (if b then 4 else (bnd (F1.loop1 x0.Trains) fun c => match c with | .ret r => r | .next () => (bnd (F1.loop4 x0.Turns) fun a => match a with | .ret r => r | .next () => 0))))
def U3 (x0 : Int) (x1 : Int) (x2 : Int) : Bool := (bnd ((if decide (x0 ≥ x1) then decide (x0 ≤ x2) else false) : Bool) fun a => a)
def K8.loop1 : (List Int) → ByteArray → Option ByteArray
  | [], a => some a
  | c :: b, a => ((itoa c).bind fun d => ((a8j (str [32]) d).bind fun e => ((a8j a e).bind fun f => K8.loop1 b f)))
def K8 (x0 : ByteArray) (x1 : List Int) : Option ByteArray := ((K8.loop1 x1 x0).bind fun a => ((a8j a (str [10])).bind fun b => some b))
def I3.loop1 : (List Int) → Bool → Bool
  | [], a => a
  | c :: b, a => (bnd ((if a then (U3 c 0 999999) else false) : Bool) fun d => I3.loop1 b d)
def I3 (x0 : ByteArray) (x1 : List Int) (y0 : Bool) (a : ByteArray) : Option (Bool × ByteArray) := (bnd (I3.loop1 x1 y0) fun b => ((K8 x0 x1).bind fun c => ((sbw a c).bind fun d => some (b, d))))
def I4.loop2 : (List B9) → ByteArray → Bool → Option (ByteArray × Bool)
  | [], c, a => some (c, a)
  | b :: d, c, a => ((I3 (str [115, 116, 111, 112]) [b.Station, b.Track, b.Arr, b.Dep] a c).bind fun e => I4.loop2 d e.2 e.1)
def I4.loop3 : (List (List Int)) → ByteArray → Bool → Option (ByteArray × Bool)
  | [], a, b => some (a, b)
  | e :: c, a, b => ((I3 (str [108, 101, 103]) e b a).bind fun d => I4.loop3 c d.2 d.1)
def I4.loop1 : (List B1) → ByteArray → Bool → Option (ByteArray × Bool)
  | [], b, c => some (b, c)
  | a :: d, b, c => ((I3 (str [116, 114, 97, 105, 110]) [a.No, a.Stock] c b).bind fun e => ((I4.loop2 a.Stops e.2 e.1).bind fun j => match j with | (k, f) => ((I4.loop3 a.Legs k f).bind fun g => match g with | (h, i) => I4.loop1 d h i)))
def I4.loop4 : (List (List Int)) → ByteArray → Bool → Option (ByteArray × Bool)
  | [], a, b => some (a, b)
  | e :: c, a, b => ((I3 (str [116, 117, 114, 110]) e b a).bind fun d => I4.loop4 c d.2 d.1)
def I4 (x0 : B0) : Option (ByteArray × Int) := (if ((F1 x0) != 0) then some ((str []), (F1 x0)) else ((I4.loop1 x0.Trains ByteArray.empty true).bind fun d => match d with | (e, f) => ((I4.loop4 x0.Turns e f).bind fun a => match a with | (b, c) => (if !c then some ((str []), 2) else some (b, 0)))))
def D5 (x0 : Int) (x1 : Int) (x2 : Int) : Bool := (bnd ((if decide (x0 ≥ x1) then decide (x0 ≤ x2) else false) : Bool) fun a => a)
def H9.loop2 (d : B1) : (List B9) → Nat → Option (Out Int Unit)
  | [], _ => some (.next ())
  | a :: b, c => (bnd ((if !(D5 a.Station 0 11) then true else (if !(D5 a.Arr 0 28800) then true else !(D5 a.Dep 0 28800))) : Bool) fun e => (if e then some (.ret 2) else (((if decide (a.Dep < a.Arr) then some true else (if decide (((c : Nat) : Int) > 0) then ((gx d.Stops (w64 (((c : Nat) : Int) - 1))).bind fun f => some (decide (a.Arr ≤ f.Dep))) else some false)) : Option Bool).bind fun g => (if g then some (.ret 5) else H9.loop2 d b (c + 1)))))
def H9.loop1 : (List B1) → (List (Int × Bool)) → Option (Out Int (List (Int × Bool)))
  | [], b => some (.next b)
  | a :: c, b => (if !(D5 a.No 1 9999) then some (.ret 2) else (if ((O2 b a.No).getD false) then some (.ret 6) else (if decide (((a.Stops).length : Int) < 2) then some (.ret 1) else ((H9.loop2 a a.Stops 0).bind fun d => match d with | .ret r => some (.ret r) | .next () => H9.loop1 c (O1 b a.No true)))))
def H9 (x0 : B0) : Option Int := ((I4 x0).bind fun a => (if (a.2 != 0) then some a.2 else ((H9.loop1 x0.Trains []).bind fun b => match b with | .ret r => some r | .next _ => some 0)))
def P5 (x0 : B0) (x1 : Int) : Option Int := ((H9 x0).bind fun a => (if (a != 0) then some a else (if !(D5 x1 0 28800) then some 2 else some 0)))
def L7 (x0 : List B1) : Option (List B1) := ((apd [] x0).bind fun a => some a)
def K6 (x0 : List (List Int)) : Option (List (List Int)) := ((apd [] x0).bind fun a => some a)
def M3 (x0 : List B9) : Option (List B9) := ((apd [] x0).bind fun a => some a)
def L3 (x0 : List Int) : Option (List Int) := ((apd [] x0).bind fun a => some a)
def J6.loop2 : Nat → Nat → (List (List Int)) → Option (List (List Int))
  | 0, _, a => some a
  | c + 1, b, a => ((gx a ((b : Nat) : Int)).bind fun d => ((L3 d).bind fun e => ((ix a ((b : Nat) : Int)).bind fun _ => ((sx a ((b : Nat) : Int) e).bind fun f => J6.loop2 c (b + 1) f))))
def J6.loop1 : Nat → Nat → (List B1) → Option (List B1)
  | 0, _, a => some a
  | c + 1, d, a => ((gx a ((d : Nat) : Int)).bind fun b => ((M3 b.Stops).bind fun f => ((K6 b.Legs).bind fun e => ((J6.loop2 e.length 0 e).bind fun g => J6.loop1 c (d + 1) (b4Y a ((((d : Nat) : Int)).toNat) (B1.mk b.No b.Stock f g))))))
def J6.loop3 : Nat → Nat → (List (List Int)) → Option (List (List Int))
  | 0, _, a => some a
  | c + 1, b, a => ((gx a ((b : Nat) : Int)).bind fun d => ((L3 d).bind fun e => ((ix a ((b : Nat) : Int)).bind fun _ => ((sx a ((b : Nat) : Int) e).bind fun f => J6.loop3 c (b + 1) f))))
def J6 (x0 : B0) : Option B0 := ((L7 x0.Trains).bind fun a => ((K6 x0.Turns).bind fun b => ((J6.loop1 a.length 0 a).bind fun d => ((J6.loop3 b.length 0 b).bind fun c => some (B0.mk d c)))))
def P7 (x0 : B0) (x1 : Int) : Option ((Option ((List B1) × (List (List Int)) × Int × Int × (List C5) × (List A4))) × Int) := ((P5 x0 x1).bind fun a => (if (a != 0) then some (none, a) else ((J6 x0).bind fun b => some ((some (b.Trains, b.Turns, x1, 0, ([] : List C5), [])), 0))))
def E5.loop2 : (List B9) → (List (List Int)) → Option (List (List Int))
  | [], a => some a
  | b :: c, a => ((apd a [[b.Station, b.Track, b.Arr, b.Dep]]).bind fun d => E5.loop2 c d)
def E5.loop1 : (List B1) → (List (List Int)) → Option (List (List Int))
  | [], b => some b
  | a :: c, b => ((apd b [[a.No, a.Stock]]).bind fun f => ((E5.loop2 a.Stops f).bind fun d => ((apd d a.Legs).bind fun e => E5.loop1 c e)))
def E5 (x0 : B0) : Option (List (List Int)) := ((E5.loop1 x0.Trains []).bind fun b => ((apd b x0.Turns).bind fun a => some a))
def C6 (x0 : Int) (x1 : Int) (x2 : Int) : Bool := (bnd ((if decide (x0 ≥ x1) then decide (x0 ≤ x2) else false) : Bool) fun a => a)
def A9.loop2 : (List (List Int)) → Out Int Unit
  | [] => (.next ())
  | b :: a => (if (((b).length : Int) == 0) then (.ret 1) else A9.loop2 a)
def A9.loop3 : (List (List Int)) → Out Int Unit
  | [] => (.next ())
  | b :: a => (if decide (((b).length : Int) > 4) then (.ret 4) else A9.loop3 a)
def A9.loop1 : (List B1) → Out Int Unit
  | [] => (.next ())
  | a :: b => (bnd ((if (((a.Stops).length : Int) == 0) then true else (((a.Legs).length : Int) != (w64 (((a.Stops).length : Int) - 1)))) : Bool) fun d => (if d then (.ret 1) else (bnd (A9.loop2 a.Legs) fun e => match e with | .ret r => (.ret r) | .next () => (if decide (((a.Stops).length : Int) > 8) then (.ret 4) else (bnd (A9.loop3 a.Legs) fun c => match c with | .ret r => (.ret r) | .next () => A9.loop1 b)))))
def A9.loop4 : (List (List Int)) → Out Int Unit
  | [] => (.next ())
  | b :: a => (if (((b).length : Int) == 0) then (.ret 1) else (if decide (((b).length : Int) > 12) then (.ret 4) else A9.loop4 a))
def A9.loop6 : (List Int) → Out Int Unit
  | [] => (.next ())
  | b :: a => (if !(C6 b 0 999999) then (.ret 2) else A9.loop6 a)
def A9.loop5 (b : (List (List Int))) : Nat → Nat → Option (Out Int Unit)
  | 0, _ => some (.next ())
  | a + 1, c => ((gx b ((c : Nat) : Int)).bind fun d => (bnd (A9.loop6 d) fun e => match e with | .ret r => some (.ret r) | .next () => A9.loop5 b a (c + 1)))
def A9 (x0 : B0) : Option Int := (bnd ((if decide (((x0.Trains).length : Int) > 12) then true else decide (((x0.Turns).length : Int) > 8)) : Bool) fun d => (if d then some 4 else (bnd (A9.loop1 x0.Trains) fun e => match e with | .ret r => some r | .next () => (bnd (A9.loop4 x0.Turns) fun b => match b with | .ret r => some r | .next () => ((E5 x0).bind fun a => ((A9.loop5 a a.length 0).bind fun c => match c with | .ret r => some r | .next () => some 0))))))
def C0.loop2 (b : B1) : (List B1) → Out Int Unit
  | [] => (.next ())
  | c :: a => (if (c.No == b.No) then (.ret 6) else C0.loop2 b a)
def C0.loop3 (d : B1) : (List B9) → Nat → Option (Out Int Unit)
  | [], _ => some (.next ())
  | a :: c, b => (bnd ((if !(C6 a.Station 0 11) then true else (if !(C6 a.Arr 0 28800) then true else !(C6 a.Dep 0 28800))) : Bool) fun e => (if e then some (.ret 2) else (((if decide (a.Dep < a.Arr) then some true else (if decide (((b : Nat) : Int) > 0) then ((gx d.Stops (w64 (((b : Nat) : Int) - 1))).bind fun f => some (decide (a.Arr ≤ f.Dep))) else some false)) : Option Bool).bind fun g => (if g then some (.ret 5) else C0.loop3 d c (b + 1)))))
def C0.loop1 (x0 : B0) : (List B1) → Nat → Option (Out Int Unit)
  | [], _ => some (.next ())
  | a :: b, c => (if !(C6 a.No 1 9999) then some (.ret 2) else ((a2M x0.Trains 0 ((c : Nat) : Int)).bind fun e => (bnd (C0.loop2 a e) fun f => match f with | .ret r => some (.ret r) | .next () => (if decide (((a.Stops).length : Int) < 2) then some (.ret 1) else ((C0.loop3 a a.Stops 0).bind fun d => match d with | .ret r => some (.ret r) | .next () => C0.loop1 x0 b (c + 1))))))
def C0 (x0 : B0) : Option Int := ((A9 x0).bind fun a => (if (a != 0) then some a else ((C0.loop1 x0 x0.Trains 0).bind fun b => match b with | .ret r => some r | .next () => some 0)))
def L4 (x0 : Int) (x1 : Int) (x2 : Int) : B9 := (B9.mk x0 0 x1 x2)
def J4 : B0 := (bnd (L4 0 100 100) fun a => (bnd (L4 1 200 230) fun b => (bnd (L4 2 300 300) fun c => (bnd (L4 1 250 250) fun d => (bnd (L4 3 400 400) fun e => (B0.mk [(B1.mk 1 0 [a, b, c] [[0], [1]]), (B1.mk 2 0 [d, e] [[2]])] []))))))
def N5 (y0 : G3) : Option B0 := ((J6 y0.net.Day).bind fun a => some a)
def H1.loop1 (x1 : List B9) : (List B9) → Nat → Option (Out Bool Unit)
  | [], _ => some (.next ())
  | a :: c, d => ((gx x1 ((d : Nat) : Int)).bind fun b => (if !((a.Station == b.Station) && ((a.Track == b.Track) && ((a.Arr == b.Arr) && (a.Dep == b.Dep)))) then some (.ret false) else H1.loop1 x1 c (d + 1)))
def H1 (x0 : List B9) (x1 : List B9) : Option Bool := (if (((x0).length : Int) != ((x1).length : Int)) then some false else ((H1.loop1 x1 x0 0).bind fun a => match a with | .ret r => some r | .next () => some true))
def J2.loop1 (x1 : List Int) : (List Int) → Nat → Option (Out Bool Unit)
  | [], _ => some (.next ())
  | c :: a, b => ((gx x1 ((b : Nat) : Int)).bind fun d => (if (c != d) then some (.ret false) else J2.loop1 x1 a (b + 1)))
def J2 (x0 : List Int) (x1 : List Int) : Option Bool := (if (((x0).length : Int) != ((x1).length : Int)) then some false else ((J2.loop1 x1 x0 0).bind fun a => match a with | .ret r => some r | .next () => some true))
def F2.loop1 (x1 : List (List Int)) : (List (List Int)) → Nat → Option (Out Bool Unit)
  | [], _ => some (.next ())
  | c :: a, b => ((gx x1 ((b : Nat) : Int)).bind fun d => ((J2 c d).bind fun e => (if !e then some (.ret false) else F2.loop1 x1 a (b + 1))))
def F2 (x0 : List (List Int)) (x1 : List (List Int)) : Option Bool := (if (((x0).length : Int) != ((x1).length : Int)) then some false else ((F2.loop1 x1 x0 0).bind fun a => match a with | .ret r => some r | .next () => some true))
def N9 (x0 : B1) (x1 : B1) : Option Bool := (((if (x0.No == x1.No) then (if (x0.Stock == x1.Stock) then ((H1 x0.Stops x1.Stops).bind fun a => (if a then ((F2 x0.Legs x1.Legs).bind fun b => some b) else some false)) else some false) else some false) : Option Bool).bind fun c => some c)
def E4.loop1 (x1 : List B1) : (List B1) → Nat → Option (Out Bool Unit)
  | [], _ => some (.next ())
  | c :: a, b => ((gx x1 ((b : Nat) : Int)).bind fun d => ((N9 c d).bind fun e => (if !e then some (.ret false) else E4.loop1 x1 a (b + 1))))
def E4 (x0 : List B1) (x1 : List B1) : Option Bool := (if (((x0).length : Int) != ((x1).length : Int)) then some false else ((E4.loop1 x1 x0 0).bind fun a => match a with | .ret r => some r | .next () => some true))
def N6 (x0 : B0) (x1 : B0) : Option Bool := ((((E4 x0.Trains x1.Trains).bind fun a => (if a then ((F2 x0.Turns x1.Turns).bind fun b => some b) else some false)) : Option Bool).bind fun c => some c)
def Q3 : Option Bool := (bnd (J4) fun f => ((P7 f 40).bind fun a => (match a.1 with | none => (bnd ((if (a.2 == 0) then false else false) : Bool) fun g => some g) | some d69 => (((if (a.2 == 0) then ((N5 (G3.mk (D7.mk (B0.mk d69.1 d69.2.1) d69.2.2.1) d69.2.2.2.1 d69.2.2.2.2.1 d69.2.2.2.2.2)).bind fun b => (bnd (J4) fun c => ((N6 b c).bind fun d => some d))) else some false) : Option Bool).bind fun e => some e))))

    def ridesF (t on : Nat) : Nat → Nat → List A1
      | 0, _ => []
      | r + 1, off => ⟨(t : Int), (on : Int), (off : Int)⟩ :: ridesF t on r (off + 1)
    def ridesS (station at_ : Int) (t len : Nat) : List B9 → Nat → List A1
      | [], _ => []
      | x :: r, on => (if x.Station ≠ station ∨ x.Dep < at_ then [] else ridesF t on (len - (on + 1)) (on + 1)) ++ ridesS station at_ t len r (on + 1)
    def ridesT (station at_ nt : Int) : List B1 → Nat → List A1
      | [], _ => []
      | x :: r, t => (if (t : Int) = nt then [] else ridesS station at_ t x.Stops.length x.Stops 0) ++ ridesT station at_ nt r (t + 1)
    
def Q2 (x0 : D7) (x1 : Int) (x2 : Int) (x3 : Int) : (List A1) := (ridesT x1 x2 x3 x0.Day.Trains 0)
def J0 (x0 : D7) (x1 : A1) : Option B9 := ((gx x0.Day.Trains x1.Train).bind fun a => ((gx a.Stops x1.On).bind fun b => some b))
def H8 (x0 : D7) (x1 : A1) : Option B9 := ((gx x0.Day.Trains x1.Train).bind fun a => ((gx a.Stops x1.Off).bind fun b => some b))
def P1 (x0 : D7) (x1 : A1) : Option (List A1) := ((H8 x0 x1).bind fun a => (bnd (Q2 x0 a.Station (w64 (a.Arr + x0.least)) x1.Train) fun b => some b))
def D2.loop1 : List A1 → (List A1) → Option (List A1)
  | [], a => some a
  | c :: b, a => ((apd a [c]).bind fun d => D2.loop1 b d)
def D2 (x0 : List A1) (x1 : List A1) : Option (List A1) := ((D2.loop1 x1 x0).bind fun a => some a)
def H2.loop2 (x0 : D7) (b : Nat) : (List A1) → (List A1) → (List (List (F8 × Bool))) → Option ((List A1) × (List (List (F8 × Bool))))
  | [], e, a => some (e, a)
  | c :: d, e, a => ((mgx 4 a ((b : Nat) : Int)).bind fun f => (if ((O2 f (F8.mk c.Train c.Off)).getD false) then H2.loop2 x0 b d e a else ((mgx 4 a ((b : Nat) : Int)).bind fun g => ((P1 x0 c).bind fun h => ((D2 e h).bind fun i => H2.loop2 x0 b d i (a.set ((((b : Nat) : Int)).toNat) (O1 g (F8.mk c.Train c.Off) true)))))))
def H2.loop1 (x0 : D7) : Nat → Nat → (List A1) → (List (List (F8 × Bool))) → Option ((List A1) × (List (List (F8 × Bool))))
  | 0, _, b, a => some (b, a)
  | c + 1, d, b, a => ((mst 4 a ((d : Nat) : Int)).bind fun _ => ((H2.loop2 x0 d b [] (a ++ [[]])).bind fun e => match e with | (f, g) => H2.loop1 x0 c (d + 1) f g))
def H2 (x0 : D7) (x1 : List A1) : Option (List (List (F8 × Bool))) := ((H2.loop1 x0 4 0 x1 []).bind fun b => match b with | (_, a) => ((a9A 4 a).bind fun _ => some a))
def N2 (x0 : Int) : Bool := (x0 != x0)
def B3 (x0 : Int) (x1 : Int) : Int := (if (N2 x0) then (if (N2 x1) then 0 else (-1)) else (if (N2 x1) then 1 else (if decide (x0 < x1) then (-1) else (if decide (x0 > x1) then 1 else 0))))
def M4.loop1 : (List Int) → Out Int Unit
  | [] => (.next ())
  | b :: a => (if (b != 0) then (.ret b) else M4.loop1 a)
def M4 (x0 : List Int) : Int := (bnd (M4.loop1 x0) fun a => match a with | .ret r => r | .next () => 0)
def H5 (x0 : A2) (x1 : A2) : Int := (M4 [(B3 x0.Dep x1.Dep), (B3 x0.Arr x1.Arr), (B3 x0.Rides x1.Rides)])
def B5.loop1 (x0 : D7) : List A1 → (List (Int × (List A1))) → Option (List (Int × (List A1)))
  | [], a => some a
  | b :: c, a => ((J0 x0 b).bind fun d => ((J0 x0 b).bind fun d => (bnd ((O2 a d.Dep).getD []) fun e => ((apd e [b]).bind fun f => B5.loop1 x0 c (O1 a d.Dep f)))))
def B5.loop4.step (x0 : D7) (x2 : Int) (b : Int) (c : Nat) (e : F8) (_ : Bool) (f : List A2) (d : List (A2 × Bool)) : Orc → Option ((List A2) × (List (A2 × Bool))) := fun o => ((gx x0.Day.Trains e.train).bind fun g => ((gx g.Stops e.off).bind fun a => (bnd ((if (a.Station == x2) then !((O2 d (A2.mk b a.Arr ((c + 1 : Nat) : Int))).getD false) else false) : Bool) fun h => (((if h then ((apd f [(A2.mk b a.Arr ((c + 1 : Nat) : Int))]).bind fun i => some (i, (O1 d (A2.mk b a.Arr ((c + 1 : Nat) : Int)) true))) else some (f, d)) : Option ((List A2) × (List (A2 × Bool)))).bind fun j => match j with | (k, l) => some (k, l)))))
def B5.loop4 (x0 : D7) (x2 : Int) (a : Int) (b : Nat) (l : List (F8 × Bool)) (c : List A2) (d : List (A2 × Bool)) : Orc → Option ((List A2) × (List (A2 × Bool))) := a2V (fun x st => B5.loop4.step x0 x2 a b x.1 x.2 st.1 st.2) l.length l (c, d)
def B5.loop3.step (x0 : D7) (x2 : Int) (b : Int) (c : (List (List (F8 × Bool)))) (a : Nat) (d : List A2) (e : List (A2 × Bool)) : Orc → Option ((List A2) × (List (A2 × Bool))) := fun o => ((gx c ((a : Nat) : Int)).bind fun f => (bindO (B5.loop4 x0 x2 b a f d e) (fun g o => match g with | (h, i) => some (h, i)) o))
def B5.loop3 (x0 : D7) (x2 : Int) (a : Int) (b : (List (List (F8 × Bool)))) (n : Nat) (c : List A2) (d : List (A2 × Bool)) : Orc → Option ((List A2) × (List (A2 × Bool))) := a6F (fun x st => B5.loop3.step x0 x2 a b x st.1 st.2) n 0 (c, d)
def B5.loop2.step (x0 : D7) (x2 : Int) (a : Int) (b : List A1) (c : List A2) (d : List (A2 × Bool)) : Orc → Option ((List A2) × (List (A2 × Bool))) := fun o => ((H2 x0 b).bind fun e => (bindO (B5.loop3 x0 x2 a e 4 c d) (fun f o => match f with | (g, h) => some (g, h)) o))
def B5.loop2 (x0 : D7) (x2 : Int) (l : List (Int × (List A1))) (a : List A2) (b : List (A2 × Bool)) : Orc → Option ((List A2) × (List (A2 × Bool))) := a2V (fun x st => B5.loop2.step x0 x2 x.1 x.2 st.1 st.2) l.length l (a, b)
def B5.o (x0 : D7) (x1 : Int) (x2 : Int) : Orc → Option (List A2) := fun o => (bnd (Q2 x0 x1 0 (-1)) fun d => ((B5.loop1 x0 d []).bind fun e => (bindO (B5.loop2 x0 x2 e [] []) (fun a o => match a with | (b, _) => ((a7G H5 b).bind fun c => some c)) o)))
noncomputable def B5 (x0 : D7) (x1 : Int) (x2 : Int) : Option (List A2) := same (B5.o x0 x1 x2)
def B7 (x0 : A2) (y0 : Int) : Bool := decide (x0.Dep < y0)
def B6.loop1 (y0 : Int) : (List A2) → Nat → Out Int Unit
  | [], _ => (.next ())
  | c :: a, b => (if (B7 c y0) then (.ret ((b : Nat) : Int)) else B6.loop1 y0 a (b + 1))
def B6 (x0 : List A2) (y0 : Int) : Int := (bnd (B6.loop1 y0 x0 0) fun a => match a with | .ret r => r | .next () => (-1))
def D1.loop1 (x0 : List A2) (y0 : Int) : Nat → Int → Int → (List A2) → Option (Int × Int × (List A2))
  | 0, _, _, _ => none
  | f + 1, a, c, b => (if decide (c < ((x0.length : Nat) : Int)) then ((gx b c).bind fun d => (((if !(B7 d y0) then ((ix b a).bind fun _ => ((sx b a d).bind fun e => some (w64 (a + 1), e))) else some (a, b)) : Option (Int × (List A2))).bind fun g => match g with | (h, i) => D1.loop1 x0 y0 f h (w64 (c + 1)) i)) else some (a, c, b))
def D1 (fu : Nat) (x0 : List A2) (y0 : Int) : Option (List A2) := (if ((B6 x0 y0) == (-1)) then some x0 else ((D1.loop1 x0 y0 fu (B6 x0 y0) (w64 ((B6 x0 y0) + 1)) x0).bind fun b => match b with | (c, _, d) => ((a2M d 0 c).bind fun a => some a)))
def C7 (x0 : A2) (x1 : A2) : Int := (M4 [(B3 x0.Arr x1.Arr), (B3 x0.Rides x1.Rides), (B3 x1.Dep x0.Dep)])
def D8.loop1 (x0 : List A2) : Nat → Int → Int → Int → Int → Option (Int × Int × Int × Int)
  | 0, _, _, _, _ => none
  | f + 1, a, b, c, d => (if decide (a < ((x0).length : Int)) then ((gx x0 a).bind fun g => (((if decide ((C7 g (A2.mk b c d)) < 0) then ((gx x0 a).bind fun e => some (e.Dep, e.Arr, e.Rides)) else some (b, c, d)) : Option (Int × Int × Int)).bind fun h => match h with | (i, j, k) => D8.loop1 x0 f (w64 (a + 1)) i j k)) else some (a, b, c, d))
def D8 (fu : Nat) (x0 : List A2) : Option A2 := (if decide (((x0).length : Int) < 1) then none else ((gx x0 0).bind fun a => ((D8.loop1 x0 fu 1 a.Dep a.Arr a.Rides).bind fun b => match b with | (_, c, d, e) => some (A2.mk c d e))))
def E0 (x0 : List A1) : Option (List A1) := ((apd [] x0).bind fun a => some a)
def E6.loop1 (x0 : List A1) (y0 : D7) (y1 : A2) (y2 : Int) (self_GuideNetleastOf_1_v1 : (List A1) → D7 → A2 → Int → (List (M6 × Bool)) → Option ((List A1) × (List (M6 × Bool)))) : List A1 → (List A1) → (List (M6 × Bool)) → Option (Out ((List A1) × (List (M6 × Bool))) ((List A1) × (List (M6 × Bool))))
  | [], b, c => some (.next (b, c))
  | g :: d, b, c => ((E0 x0).bind fun e => ((apd e [g]).bind fun f => ((self_GuideNetleastOf_1_v1 f y0 y1 y2 c).bind fun a => (if !a.1.isEmpty then some (.ret (a.1, a.2)) else E6.loop1 x0 y0 y1 y2 self_GuideNetleastOf_1_v1 d b a.2))))
def E6 : Nat → (List A1) → D7 → A2 → Int → (List (M6 × Bool)) → Option ((List A1) × (List (M6 × Bool)))
  | 0, _, _, _, _, _ => none
  | fu + 1, x0, y0, y1, y2, a => ((gx x0 (w64 (((x0).length : Int) - 1))).bind fun b => ((H8 y0 b).bind fun d => (if ((w64 (y1.Rides - ((x0).length : Int))) == 0) then (bnd ((if (d.Station == y2) then (d.Arr == y1.Arr) else false) : Bool) fun f => (if f then ((nz x0).bind fun _ => some (x0, a)) else some ([], a))) else (bnd ((if ((O2 a (M6.mk b.Train b.Off (w64 (y1.Rides - ((x0).length : Int))))).getD false) then true else decide (d.Arr > y1.Arr)) : Bool) fun g => (if g then some ([], a) else ((P1 y0 b).bind fun h => ((E6.loop1 x0 y0 y1 y2 (E6 fu) h [] a).bind fun i => match i with | .ret (e, c) => some (e, c) | .next (_, c) => some ([], (O1 c (M6.mk b.Train b.Off (w64 (y1.Rides - ((x0).length : Int)))) true)))))))))
def I2.loop1 (x0 : D7) (x2 : Int) (x3 : A2) (fu : Nat) : List A1 → (List A1) → (List (M6 × Bool)) → Option (Out ((List A1) × (List (M6 × Bool))) ((List A1) × (List (M6 × Bool))))
  | [], b, c => some (.next (b, c))
  | e :: a, b, c => ((J0 x0 e).bind fun f => (if (f.Dep != x3.Dep) then I2.loop1 x0 x2 x3 fu a b c else ((E6 fu [e] x0 x3 x2 c).bind fun d => (if !d.1.isEmpty then some (.ret (d.1, d.2)) else I2.loop1 x0 x2 x3 fu a b d.2))))
def I2 (fu : Nat) (x0 : D7) (x1 : Int) (x2 : Int) (x3 : A2) : Option A3 := (bnd (Q2 x0 x1 x3.Dep (-1)) fun a => ((I2.loop1 x0 x2 x3 fu a [] []).bind fun b => match b with | .ret (c, _) => some (A3.mk c) | .next (_, _) => some (A3.mk [])))
noncomputable def O6 (fu : Nat) (x0 : D7) (x1 : Int) (x2 : Int) (x3 : Int) : Option (A3 × Bool) := ((B5 x0 x1 x3).bind fun b => ((D1 fu b x2).bind fun a => (if (((a.length : Nat) : Int) == 0) then some ((A3.mk []), false) else ((D8 fu a).bind fun c => ((I2 fu x0 x1 x3 c).bind fun d => some (d, true))))))
noncomputable def M2 (fu : Nat) (x1 : Int) (y0 : G3) : Option (A3 × Int × Int) := (if !(D5 x1 0 (w64 (((y0.promises.length : Nat) : Int) - 1))) then some ((A3.mk []), 0, 3) else ((gx y0.promises x1).bind fun a => (if (a.Promise.State != 2) then some ((A3.mk []), 0, 7) else (if (a.station == a.Promise.To) then some ((A3.mk []), 0, 1) else ((O6 fu y0.net a.station (mx a.when y0.time) a.Promise.To).bind fun b => (if !b.2 then some ((A3.mk []), 0, 9) else some (b.1, mx a.when y0.time, 0)))))))
def K1 (x0 : Int) (x1 : Int) (x2 : Int) (x3 : Int) (x4 : Bool) (x5 : Bool) : Int := (if !(C6 x0 0 28800) then 2 else (bnd ((if !(C6 x1 0 11) then true else (if x4 then !(C6 x2 0 11) else false)) : Bool) fun a => (if a then 3 else (bnd ((if x4 then (x1 == x2) else false) : Bool) fun b => (if b then 1 else (bnd ((if x5 then !(C6 x3 0 28800) else false) : Bool) fun c => (if c then 2 else 0)))))))
def D4.loop1 (x0 : B0) (x1 : A3) (x2 : Int) (x3 : Bool) : (List A1) → Nat → Option (Out Int Unit)
  | [], _ => some (.next ())
  | a :: b, d => (bnd ((if decide (a.Train < 0) then true else decide (a.Train ≥ ((x0.Trains).length : Int))) : Bool) fun l => (if l then some (.ret 3) else ((gx x0.Trains a.Train).bind fun e => (bnd ((if decide (a.On < 0) then true else (if decide (a.On ≥ ((e.Stops).length : Int)) then true else (if decide (a.Off < 0) then true else decide (a.Off ≥ ((e.Stops).length : Int))))) : Bool) fun m => (if m then some (.ret 3) else (if decide (a.On ≥ a.Off) then some (.ret 1) else (if (((d : Nat) : Int) == 0) then D4.loop1 x0 x1 x2 x3 b (d + 1) else ((gx x1.Rides (w64 (((d : Nat) : Int) - 1))).bind fun c => ((gx x0.Trains c.Train).bind fun g => ((gx g.Stops c.Off).bind fun f => (((if (c.Train == a.Train) then some true else ((gx e.Stops a.On).bind fun h => some (h.Station != f.Station))) : Option Bool).bind fun i => (if i then some (.ret 1) else (((if x3 then ((gx e.Stops a.On).bind fun j => some (decide (j.Dep < (w64 (f.Arr + x2))))) else some false) : Option Bool).bind fun k => (if k then some (.ret 13) else D4.loop1 x0 x1 x2 x3 b (d + 1)))))))))))))))
def D4 (x0 : B0) (x1 : A3) (x2 : Int) (x3 : Bool) : Option Int := (if !(C6 x2 0 28800) then some 2 else (if !(C6 ((x1.Rides).length : Int) 1 4) then some 4 else ((D4.loop1 x0 x1 x2 x3 x1.Rides 0).bind fun a => match a with | .ret r => some r | .next () => some 0)))
def B8.loop3 (x0 : List A1) (y0 : B0) (y1 : Int) (y3 : Int) (y4 : Int) (self_Fishref2AllOf_1_v1 : (List A1) → B0 → Int → (List A3) → Int → Int → Option (List A3)) (c : B1) (d : Nat) (e : Nat) : Nat → Int → (List A3) → Option (Int × (List A3))
  | 0, _, _ => none
  | g + 1, a, f => (if decide (a < ((c.Stops).length : Int)) then ((E0 x0).bind fun h => ((apd h [(A1.mk ((d : Nat) : Int) ((e : Nat) : Int) a)]).bind fun b => (((if (((b).length : Int) == 1) then some true else ((a2M b (w64 (((b).length : Int) - 2)) ((b).length : Int)).bind fun i => ((D4 y0 (A3.mk i) y4 true).bind fun j => some (j == 0)))) : Option Bool).bind fun k => (if k then ((self_Fishref2AllOf_1_v1 b y0 y1 f y3 y4).bind fun l => B8.loop3 x0 y0 y1 y3 y4 self_Fishref2AllOf_1_v1 c d e g (w64 (a + 1)) l) else B8.loop3 x0 y0 y1 y3 y4 self_Fishref2AllOf_1_v1 c d e g (w64 (a + 1)) f)))) else some (a, f))
def B8.loop2 (x0 : List A1) (y0 : B0) (y1 : Int) (y3 : Int) (y4 : Int) (fu : Nat) (self_Fishref2AllOf_1_v1 : (List A1) → B0 → Int → (List A3) → Int → Int → Option (List A3)) (d : B1) (e : Nat) : (List B9) → Nat → (List A3) → Option (List A3)
  | [], _, b => some b
  | f :: a, c, b => (bnd ((if (((x0).length : Int) == 0) then (f.Station != y3) else false) : Bool) fun g => (if g then B8.loop2 x0 y0 y1 y3 y4 fu self_Fishref2AllOf_1_v1 d e a (c + 1) b else ((B8.loop3 x0 y0 y1 y3 y4 self_Fishref2AllOf_1_v1 d e c fu ((c + 1 : Nat) : Int) b).bind fun h => match h with | (_, i) => B8.loop2 x0 y0 y1 y3 y4 fu self_Fishref2AllOf_1_v1 d e a (c + 1) i)))
def B8.loop1 (x0 : List A1) (y0 : B0) (y1 : Int) (y3 : Int) (y4 : Int) (fu : Nat) (self_Fishref2AllOf_1_v1 : (List A1) → B0 → Int → (List A3) → Int → Int → Option (List A3)) : (List B1) → Nat → (List A3) → Option (List A3)
  | [], _, a => some a
  | c :: b, d, a => ((B8.loop2 x0 y0 y1 y3 y4 fu self_Fishref2AllOf_1_v1 c d c.Stops 0 a).bind fun e => B8.loop1 x0 y0 y1 y3 y4 fu self_Fishref2AllOf_1_v1 b (d + 1) e)
def B8 : Nat → (List A1) → B0 → Int → (List A3) → Int → Int → Option (List A3)
  | 0, _, _, _, _, _, _ => none
  | fu + 1, x0, y0, y1, y2, y3, y4 => (((if decide (((x0).length : Int) > 0) then ((gx x0 (w64 (((x0).length : Int) - 1))).bind fun a => ((gx y0.Trains a.Train).bind fun i => ((gx i.Stops a.Off).bind fun c => (bnd ((if decide (y1 < 0) then true else (c.Station == y1)) : Bool) fun d => (((if d then ((E0 x0).bind fun e => ((apd y2 [(A3.mk e)]).bind fun f => some f)) else some y2) : Option (List A3)).bind fun g => some g))))) else some y2) : Option (List A3)).bind fun b => (if (((x0).length : Int) == 4) then some b else ((B8.loop1 x0 y0 y1 y3 y4 fu (B8 fu) y0.Trains 0 b).bind fun h => some h)))
def S4 (fu : Nat) (x0 : B0) (x1 : Int) (x2 : Int) (x3 : Int) : Option (List A3) := ((B8 fu [] x0 x2 [] x1 x3).bind fun a => some a)
def K4 (x0 : B0) (x1 : A3) : Option Int := ((gx x1.Rides 0).bind fun a => ((gx x0.Trains a.Train).bind fun b => ((gx b.Stops a.On).bind fun c => some c.Dep)))
def L2 (x0 : B0) (x1 : A3) : Option Int := ((gx x1.Rides (w64 (((x1.Rides).length : Int) - 1))).bind fun a => ((gx x0.Trains a.Train).bind fun b => ((gx b.Stops a.Off).bind fun c => some c.Arr)))
def J8 (x0 : A3) (y0 : B0) : Option (List Int) := ((L2 y0 x0).bind fun a => ((K4 y0 x0).bind fun b => some [a, ((x0.Rides).length : Int), w64 (0 - b)]))
def H3.loop1 (x1 : List Int) : (List Int) → Nat → Option (Out Int Unit)
  | [], _ => some (.next ())
  | c :: a, b => (if decide (((b : Nat) : Int) ≥ ((x1).length : Int)) then some (.ret 1) else ((gx x1 ((b : Nat) : Int)).bind fun d => (if ((B3 c d) != 0) then some (.ret (B3 c d)) else H3.loop1 x1 a (b + 1))))
def H3 (x0 : List Int) (x1 : List Int) : Option Int := ((H3.loop1 x1 x0 0).bind fun a => match a with | .ret r => some r | .next () => (if decide (((x0).length : Int) < ((x1).length : Int)) then some (-1) else some 0))
def T0.loop1 (y0 : B0) : (List A3) → (List Int) → (List A1) → Option ((List Int) × (List A1))
  | [], a, b => some (a, b)
  | e :: c, a, b => ((J8 e y0).bind fun d => ((nz d).bind fun _ => (((if a.isEmpty then some true else ((H3 d a).bind fun i => some (decide (i < 0)))) : Option Bool).bind fun j => (bnd ((if j then (d, e.Rides) else (a, b)) : (List Int) × (List A1)) fun f => match f with | (g, h) => T0.loop1 y0 c g h))))
def T0 (x0 : List A3) (y0 : B0) : Option (A3 × Bool) := ((T0.loop1 y0 x0 [] []).bind fun a => match a with | (b, c) => some ((A3.mk c), !b.isEmpty))
def G7.loop1 (x0 : List A3) (y0 : B0) : Nat → Nat → (List Int) → (List A1) → Option ((List Int) × (List A1))
  | 0, _, a, b => some (a, b)
  | c + 1, e, a, b => ((gx x0 ((e : Nat) : Int)).bind fun f => ((J8 f y0).bind fun d => ((nz d).bind fun _ => (((if a.isEmpty then some true else ((H3 d a).bind fun g => some (decide (g < 0)))) : Option Bool).bind fun h => (bnd ((if h then (d, f.Rides) else (a, b)) : (List Int) × (List A1)) fun i => match i with | (j, k) => G7.loop1 x0 y0 c (e + 1) j k)))))
def G7 (x0 : List A3) (y0 : B0) : Option (A3 × Bool) := ((G7.loop1 x0 y0 x0.length 0 [] []).bind fun a => match a with | (b, c) => some ((A3.mk c), !b.isEmpty))
def H6.loop1 (x0 : B0) (x2 : Int) (c : (List A3)) : Nat → Nat → (List A3) → Option (List A3)
  | 0, _, a => some a
  | b + 1, d, a => ((gx c ((d : Nat) : Int)).bind fun e => ((K4 x0 e).bind fun h => (((if decide (h ≥ x2) then ((apd a [e]).bind fun f => some f) else some a) : Option (List A3)).bind fun g => H6.loop1 x0 x2 c b (d + 1) g)))
def H6 (fu : Nat) (x0 : B0) (x1 : Int) (x2 : Int) (x3 : Int) (x4 : Int) : Option (A3 × Int) := (if ((K1 x4 x1 x3 x2 true true) != 0) then some ((A3.mk []), (K1 x4 x1 x3 x2 true true)) else ((S4 fu x0 x1 x3 x4).bind fun b => ((H6.loop1 x0 x2 b b.length 0 []).bind fun c => ((G7 c x0).bind fun a => (if !a.2 then some ((A3.mk []), 9) else some (a.1, 0))))))
def L1 (fu : Nat) (x1 : Int) (y0 : F3) : Option (A3 × Int × Int) := (bnd ((if decide (x1 < 0) then true else decide (x1 ≥ ((y0.sold.length : Nat) : Int))) : Bool) fun c => (if c then some ((A3.mk []), 0, 3) else ((gx y0.sold x1).bind fun a => (if (a.Promise.State != 2) then some ((A3.mk []), 0, 7) else (if (a.place == a.Promise.To) then some ((A3.mk []), 0, 1) else ((H6 fu y0.Newest a.place (mx a.when y0.Time) a.Promise.To y0.Least).bind fun b => (if (b.2 != 0) then some ((A3.mk []), 0, 9) else some (b.1, mx a.when y0.Time, 0))))))))
def F7.loop1 (x1 : List A1) : (List A1) → Nat → Option (Out Bool Unit)
  | [], _ => some (.next ())
  | a :: b, d => ((gx x1 ((d : Nat) : Int)).bind fun c => (if !((a.Train == c.Train) && ((a.On == c.On) && (a.Off == c.Off))) then some (.ret false) else F7.loop1 x1 b (d + 1)))
def F7 (x0 : List A1) (x1 : List A1) : Option Bool := (if (((x0).length : Int) != ((x1).length : Int)) then some false else ((F7.loop1 x1 x0 0).bind fun a => match a with | .ret r => some r | .next () => some true))
def O4 (x0 : A3) (x1 : A3) : Option Bool := ((F7 x0.Rides x1.Rides).bind fun a => some a)
def N0 (x0 : B9) (y1 : A1) (a : List B1) (b : List (List Int)) (c : Int) (e : Int) (f : List A4) : Option Bool := ((J0 (D7.mk (B0.mk a b) c) y1).bind fun d => some (x0.Station == d.Station))
def F4.loop1 (y1 : A1) (a : List B1) (b : List (List Int)) (c : Int) (d : Int) (e : List A4) : (List B9) → Nat → Option (Out Int Unit)
  | [], _ => some (.next ())
  | h :: f, g => ((N0 h y1 a b c d e).bind fun i => (if i then some (.ret ((g : Nat) : Int)) else F4.loop1 y1 a b c d e f (g + 1)))
def F4 (x0 : List B9) (y1 : A1) (a : List B1) (b : List (List Int)) (c : Int) (d : Int) (e : List A4) : Option Int := ((F4.loop1 y1 a b c d e x0 0).bind fun f => match f with | .ret r => some r | .next () => some (-1))
def M9 (x0 : B9) (y1 : A1) (a : List B1) (b : List (List Int)) (c : Int) (e : Int) (f : List A4) : Option Bool := ((H8 (D7.mk (B0.mk a b) c) y1).bind fun d => some (x0.Station == d.Station))
def F5.loop1 (y1 : A1) (a : List B1) (b : List (List Int)) (c : Int) (d : Int) (e : List A4) : (List B9) → Nat → Option (Out Int Unit)
  | [], _ => some (.next ())
  | h :: f, g => ((M9 h y1 a b c d e).bind fun i => (if i then some (.ret ((g : Nat) : Int)) else F5.loop1 y1 a b c d e f (g + 1)))
def F5 (x0 : List B9) (y1 : A1) (a : List B1) (b : List (List Int)) (c : Int) (d : Int) (e : List A4) : Option Int := ((F5.loop1 y1 a b c d e x0 0).bind fun f => match f with | .ret r => some r | .next () => some (-1))
def O9 (x1 : B0) (x2 : List (Int × Int)) (x3 : A1) (a : List B1) (d : List (List Int)) (e : Int) (f : Int) (g : List A4) : Option (A1 × Bool) := ((gx a x3.Train).bind fun h => (if !((O2 x2 h.No).isSome) then some ((A1.mk 0 0 0), false) else ((gx x1.Trains ((O2 x2 h.No).getD 0)).bind fun b => ((a2M b.Stops 0 (w64 (((b.Stops).length : Int) - 1))).bind fun j => ((F4 j x3 a d e f g).bind fun c => (if decide (c < 0) then some ((A1.mk 0 0 0), false) else ((a2M b.Stops (w64 (c + 1)) ((b.Stops).length : Int)).bind fun k => ((F5 k x3 a d e f g).bind fun i => some ((A1.mk ((O2 x2 h.No).getD 0) c (w64 ((w64 (c + 1)) + i))), decide (i ≥ 0))))))))))
def H4.loop1 (x2 : D7) (x3 : List (Int × Int)) (x4 : List Bool) (e : List B1) (f : List (List Int)) (b : Int) (g : Int) (h : List A4) (c : List Bool) (i : List Int) : (List A1) → Nat → (List A1) → Option (Out ((List A1) × Int × Int) (List A1))
  | [], _, j => some (.next j)
  | u :: d, a, j => ((gx c ((a : Nat) : Int)).bind fun v => (if v then H4.loop1 x2 x3 x4 e f b g h c i d (a + 1) j else ((O9 x2.Day x3 u e f b g h).bind fun l => (if !l.2 then some (.ret ([], ((a : Nat) : Int), 1)) else ((ix j ((a : Nat) : Int)).bind fun _ => ((sx j ((a : Nat) : Int) l.1).bind fun k => ((((gx x4 ((a : Nat) : Int)).bind fun m => (if m then some true else some (((a : Nat) : Int) == 0))) : Option Bool).bind fun n => (if n then H4.loop1 x2 x3 x4 e f b g h c i d (a + 1) k else ((gx i (w64 (((a : Nat) : Int) - 1))).bind fun o => ((gx c (w64 (((a : Nat) : Int) - 1))).bind fun p => (((if !p then ((gx k (w64 (((a : Nat) : Int) - 1))).bind fun q => ((H8 x2 q).bind fun r => some r.Arr)) else some o) : Option Int).bind fun s => ((J0 x2 l.1).bind fun t => (if decide (t.Dep < (w64 (s + b))) then some (.ret ([], ((a : Nat) : Int), 2)) else H4.loop1 x2 x3 x4 e f b g h c i d (a + 1) k)))))))))))))
def H4 (x2 : D7) (x3 : List (Int × Int)) (x4 : List Bool) (b : List B1) (c : List (List Int)) (d : Int) (e : Int) (f : List A4) (m : Int) (n : Int) (o : Int) (p : Int) (q : Int) (a : List A1) (g : List Bool) (h : List Int) (s : List Int) (t : Int) (i : Int) : Option ((List A1) × Int × Int) := ((E0 a).bind fun j => ((H4.loop1 x2 x3 x4 b c d e f g h a 0 j).bind fun k => match k with | .ret r => some r | .next l => some (l, (-1), 0)))
def H7.loop1 (x1 : Bool) : (List Bool) → Nat → Out Int Unit
  | [], _ => (.next ())
  | c :: a, b => (if (x1 == c) then (.ret ((b : Nat) : Int)) else H7.loop1 x1 a (b + 1))
def H7 (x0 : List Bool) (x1 : Bool) : Int := (bnd (H7.loop1 x1 x0 0) fun a => match a with | .ret r => r | .next () => (-1))
def E2.loop1 (x5 : Int) : (List B9) → Int → Int → Out (Int × Int × Int) (Int × Int)
  | [], a, b => (.next (a, b))
  | c :: d, a, b => (if decide (c.Arr ≥ x5) then (.ret (2, c.Station, c.Arr)) else E2.loop1 x5 d a b)
def E2.loop2 (d : List Bool) (e : List Int) : Nat → Nat → Int → Option Int
  | 0, _, a => some a
  | c + 1, b, a => ((gx d ((b : Nat) : Int)).bind fun f => (((if f then ((gx e ((b : Nat) : Int)).bind fun g => some g) else some a) : Option Int).bind fun h => E2.loop2 d e c (b + 1) h))
def E2 (x2 : B0) (x3 : List (Int × Int)) (x4 : List Bool) (x5 : Int) (a : List B1) (g : List (List Int)) (h : Int) (v : Int) (w : List A4) (i : Int) (x : Int) (y : Int) (z : Int) (A : Int) (j : List A1) (b : List Bool) (B : List Int) (k : List Int) (C : Int) (q : Int) : Option (Int × Int × Int) := (if decide ((H7 x4 true) ≥ 0) then ((gx j (H7 x4 true)).bind fun c => ((J0 (D7.mk (B0.mk a g) h) c).bind fun d => ((gx a c.Train).bind fun e => (((if ((O2 x3 e.No).isSome) then ((gx x2.Trains ((O2 x3 e.No).getD 0)).bind fun f => ((a2M f.Stops 1 ((f.Stops).length : Int)).bind fun l => (bnd (E2.loop1 x5 l d.Station x5) fun m => match m with | .ret r => some (.ret r) | .next (n, o) => some (.next (n, o))))) else some (.next (d.Station, x5))) : Option (Out (Int × Int × Int) (Int × Int))).bind fun s => match s with | .ret r => some r | .next (t, u) => some (2, t, u))))) else ((E2.loop2 b k b.length 0 i).bind fun p => some (2, p, x5)))
def F6.loop1 (x4 : Int) (y0 : G3) : (List A1) → Nat → (List Bool) → (List Bool) → (List Int) → (List Int) → Option ((List Bool) × (List Bool) × (List Int) × (List Int))
  | [], _, c, b, d, e => some (c, b, d, e)
  | f :: g, a, c, b, d, e => ((gx b ((a : Nat) : Int)).bind fun h => (((if h then some (c, b, d, e) else ((H8 y0.net f).bind fun i => (((if decide (i.Arr ≤ x4) then ((H8 y0.net f).bind fun j => ((H8 y0.net f).bind fun k => ((ix b ((a : Nat) : Int)).bind fun _ => ((sx b ((a : Nat) : Int) true).bind fun l => ((ix d ((a : Nat) : Int)).bind fun _ => ((sx d ((a : Nat) : Int) j.Arr).bind fun m => ((ix e ((a : Nat) : Int)).bind fun _ => ((sx e ((a : Nat) : Int) k.Station).bind fun n => some (c, l, m, n))))))))) else ((J0 y0.net f).bind fun o => ((ix c ((a : Nat) : Int)).bind fun _ => ((sx c ((a : Nat) : Int) (decide (o.Dep ≤ x4))).bind fun p => some (p, b, d, e))))) : Option ((List Bool) × (List Bool) × (List Int) × (List Int))).bind fun q => match q with | (r, s, t, u) => some (r, s, t, u)))) : Option ((List Bool) × (List Bool) × (List Int) × (List Int))).bind fun v => match v with | (w, x, y, z) => F6.loop1 x4 y0 g (a + 1) w x y z))
def F6.loop2 (x1 : Int) (x2 : D7) (x4 : Int) (y0 : G3) (d : List Bool) (e : List Bool) (f : (List A1) × Int × Int) : (List A1) → Nat → (List A4) → Option (List A4)
  | [], _, b => some b
  | h :: c, a, b => ((((gx e ((a : Nat) : Int)).bind fun i => (if i then some true else ((gx d ((a : Nat) : Int)).bind fun j => some j))) : Option Bool).bind fun k => (if k then F6.loop2 x1 x2 x4 y0 d e f c (a + 1) b else ((gx f.1 ((a : Nat) : Int)).bind fun l => ((J0 x2 l).bind fun g => ((J0 y0.net h).bind fun m => (((if (g.Track != m.Track) then ((apd b [(A4.mk x4 x1 ((a : Nat) : Int) 4 g.Track)]).bind fun n => some n) else some b) : Option (List A4)).bind fun o => F6.loop2 x1 x2 x4 y0 d e f c (a + 1) o))))))
def F6 (x1 : Int) (x2 : D7) (x3 : List (Int × Int)) (x4 : Int) (y0 : G3) : Option ((List A4) × (List C5)) := ((gx y0.promises x1).bind fun a => ((mks ((a.over.length : Nat) : Int) (false : Bool)).bind fun j => ((F6.loop1 x4 y0 a.Promise.Journey.Rides 0 j a.over a.arrived a.ends).bind fun k => match k with | (f, c, d, e) => ((gx c (w64 (((a.over.length : Nat) : Int) - 1))).bind fun l => (if l then some ([], (b4Y y0.promises ((x1).toNat) (C5.mk (C2.mk a.Promise.From a.Promise.To a.Promise.Dep a.Promise.Arr 3 a.Promise.Journey) c d e a.station a.when))) else ((H4 x2 x3 f y0.net.Day.Trains y0.net.Day.Turns y0.net.least y0.time y0.messages a.Promise.From a.Promise.To a.Promise.Dep a.Promise.Arr a.Promise.State a.Promise.Journey.Rides c d e a.station a.when).bind fun b => (if decide (b.2.1 ≥ 0) then ((E2 x2.Day x3 f x4 y0.net.Day.Trains y0.net.Day.Turns y0.net.least y0.time y0.messages a.Promise.From a.Promise.To a.Promise.Dep a.Promise.Arr a.Promise.State a.Promise.Journey.Rides c d e a.station a.when).bind fun g => some ([(A4.mk x4 x1 b.2.1 b.2.2 0)], (b4Y y0.promises ((x1).toNat) (C5.mk (C2.mk a.Promise.From a.Promise.To a.Promise.Dep a.Promise.Arr g.1 a.Promise.Journey) c d e g.2.1 g.2.2)))) else ((F6.loop2 x1 x2 x4 y0 f c b a.Promise.Journey.Rides 0 []).bind fun h => ((gx b.1 (w64 (((b.1.length : Nat) : Int) - 1))).bind fun m => ((H8 x2 m).bind fun i => ((gx a.Promise.Journey.Rides (w64 (((b.1.length : Nat) : Int) - 1))).bind fun n => ((H8 y0.net n).bind fun o => (((if decide (i.Arr > o.Arr) then ((apd h [(A4.mk x4 x1 (w64 (((b.1.length : Nat) : Int) - 1)) 3 i.Arr)]).bind fun p => some p) else some h) : Option (List A4)).bind fun q => some (q, (b4Y y0.promises ((x1).toNat) (C5.mk (C2.mk a.Promise.From a.Promise.To a.Promise.Dep a.Promise.Arr a.Promise.State (A3.mk b.1)) c d e a.station a.when))))))))))))))))
def D6.loop1 : (List B1) → Nat → (List (Int × Int)) → (List (Int × Int))
  | [], _, a => a
  | d :: b, c, a => D6.loop1 b (c + 1) (O1 a d.No ((c : Nat) : Int))
def D6.loop2 (x2 : Int) (y0 : G3) (e : B0) (f : List (Int × Int)) : Nat → Nat → (List A4) → (List C5) → Option ((List A4) × (List C5))
  | 0, _, b, a => some (b, a)
  | d + 1, c, b, a => ((gx a ((c : Nat) : Int)).bind fun h => (((if (h.Promise.State == 1) then ((F6 ((c : Nat) : Int) (D7.mk e y0.net.least) f x2 (G3.mk y0.net x2 a y0.messages)).bind fun g => ((apd b g.1).bind fun i => some (i, g.2))) else some (b, a)) : Option ((List A4) × (List C5))).bind fun j => match j with | (k, l) => D6.loop2 x2 y0 e f d (c + 1) k l))
def D6 (x1 : B0) (x2 : Int) (y0 : G3) : Option ((List A4) × Int × (List C5) × (List B1) × (List (List Int)) × Int × Int × (List A4)) := ((H9 x1).bind fun c => (if (c != 0) then some ([], c, y0.promises, y0.net.Day.Trains, y0.net.Day.Turns, y0.net.least, y0.time, y0.messages) else (if decide (x2 < y0.time) then some ([], 5, y0.promises, y0.net.Day.Trains, y0.net.Day.Turns, y0.net.least, y0.time, y0.messages) else (if decide (x2 > 28800) then some ([], 2, y0.promises, y0.net.Day.Trains, y0.net.Day.Turns, y0.net.least, y0.time, y0.messages) else ((J6 x1).bind fun a => (bnd (D6.loop1 a.Trains 0 []) fun d => ((D6.loop2 x2 y0 a d y0.promises.length 0 [] y0.promises).bind fun e => match e with | (b, f) => ((apd y0.messages b).bind fun g => some (b, 0, f, a.Trains, a.Turns, y0.net.least, x2, g)))))))))
def G5 (x0 : B0) (x1 : A1) (x2 : Int) : Option B9 := ((gx x0.Trains x1.Train).bind fun a => ((gx a.Stops x2).bind fun b => some b))
def N7 (x0 : B1) (y0 : Int) : Bool := (x0.No == y0)
def E3.loop1 (y0 : Int) : (List B1) → Nat → Out Int Unit
  | [], _ => (.next ())
  | c :: a, b => (if (N7 c y0) then (.ret ((b : Nat) : Int)) else E3.loop1 y0 a (b + 1))
def E3 (x0 : List B1) (y0 : Int) : Int := (bnd (E3.loop1 y0 x0 0) fun a => match a with | .ret r => r | .next () => (-1))
def I0 (x0 : B0) (x1 : Int) : Int := (E3 x0.Trains x1)
def G0.loop2 (x1 : B0) (g : B1) (h : B9) (b : B1) (c : Int) : Nat → Int → Int → Int → Int → Option (Out (A1 × Bool) (Int × Int × Int × Int))
  | 0, _, _, _, _ => none
  | i + 1, a, d, e, f => (if decide (a < ((b.Stops).length : Int)) then ((gx b.Stops a).bind fun j => (if (j.Station == h.Station) then some (.ret ((A1.mk (I0 x1 g.No) c a), true)) else G0.loop2 x1 g h b c i (w64 (a + 1)) d e f)) else some (.next (a, d, e, f)))
def G0.loop1 (x1 : B0) (fu : Nat) (f : B1) (g : B9) (h : B9) (e : B1) : Nat → Int → Int → Int → Int → Option (Out (A1 × Bool) (Int × Int × Int × Int))
  | 0, _, _, _, _ => none
  | k + 1, a, b, c, d => (if decide (a < (w64 (((e.Stops).length : Int) - 1))) then ((gx e.Stops a).bind fun i => (if (i.Station != g.Station) then G0.loop1 x1 fu f g h e k (w64 (a + 1)) b c d else ((G0.loop2 x1 f h e a fu (w64 (a + 1)) b c d).bind fun j => match j with | .ret r => some (.ret r) | .next (_, _, _, _) => some (.ret ((A1.mk 0 0 0), false))))) else some (.next (a, b, c, d)))
def G0 (fu : Nat) (x0 : B0) (x1 : B0) (x2 : A1) : Option (A1 × Bool) := ((gx x0.Trains x2.Train).bind fun a => (if decide ((I0 x1 a.No) < 0) then some ((A1.mk 0 0 0), false) else ((G5 x0 x2 x2.On).bind fun b => ((G5 x0 x2 x2.Off).bind fun c => ((gx x1.Trains (I0 x1 a.No)).bind fun d => ((G0.loop1 x1 fu a b c d fu 0 0 0 0).bind fun e => match e with | .ret r => some r | .next (_, _, _, _) => some ((A1.mk 0 0 0), false)))))))
def C8.loop2 (x3 : Int) : (List B9) → Int → Int → Int × Int
  | [], a, b => (a, b)
  | c :: d, a, b => (if decide (c.Arr ≥ x3) then (c.Station, c.Arr) else C8.loop2 x3 d a b)
def C8.loop1 (x2 : B0) (x3 : Int) (x4 : List Bool) (b : List B1) (d : List (List Int)) (y1 : C4) : (List A1) → Nat → Int → Int → Option (Out (Int × Int) (Int × Int))
  | [], _, e, a => some (.next (e, a))
  | f :: g, c, e, a => ((gx y1.over ((c : Nat) : Int)).bind fun s => (((if s then ((gx y1.offs ((c : Nat) : Int)).bind fun t => some t) else some e) : Option Int).bind fun u => ((gx x4 ((c : Nat) : Int)).bind fun k => (if !k then C8.loop1 x2 x3 x4 b d y1 g (c + 1) u a else ((G5 (B0.mk b d) f f.On).bind fun h => ((gx b f.Train).bind fun i => (((if decide ((I0 x2 i.No) ≥ 0) then ((gx x2.Trains (I0 x2 i.No)).bind fun j => ((a2M j.Stops 1 ((j.Stops).length : Int)).bind fun l => (bnd (C8.loop2 x3 l h.Station a) fun m => match m with | (n, o) => some (n, o)))) else some (h.Station, a)) : Option (Int × Int)).bind fun p => match p with | (q, r) => some (.ret (q, r)))))))))
def C8 (x2 : B0) (x3 : Int) (x4 : List Bool) (a : List B1) (b : List (List Int)) (f : Int) (g : Int) (h : List A4) (y1 : C4) : Option (Int × Int) := ((C8.loop1 x2 x3 x4 a b y1 y1.Promise.Journey.Rides 0 y1.Promise.From x3).bind fun c => match c with | .ret r => some r | .next (d, e) => some (d, e))
def C1.loop1 (x3 : Int) (y0 : F3) : (List A1) → Nat → (List Bool) → (List Bool) → (List Int) → (List Int) → Option ((List Bool) × (List Bool) × (List Int) × (List Int))
  | [], _, c, b, d, e => some (c, b, d, e)
  | f :: g, a, c, b, d, e => ((gx b ((a : Nat) : Int)).bind fun i => (((if !i then ((G5 y0.Newest f f.Off).bind fun h => (((if decide (h.Arr ≤ x3) then ((G5 y0.Newest f f.Off).bind fun j => ((ix b ((a : Nat) : Int)).bind fun _ => ((sx b ((a : Nat) : Int) true).bind fun k => ((ix d ((a : Nat) : Int)).bind fun _ => ((sx d ((a : Nat) : Int) h.Arr).bind fun l => ((ix e ((a : Nat) : Int)).bind fun _ => ((sx e ((a : Nat) : Int) j.Station).bind fun m => some (c, k, l, m)))))))) else ((G5 y0.Newest f f.On).bind fun n => ((ix c ((a : Nat) : Int)).bind fun _ => ((sx c ((a : Nat) : Int) (decide (n.Dep ≤ x3))).bind fun o => some (o, b, d, e))))) : Option ((List Bool) × (List Bool) × (List Int) × (List Int))).bind fun p => match p with | (q, r, s, t) => some (q, r, s, t))) else some (c, b, d, e)) : Option ((List Bool) × (List Bool) × (List Int) × (List Int))).bind fun u => match u with | (v, w, x, y) => C1.loop1 x3 y0 g (a + 1) v w x y))
def C1.loop2 (x1 : Int) (x2 : B0) (x3 : Int) (y0 : F3) (fu : Nat) (b : C4) (i : List Bool) (c : List Bool) (e : List Int) (j : List Int) : (List A1) → Nat → (List A1) → Int → Int → Int → Option (Out ((List A4) × (List C4)) ((List A1) × Int × Int × Int))
  | [], _, d, k, f, g => some (.next (d, k, f, g))
  | p :: h, a, d, k, f, g => ((gx c ((a : Nat) : Int)).bind fun q => (if q then C1.loop2 x1 x2 x3 y0 fu b i c e j h (a + 1) d k f g else ((G0 fu y0.Newest x2 p).bind fun l => (((if !l.2 then some (1, d) else ((ix d ((a : Nat) : Int)).bind fun _ => ((sx d ((a : Nat) : Int) l.1).bind fun m => ((((gx i ((a : Nat) : Int)).bind fun r => (if !r then some (decide (((a : Nat) : Int) > 0)) else some false)) : Option Bool).bind fun s => (((if s then ((gx e (w64 (((a : Nat) : Int) - 1))).bind fun t => ((gx c (w64 (((a : Nat) : Int) - 1))).bind fun u => (((if !u then ((gx m (w64 (((a : Nat) : Int) - 1))).bind fun v => ((gx m (w64 (((a : Nat) : Int) - 1))).bind fun w => ((G5 x2 v w.Off).bind fun x => some x.Arr))) else some t) : Option Int).bind fun y => ((G5 x2 l.1 l.1.On).bind fun z => (bnd ((if decide (z.Dep < (w64 (y + y0.Least))) then 2 else 0) : Int) fun A => some A))))) else some 0) : Option Int).bind fun B => some (B, m)))))) : Option (Int × (List A1))).bind fun C => match C with | (n, D) => (if (n != 0) then ((C8 x2 x3 i y0.Newest.Trains y0.Newest.Turns y0.Least y0.Time y0.Told (C4.mk (C2.mk b.Promise.From b.Promise.To b.Promise.Dep b.Promise.Arr 2 b.Promise.Journey) c e j f g)).bind fun o => some (.ret ([(A4.mk x3 x1 ((a : Nat) : Int) n 0)], (b4Y y0.sold ((x1).toNat) (C4.mk (C2.mk b.Promise.From b.Promise.To b.Promise.Dep b.Promise.Arr 2 b.Promise.Journey) c e j o.1 o.2))))) else C1.loop2 x1 x2 x3 y0 fu b i c e j h (a + 1) D k f g)))))
def C1.loop3 (x1 : Int) (x2 : B0) (x3 : Int) (y0 : F3) (e : List Bool) (f : List Bool) (d : List A1) : (List A1) → Nat → (List A4) → Option (List A4)
  | [], _, b => some b
  | g :: c, a, b => ((((gx f ((a : Nat) : Int)).bind fun i => (if i then some true else ((gx e ((a : Nat) : Int)).bind fun j => some j))) : Option Bool).bind fun k => (if k then C1.loop3 x1 x2 x3 y0 e f d c (a + 1) b else ((gx d ((a : Nat) : Int)).bind fun l => ((gx d ((a : Nat) : Int)).bind fun m => ((G5 x2 l m.On).bind fun h => ((G5 y0.Newest g g.On).bind fun n => (((if (h.Track != n.Track) then ((apd b [(A4.mk x3 x1 ((a : Nat) : Int) 4 h.Track)]).bind fun o => some o) else some b) : Option (List A4)).bind fun p => C1.loop3 x1 x2 x3 y0 e f d c (a + 1) p)))))))
def C1 (fu : Nat) (x1 : Int) (x2 : B0) (x3 : Int) (y0 : F3) : Option ((List A4) × (List C4)) := ((gx y0.sold x1).bind fun a => ((mks ((a.Promise.Journey.Rides).length : Int) (false : Bool)).bind fun i => ((C1.loop1 x3 y0 a.Promise.Journey.Rides 0 i a.over a.came a.offs).bind fun j => match j with | (f, b, d, e) => ((gx b (w64 (((a.Promise.Journey.Rides).length : Int) - 1))).bind fun k => (if k then some ([], (b4Y y0.sold ((x1).toNat) (C4.mk (C2.mk a.Promise.From a.Promise.To a.Promise.Dep a.Promise.Arr 3 a.Promise.Journey) b d e a.place a.when))) else ((E0 a.Promise.Journey.Rides).bind fun l => ((C1.loop2 x1 x2 x3 y0 fu a f b d e a.Promise.Journey.Rides 0 l a.Promise.State a.place a.when).bind fun m => match m with | .ret r => some r | .next (c, n, o, p) => ((C1.loop3 x1 x2 x3 y0 f b c a.Promise.Journey.Rides 0 []).bind fun g => ((gx c (w64 (((a.Promise.Journey.Rides).length : Int) - 1))).bind fun q => ((gx c (w64 (((a.Promise.Journey.Rides).length : Int) - 1))).bind fun s => ((G5 x2 q s.Off).bind fun h => ((gx a.Promise.Journey.Rides (w64 (((a.Promise.Journey.Rides).length : Int) - 1))).bind fun t => ((gx a.Promise.Journey.Rides (w64 (((a.Promise.Journey.Rides).length : Int) - 1))).bind fun u => ((G5 y0.Newest t u.Off).bind fun v => (((if decide (h.Arr > v.Arr) then ((apd g [(A4.mk x3 x1 (w64 (((a.Promise.Journey.Rides).length : Int) - 1)) 3 h.Arr)]).bind fun w => some w) else some g) : Option (List A4)).bind fun x => some (x, (b4Y y0.sold ((x1).toNat) (C4.mk (C2.mk a.Promise.From a.Promise.To a.Promise.Dep a.Promise.Arr n (A3.mk c)) b d e o p))))))))))))))))))
def G6.loop1 (x1 : B0) (x2 : Int) (y0 : F3) (fu : Nat) : Nat → Nat → (List A4) → (List C4) → Option ((List A4) × (List C4))
  | 0, _, b, a => some (b, a)
  | d + 1, c, b, a => ((gx a ((c : Nat) : Int)).bind fun f => (((if (f.Promise.State == 1) then ((C1 fu ((c : Nat) : Int) x1 x2 (F3.mk y0.Newest y0.Least x2 a y0.Told)).bind fun e => ((apd b e.1).bind fun g => some (g, e.2))) else some (b, a)) : Option ((List A4) × (List C4))).bind fun h => match h with | (i, j) => G6.loop1 x1 x2 y0 fu d (c + 1) i j))
def G6 (fu : Nat) (x1 : B0) (x2 : Int) (y0 : F3) : Option ((List A4) × Int × (List C4) × (List B1) × (List (List Int)) × Int × (List A4)) := (if decide (x2 < y0.Time) then some ([], 5, y0.sold, y0.Newest.Trains, y0.Newest.Turns, y0.Time, y0.Told) else (if decide (x2 > 28800) then some ([], 2, y0.sold, y0.Newest.Trains, y0.Newest.Turns, y0.Time, y0.Told) else ((G6.loop1 x1 x2 y0 fu y0.sold.length 0 [] y0.sold).bind fun b => match b with | (a, c) => ((apd y0.Told a).bind fun d => some (a, 0, c, x1.Trains, x1.Turns, x2, d)))))
def E9.loop1 (x1 : List A4) : (List A4) → Nat → Option (Out Bool Unit)
  | [], _ => some (.next ())
  | a :: c, d => ((gx x1 ((d : Nat) : Int)).bind fun b => (if !((a.At == b.At) && ((a.Promise == b.Promise) && ((a.Ride == b.Ride) && ((a.Kind == b.Kind) && (a.Value == b.Value))))) then some (.ret false) else E9.loop1 x1 c (d + 1)))
def E9 (x0 : List A4) (x1 : List A4) : Option Bool := (if (((x0).length : Int) != ((x1).length : Int)) then some false else ((E9.loop1 x1 x0 0).bind fun a => match a with | .ret r => some r | .next () => some true))
def I6.loop1 (x0 : D7) (x1 : A3) (x2 : Bool) : (List A1) → Nat → Option (Out Int Unit)
  | [], _ => some (.next ())
  | a :: b, c => (if !(D5 a.Train 0 (w64 (((x0.Day.Trains).length : Int) - 1))) then some (.ret 3) else ((gx x0.Day.Trains a.Train).bind fun e => (bnd ((if !(D5 a.On 0 (w64 (((e.Stops).length : Int) - 1))) then true else !(D5 a.Off 0 (w64 (((e.Stops).length : Int) - 1)))) : Bool) fun l => (if l then some (.ret 3) else (if decide (a.On ≥ a.Off) then some (.ret 1) else (if (((c : Nat) : Int) == 0) then I6.loop1 x0 x1 x2 b (c + 1) else ((gx x1.Rides (w64 (((c : Nat) : Int) - 1))).bind fun d => (((if (a.Train == d.Train) then some true else ((J0 x0 a).bind fun f => ((H8 x0 d).bind fun g => some (f.Station != g.Station)))) : Option Bool).bind fun h => (if h then some (.ret 1) else (((if x2 then ((J0 x0 a).bind fun i => ((H8 x0 d).bind fun j => some (decide (i.Dep < (w64 (j.Arr + x0.least)))))) else some false) : Option Bool).bind fun k => (if k then some (.ret 13) else I6.loop1 x0 x1 x2 b (c + 1))))))))))))
def I6 (x0 : D7) (x1 : A3) (x2 : Bool) : Option Int := (if !(D5 ((x1.Rides).length : Int) 1 4) then some 4 else ((I6.loop1 x0 x1 x2 x1.Rides 0).bind fun a => match a with | .ret r => some r | .next () => some 0))
def O8 (x1 : A3) (x2 : Int) (y0 : G3) : Option (Int × Int × Int × (List C5)) := ((I6 y0.net x1 true).bind fun b => (if (b != 0) then some (0, b, y0.time, y0.promises) else ((gx x1.Rides 0).bind fun c => ((gx x1.Rides (w64 (((x1.Rides).length : Int) - 1))).bind fun d => ((J0 y0.net c).bind fun e => (if decide (((y0.promises.length : Nat) : Int) ≥ 100) then some (0, 4, y0.time, y0.promises) else (if decide (x2 < y0.time) then some (0, 5, y0.time, y0.promises) else (if decide (x2 > 28800) then some (0, 2, y0.time, y0.promises) else (if decide (e.Dep < x2) then some (0, 13, y0.time, y0.promises) else ((mks ((x1.Rides).length : Int) (false : Bool)).bind fun f => ((mks ((x1.Rides).length : Int) (0 : Int)).bind fun g => ((mks ((x1.Rides).length : Int) (0 : Int)).bind fun h => ((J0 y0.net c).bind fun i => ((H8 y0.net d).bind fun j => ((H8 y0.net d).bind fun k => ((E0 x1.Rides).bind fun l => ((apd y0.promises [(C5.mk (C2.mk i.Station j.Station e.Dep k.Arr 1 (A3.mk l)) f g h 0 0)]).bind fun a => some (w64 (((a.length : Nat) : Int) - 1), 0, x2, a))))))))))))))))))
def M1 (x1 : A3) (x2 : Int) (y0 : F3) : Option (Int × Int × Int × (List C4)) := ((D4 y0.Newest x1 y0.Least true).bind fun b => (if (b != 0) then some (0, b, y0.Time, y0.sold) else (if decide (((y0.sold.length : Nat) : Int) ≥ 100) then some (0, 4, y0.Time, y0.sold) else (if decide (x2 < y0.Time) then some (0, 5, y0.Time, y0.sold) else (if decide (x2 > 28800) then some (0, 2, y0.Time, y0.sold) else ((K4 y0.Newest x1).bind fun k => (if decide (k < x2) then some (0, 13, y0.Time, y0.sold) else ((mks ((x1.Rides).length : Int) (false : Bool)).bind fun l => ((mks ((x1.Rides).length : Int) (0 : Int)).bind fun m => ((mks ((x1.Rides).length : Int) (0 : Int)).bind fun n => ((gx x1.Rides 0).bind fun o => ((gx x1.Rides 0).bind fun c => ((G5 y0.Newest o c.On).bind fun d => ((gx x1.Rides (w64 (((x1.Rides).length : Int) - 1))).bind fun e => ((gx x1.Rides (w64 (((x1.Rides).length : Int) - 1))).bind fun f => ((G5 y0.Newest e f.Off).bind fun g => ((K4 y0.Newest x1).bind fun h => ((L2 y0.Newest x1).bind fun i => ((E0 x1.Rides).bind fun j => ((apd y0.sold [(C4.mk (C2.mk d.Station g.Station h i 1 (A3.mk j)) l m n 0 0)]).bind fun a => some (w64 (((a.length : Nat) : Int) - 1), 0, x2, a)))))))))))))))))))))
def G1.loop1 (y0 : G3) : Nat → Nat → (List C2) → Option (List C2)
  | 0, _, b => some b
  | c + 1, d, b => ((gx y0.promises ((d : Nat) : Int)).bind fun a => ((E0 a.Promise.Journey.Rides).bind fun e => ((apd b [(C2.mk a.Promise.From a.Promise.To a.Promise.Dep a.Promise.Arr a.Promise.State (A3.mk e))]).bind fun f => G1.loop1 y0 c (d + 1) f)))
def G1 (y0 : G3) : Option (List C2) := ((G1.loop1 y0 y0.promises.length 0 []).bind fun a => some a)
def F0.loop1 (y0 : F3) : Nat → Nat → (List C2) → Option (List C2)
  | 0, _, b => some b
  | c + 1, d, b => ((gx y0.sold ((d : Nat) : Int)).bind fun a => ((E0 a.Promise.Journey.Rides).bind fun e => ((apd b [(C2.mk a.Promise.From a.Promise.To a.Promise.Dep a.Promise.Arr a.Promise.State (A3.mk e))]).bind fun f => F0.loop1 y0 c (d + 1) f)))
def F0 (y0 : F3) : Option (List C2) := ((F0.loop1 y0 y0.sold.length 0 []).bind fun a => some a)
def O3 (x0 : C2) (x1 : C2) : Option Bool := (((if (x0.From == x1.From) then (if (x0.To == x1.To) then (if (x0.Dep == x1.Dep) then (if (x0.Arr == x1.Arr) then (if (x0.State == x1.State) then ((F7 x0.Journey.Rides x1.Journey.Rides).bind fun a => some a) else some false) else some false) else some false) else some false) else some false) : Option Bool).bind fun b => some b)
def D3.loop1 (x1 : List C2) : (List C2) → Nat → Option (Out Bool Unit)
  | [], _ => some (.next ())
  | c :: a, b => ((gx x1 ((b : Nat) : Int)).bind fun d => ((O3 c d).bind fun e => (if !e then some (.ret false) else D3.loop1 x1 a (b + 1))))
def D3 (x0 : List C2) (x1 : List C2) : Option Bool := (if (((x0).length : Int) != ((x1).length : Int)) then some false else ((D3.loop1 x1 x0 0).bind fun a => match a with | .ret r => some r | .next () => some true))
def K2 (x0 : List A4) : Option (List A4) := ((apd [] x0).bind fun a => some a)
def N4 (y0 : G3) : Option (List A4) := ((K2 y0.messages).bind fun a => some a)
def E7.loop1 (x2 : List B0) (x3 : List A3) : Nat → (List Int) → (List B1) → (List (List Int)) → Int → (List C4) → (List A4) → Option (Out Bool ((List Int) × (List B1) × (List (List Int)) × Int × (List C4) × (List A4)))
  | 0, _, _, _, _, _, _ => none
  | i + 1, a, c, d, e, f, g => (if decide (((a).length : Int) ≥ 3) then ((gx a 0).bind fun h => ((gx a 1).bind fun b => ((gx a 2).bind fun _ => ((a2M a 3 ((a).length : Int)).bind fun j => (((if (h == 0) then none else (bnd ((if (h == 1) then (if decide (b ≥ 0) then decide (b < ((x2).length : Int)) else false) else false) : Bool) fun k => (if k then ((gx x2 b).bind fun _ => none) else (bnd ((if decide (b ≥ 0) then decide (b < ((x3).length : Int)) else false) : Bool) fun l => (if l then ((gx x3 b).bind fun _ => none) else some (.next (c, d, e, f, g))))))) : Option (Out Bool ((List B1) × (List (List Int)) × Int × (List C4) × (List A4)))).bind fun m => match m with | .ret r => some (.ret r) | .next (n, o, p, q, s) => ((none : Option Bool).bind fun t => (if t then some (.ret false) else E7.loop1 x2 x3 i j n o p q s))))))) else some (.next (a, c, d, e, f, g)))
noncomputable def E7.loop2 (x1 : Int) (x2 : List B0) (x3 : List A3) (fu : Nat) : Nat → (List Int) → (List B1) → (List (List Int)) → Int → (List C4) → (List A4) → (List B1) → (List (List Int)) → Int → Int → (List C5) → (List A4) → Option (Out Bool ((List Int) × (List B1) × (List (List Int)) × Int × (List C4) × (List A4) × (List B1) × (List (List Int)) × Int × Int × (List C5) × (List A4)))
  | 0, _, _, _, _, _, _, _, _, _, _, _, _ => none
  | I + 1, f, b, c, g, h, d, i, j, k, n, o, l => (if decide (((f).length : Int) ≥ 3) then ((gx f 0).bind fun C => ((gx f 1).bind fun a => ((gx f 2).bind fun p => ((a2M f 3 ((f).length : Int)).bind fun J => (((if (C == 0) then ((M2 fu a (G3.mk (D7.mk (B0.mk i j) k) n o l)).bind fun t => ((L1 fu a (F3.mk (B0.mk b c) x1 g h d)).bind fun u => (((if (t.2.2 != u.2.2) then some true else (if (t.2.1 != u.2.1) then some true else ((O4 t.1 u.1).bind fun K => some !K))) : Option Bool).bind fun L => (if L then some (.ret false) else some (.next (b, c, g, h, d, i, j, k, n, o, l)))))) else (bnd ((if (C == 1) then (if decide (a ≥ 0) then decide (a < ((x2).length : Int)) else false) else false) : Bool) fun M => (if M then ((gx x2 a).bind fun N => ((D6 N p (G3.mk (D7.mk (B0.mk i j) k) n o l)).bind fun e => ((gx x2 a).bind fun O => ((C0 O).bind fun D => (((if (D == 0) then ((gx x2 a).bind fun P => ((G6 fu P p (F3.mk (B0.mk b c) x1 g h d)).bind fun m => some (m.1, m.2.1, m.2.2.1, m.2.2.2.1, m.2.2.2.2.1, m.2.2.2.2.2.1, m.2.2.2.2.2.2))) else some ([], D, h, b, c, g, d)) : Option ((List A4) × Int × (List C4) × (List B1) × (List (List Int)) × Int × (List A4))).bind fun Q => match Q with | (R, S, T, U, V, W, X) => (((if (e.2.1 != S) then some true else ((E9 e.1 R).bind fun Y => some !Y)) : Option Bool).bind fun Z => (if Z then some (.ret false) else some (.next (U, V, W, T, X, e.2.2.2.1, e.2.2.2.2.1, e.2.2.2.2.2.1, e.2.2.2.2.2.2.1, e.2.2.1, e.2.2.2.2.2.2.2))))))))) else (bnd ((if decide (a ≥ 0) then decide (a < ((x3).length : Int)) else false) : Bool) fun aa => (if aa then ((gx x3 a).bind fun ab => ((O8 ab p (G3.mk (D7.mk (B0.mk i j) k) n o l)).bind fun q => ((gx x3 a).bind fun ad => ((M1 ad p (F3.mk (B0.mk b c) x1 g h d)).bind fun s => (bnd ((if (q.2.1 != s.2.1) then true else (q.1 != s.1)) : Bool) fun ae => (if ae then some (.ret false) else some (.next (b, c, s.2.2.1, s.2.2.2, d, i, j, k, q.2.2.1, q.2.2.2, l)))))))) else some (.next (b, c, g, h, d, i, j, k, n, o, l))))))) : Option (Out Bool ((List B1) × (List (List Int)) × Int × (List C4) × (List A4) × (List B1) × (List (List Int)) × Int × Int × (List C5) × (List A4)))).bind fun af => match af with | .ret r => some (.ret r) | .next (E, F, G, H, v, w, x, y, z, A, B) => ((((G1 (G3.mk (D7.mk (B0.mk w x) y) z A B)).bind fun ag => ((F0 (F3.mk (B0.mk E F) x1 G H v)).bind fun ah => ((D3 ag ah).bind fun ai => (if !ai then some true else ((N4 (G3.mk (D7.mk (B0.mk w x) y) z A B)).bind fun aj => ((E9 aj v).bind fun ak => some !ak)))))) : Option Bool).bind fun al => (if al then some (.ret false) else E7.loop2 x1 x2 x3 fu I J E F G H v w x y z A B))))))) else some (.next (f, b, c, g, h, d, i, j, k, n, o, l)))
noncomputable def E7 (fu : Nat) (x0 : B0) (x1 : Int) (x2 : List B0) (x3 : List A3) (x4 : List Int) : Option Bool := ((P7 x0 x1).bind fun a => (match a.1 with | none => ((C0 x0).bind fun d => (bnd ((if (d == 0) then (if decide (x1 < 0) then true else decide (x1 > 28800)) else false) : Bool) fun w => (bnd ((if w then 2 else d) : Int) fun e => ((((Q3).bind fun f => (if !f then some true else some (a.2 != e))) : Option Bool).bind fun x => (if x then some false else (if (e != 0) then some true else ((E7.loop1 x2 x3 fu x4 x0.Trains x0.Turns 0 ([] : List C4) []).bind fun g => match g with | .ret r => some r | .next (_, _, _, _, _, _) => none))))))) | some d58 => ((C0 x0).bind fun b => (bnd ((if (b == 0) then (if decide (x1 < 0) then true else decide (x1 > 28800)) else false) : Bool) fun h => (bnd ((if h then 2 else b) : Int) fun c => ((((Q3).bind fun i => (if !i then some true else some (a.2 != c))) : Option Bool).bind fun j => (if j then some false else (if (c != 0) then some false else ((E7.loop2 x1 x2 x3 fu fu x4 x0.Trains x0.Turns 0 ([] : List C4) [] d58.1 d58.2.1 d58.2.2.1 d58.2.2.2.1 d58.2.2.2.2.1 d58.2.2.2.2.2).bind fun k => match k with | .ret r => some r | .next (_, l, m, _, _, _, n, o, p, q, s, t) => ((N5 (G3.mk (D7.mk (B0.mk n o) p) q s t)).bind fun u => ((N6 u (B0.mk l m)).bind fun v => some v)))))))))))
end Go.Fp
