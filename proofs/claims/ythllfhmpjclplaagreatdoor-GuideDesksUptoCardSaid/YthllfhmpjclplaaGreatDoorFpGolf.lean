/- Short words for steps of the walks. No condition. -/
import Derived.Test.YthllfhmpjclplaaGreatDoorFpSeg
namespace Go.Fp
open Go
theorem lr {s : Sg} : s.Le s := Sg.Le.refl s
theorem oi {α : Type} {a b : α} (h : some a = some b) : a = b := Option.some.inj h
theorem gxS {α β : Type} {l : List α} {i : Int} {f : α → Option β} {r : β} (h : (gx l i).bind f = some r) : ∃ x, i = (i.toNat : Int) ∧ i.toNat < l.length ∧ l[i.toNat]? = some x ∧ f x = some r := by
  obtain ⟨x, h1, h2⟩ := B4 h
  obtain ⟨h3, h4, h5⟩ := W8 h1
  exact ⟨x, h3, h4, h5, h2⟩
class MR {α : Type} (R : Rd α) : Prop where
  m : O7 R
class MO {α : Type} (O : Ob α) : Prop where
  m : a4P O
instance {k : IntKind} : MR (RI k) := ⟨RI.mono⟩
instance : MR RB := ⟨RB.mono⟩
instance {α : Type} {n : Nat} {R : Rd α} [h : MR R] : MR (RL n R) := ⟨RL.mono h.m⟩
class Mo (s t : Sg) (A : Prop) (B : outParam Prop) : Prop where
  g : s.Le t → A → B
instance {α : Type} {n c : Nat} {R : Rd α} {s t : Sg} {a : Option Addr} {l : List α} [h : MR R] : Mo s t (Sl n R s a c l) (Sl n R t a c l) := ⟨fun k q => q.mono h.m k⟩
instance {α : Type} {n : Nat} {R : Rd α} {s t : Sg} {a : List Value} {l : List α} [h : MR R] : Mo s t (Ev n R s a l) (Ev n R t a l) := ⟨fun k q => q.mono h.m k⟩
instance {α : Type} {n : Nat} {O : Ob α} {s t : Sg} {a : a0o} {l : List α} [h : MO O] : Mo s t (HEv n O s a l) (HEv n O t a l) := ⟨fun k q => q.mono h.m k⟩
section
variable {s t : Sg} {A B C D A' B' C' D' : Prop} [i : Mo s t A A'] [j : Mo s t B B'] [k : Mo s t C C'] [l : Mo s t D D'] (h : s.Le t)
include i h
theorem m1 (a : A) : A' := i.g h a
include j
theorem m2 (a : A) (b : B) : A' ∧ B' := ⟨i.g h a, j.g h b⟩
include k
theorem m3 (a : A) (b : B) (c : C) : A' ∧ B' ∧ C' := ⟨i.g h a, j.g h b, k.g h c⟩
include l
theorem m4 (a : A) (b : B) (c : C) (d : D) : A' ∧ B' ∧ C' ∧ D' := ⟨i.g h a, j.g h b, k.g h c, l.g h d⟩
end
theorem r3 {x y A C : Prop} (h1 : A) (h : C) : ((x → A) ∧ (y → A)) ∧ C := ⟨⟨fun _ => h1, fun _ => h1⟩, h⟩
theorem r2 {x y A B C : Prop} (h1 : A) (h2 : B) (h : C) : ((x → A) ∧ (y → B)) ∧ C := ⟨⟨fun _ => h1, fun _ => h2⟩, h⟩
theorem rf {A y B C : Prop} (h2 : B) (h : C) : ((false = true → A) ∧ (y → B)) ∧ C := ⟨⟨fun h => absurd h (by decide), fun _ => h2⟩, h⟩
section
variable {P : Program} {K : Kt} {a : Act} {w : World} {s : Sg} {R : List HP} {n : Nat} {E E' : Env} {ops : Array Oper} {rest : List Oper} {d : Option Tmp} {ty : TypeId} {pos : String} {aft : Array Edge}
theorem Rep.pk (h : Rep a n E) (k : a7Y E E' := by repeat (first | exact trivial | refine ⟨rfl, ?_⟩)) (hm : E'.marks = E.marks := by rfl) : Rep a n E' := h.pick E' k hm
theorem fq (hE : Rep a n E) {f : FuncId} {xs : List Operand} {vs : List Value} {args : Array Value} {ts : Array TypeId} {Q : Ending → World → Prop} (hc : Calls P f args w Q)
    (q : ∀ e w, Q e w → ∃ v, e = .returned v ∧ ∀ a, Rep a n (E.put d v) → WL P ops K rest a w) (hb : J7 P f = true := by kernel_rfl) (hx : evs E.ev xs = some vs := by rfl) (ha : vs.toArray = args := by rfl) (hd : J5 d n = true := by rfl) :
    WL P ops K (⟨d, .call ⟨.value (.func f), xs.toArray, ts⟩, ty, pos, aft, none⟩ :: rest) a w := WL.fnq hE hc (A0 rfl) hb hx ha hd q
theorem bw (hE : Rep a n E) (hS : St w s R) {t : TypeId} {x : Operand} {v : Value} {cs : List Value} (q : ∀ b a w, Rep a n (E.put d (.pointer (some ⟨b, 0, none⟩))) → St w s (pt b (.cells cs.toArray t (0, 0)) :: R) → WL P ops K rest a w)
    (hx : E.ev x = some v := by rfl) (hc : v.cells = cs.toArray := by rfl) (hd : J5 d n = true := by rfl) : WL P ops K (⟨d, .box t x, ty, pos, aft, none⟩ :: rest) a w := WL.box hE hS (A0 rfl) hx hc hd q
theorem al (hE : Rep a n E) (hS : St w s R) {t : TypeId} {cs : List Value} (hz : (P.info? t).bind (fun i => i.zero.map fun z => z.cells.toList) = some cs) (q : ∀ b a w, Rep a n (E.put d (.pointer (some ⟨b, 0, none⟩))) → St w s (pt b (.cells cs.toArray t (0, 0)) :: R) → WL P ops K rest a w)
    (hd : J5 d n = true := by rfl) : WL P ops K (⟨d, .alloc t, ty, pos, aft, none⟩ :: rest) a w := WL.alloc hE hS (A0 rfl) hz hd q
theorem fg {fn : Func} {Q : Ending → World → Prop} {rs : List ResultVar} (vs : List Value) (hE : Rep a n E) (hR : Q (.returned (a8a vs)) w) (hr : fn.results = rs.toArray := by rfl) (h : a6N P w E rs vs := by repeat (first | exact trivial | refine ⟨rfl, ?_⟩)) (hm : E.marks = [] := by rfl) : a8P P fn Q a w := a0b hE hr h hR hm
end
section
variable {P : Program} {ops : Array Oper} {S : Bool → World → Prop} {pre : Bool → Nat → Bool} {k0 : Act → World → Prop} {a : Act} {w : World}
theorem ro (i : Nat) (x' y' : Bool) {o : Oper} {k : Nat} {l : Array Bool} {x y : Bool}
    (h : WL P ops (KB fun a w => ((x' = true → S true w) ∧ (y' = true → S false w)) ∧ Rg P .any ops (KB k0).q S pre (tw x' y') k (l.setIfInBounds i true) a w) [o] a w) (hi : ops[i]? = some o := by rfl) (hr : Region.ready .any ops l = [i] := by kernel_rfl) (h1 : (x && pre true i) = x' := by kernel_rfl) (h2 : (y && pre false i) = y' := by kernel_rfl) :
    Rg P .any ops (KB k0).q S pre (tw x y) (k + 1) l a w := Rg.one x' y' hi hr h1 h2 h
theorem bk (i : Nat) (x' y' : Bool) {o : Oper} {k : Nat} {l : Array Bool} {x y : Bool}
    (h : WL P ops (KB fun a w => ((x' = true → S true w) ∧ (y' = true → S false w)) ∧ Rg P .any ops (KB k0).q S pre (tw x' y') k (l.setIfInBounds i true) a w) [o] a w) (hi : ops[i]? = some o := by rfl) (h1 : (x && pre true i) = x' := by kernel_rfl) (h2 : (y && pre false i) = y' := by kernel_rfl) :
    Br P ops S pre k0 x y k l a w i := Br.mk x' y' hi h1 h2 h
end
end Go.Fp
