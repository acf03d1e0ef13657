/- Short words for what the walks say most often. No condition. -/
import Derived.Test.YtfdifpegldailaaGreatDoorFpReg
namespace Go.Fp
open Go
abbrev pp (b : Nat) : Value := .pointer (some ⟨b, 0, none⟩)
abbrev pc (b : Nat) (c : Array Value) (T : TypeId) : HP := pt b (.cells c T (0, 0))
abbrev vi (x : Int) : Value := .int .i64 x
abbrev dup (A : World → Prop) : Bool → World → Prop := sel A A
section
variable {P : Program} {K : Kt} {a : Act} {w : World} {s : Sg} {R : List HP} {n : Nat} {E : Env} {ops : Array Oper} {rest : List Oper} {o : Oper}
theorem vp (hS : St w s R) (hE : Rep a n E) {v : Value} (hv : pop E.ev o.op = some v) (hd : dstOk o.dst n = true) (k : ∀ a, Rep a n (E.put o.dst v) → WL P ops K rest a w) (hg : o.guard = none := by rfl) : WL P ops K (o :: rest) a w := vP hS hE (Gives.p hE hv) hd k hg
theorem nO (hE : Rep a n E) {j d : Nat} {b c : Bool} (h : o.guard = some (j, b)) (hj : (ops[j]?).bind (·.dst) = some d) (hd : E.get d = some (.bool c)) (hbc : c ≠ b) (he : dstOk o.dst n = true)
    (k : ∀ a, Rep a n (E.put o.dst undef) → WL P ops K rest a w) : WL P ops K (o :: rest) a w := WL.no hE (runs_not hE h hj hd hbc) he k
theorem v2 {o2 : Oper} (hS : St w s R) (hE : Rep a n E) {v u : Value} (hv : pop E.ev o.op = some v) (hd : dstOk o.dst n = true) (hu : pop (E.put o.dst v).ev o2.op = some u) (he : dstOk o2.dst n = true)
    (k : ∀ a, Rep a n ((E.put o.dst v).put o2.dst u) → WL P ops K rest a w) (hg : o.guard = none := by rfl) (hf : o2.guard = none := by rfl) : WL P ops K (o :: o2 :: rest) a w :=
  vp hS hE hv hd (fun _ hE => vp hS hE hu he k hf) hg
end
section
variable {P : Program} {ops : Array Oper} {A B : World → Prop} {pre : Bool → Nat → Bool} {k0 : Act → World → Prop} {N : Nat} {E : Env} {a : Act} {w : World} {x y : Bool}
theorem tP {i : Nat} {o : Oper} {v : Value} {k : Nat} {l : Array Bool} (hE : Rep a N E) (hi : ops[i]? = some o) (hB : tkP ops l pre i = true) (hv : Gives P (fun _ => True) a o v) (hd : dstOk o.dst N = true) (h1 : A w) (h2 : B w)
    (q : ∀ a, Rep a N (E.put o.dst v) → Rg P .any ops (KB k0).q (sel A B) pre (tw x y) k (l.setIfInBounds i true) a w) (hg : o.guard = none := by rfl) : Rg P .any ops (KB k0).q (sel A B) pre (tw x y) (k + 1) l a w :=
  Rg.takeP hE hi hB (runs_plain hg) hv hd (tw_sel (fun _ => h1) (fun _ => h2)) q
theorem tT {i : Nat} {o : Oper} {v : Value} {k : Nat} {l : Array Bool} (b : Bool) (hb : tw x y b = true) (hE : Rep a N E) (hi : ops[i]? = some o) (hB : tkB ops l pre b i = true) (hv : Gives P (sel A B b) a o v) (hd : dstOk o.dst N = true) (h1 : A w) (h2 : B w)
    (q : ∀ a, Rep a N (E.put o.dst v) → Rg P .any ops (KB k0).q (sel A B) pre (tw x y) k (l.setIfInBounds i true) a w) (hg : o.guard = none := by rfl) : Rg P .any ops (KB k0).q (sel A B) pre (tw x y) (k + 1) l a w :=
  Rg.take b hb hE hi hB (runs_plain hg) hv hd (tw_sel (fun _ => h1) (fun _ => h2)) q
end
end Go.Fp
