/- A region whose order is open, with two classes of worlds: the parts of memory told by what they leave out. No condition. -/
import Derived.Test.YtngamgkmhgmmjaaGreatDoorFpReg
namespace Go.Fp
open Go
def drs : List Nat → List HP → List HP
  | [], R => R
  | i :: is, R => drs is (R.eraseIdx i)
theorem rE {P : Program} {K : Kt} {a : Act} {w : World} {s : Sg} {R : List HP} (_hS : St w s R) (is js A B : List Nat) {id : Nat} {l : List Oper} (hm : P.follows .mixedOrders = true)
    (h : Rg P .any l.toArray (KB K.nor).q (sel (fun w => St w s (drs is R)) (fun w => St w s (drs js R))) (fun b i => cond b (A.contains i) (B.contains i)) (tw true true) l.length (Array.replicate l.length false) a w.drew)
    (hd : nodefer l = true := by rfl) : W P (.region id l.toArray true) K a w := W.regionE _ _ hm h hd
end Go.Fp
