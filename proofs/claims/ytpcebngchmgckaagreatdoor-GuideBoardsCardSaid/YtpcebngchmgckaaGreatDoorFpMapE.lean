/- Maps of the call's own whose elements are structs that hold what stays. No condition. -/
import Derived.Test.YtpcebngchmgckaaGreatDoorFpMap
import Derived.Test.YtpcebngchmgckaaGreatDoorFpNest
namespace Go.Fp
open Go
def aggv (cs : List Value) : Value := .agg cs.toArray
def MRv {κ α : Type} (Rr : Rd α) (s : Sg) : List (κ × List Value) → List (κ × α) → Prop
  | [], [] => True
  | p :: l, q :: m => p.1 = q.1 ∧ Rr s p.2 q.2 ∧ MRv Rr s l m
  | _, _ => False
section
variable {κ α : Type} {Rr : Rd α} {s t : Sg}
theorem MRv.mono (hR : Rmono Rr) (h : s.Le t) : ∀ {l : List (κ × List Value)} {m : List (κ × α)}, MRv Rr s l m → MRv Rr t l m
  | [], [], _ => trivial
  | [], _ :: _, q => q.elim
  | _ :: _, [], q => q.elim
  | _ :: _, _ :: _, ⟨h1, h2, h3⟩ => ⟨h1, hR _ _ h _ _ h2, MRv.mono hR h h3⟩
theorem MRv.at [BEq κ] {zc : List Value} {zx : α} (hz : Rr s zc zx) : ∀ {l : List (κ × List Value)} {m : List (κ × α)}, MRv Rr s l m → ∀ k : κ, ∃ cs, (mget l k).getD zc = cs ∧ Rr s cs ((mget m k).getD zx)
  | [], [], _, _ => ⟨zc, rfl, hz⟩
  | [], _ :: _, q, _ => q.elim
  | _ :: _, [], q, _ => q.elim
  | (j, d) :: l, (j', x) :: m, ⟨h1, h2, h3⟩, k => by
    simp only at h1 h2
    subst h1
    simp only [mget]
    cases hk : (k == j) with
    | true => exact ⟨d, rfl, h2⟩
    | false => simpa using MRv.at hz h3 k
theorem MRv.same [BEq κ] : ∀ {l : List (κ × List Value)} {m : List (κ × α)}, MRv Rr s l m → ∀ k : κ, (mget l k).isSome = (mget m k).isSome
  | [], [], _, _ => rfl
  | [], _ :: _, q, _ => q.elim
  | _ :: _, [], q, _ => q.elim
  | (j, d) :: l, (j', x) :: m, ⟨h1, h2, h3⟩, k => by
    simp only at h1 h2
    subst h1
    simp only [mget]
    cases hk : (k == j) with
    | true => rfl
    | false => simpa using MRv.same h3 k
theorem MRv.put [BEq κ] {cs : List Value} {x : α} (h : Rr s cs x) : ∀ {l : List (κ × List Value)} {m : List (κ × α)}, MRv Rr s l m → ∀ k : κ, MRv Rr s (mput l k cs) (mput m k x)
  | [], [], _, _ => ⟨rfl, h, trivial⟩
  | [], _ :: _, q, _ => q.elim
  | _ :: _, [], q, _ => q.elim
  | (j, d) :: l, (j', y) :: m, ⟨h1, h2, h3⟩, k => by
    simp only at h1 h2
    subst h1
    simp only [mput]
    cases hk : (k == j) with
    | true => simp only [if_true]; exact ⟨rfl, h, h3⟩
    | false => simp only [Bool.false_eq_true, if_false]; exact ⟨rfl, h2, MRv.put h h3 k⟩
end
section
variable {P : Program} {a : Act} {n : Nat} {E : Env} {d : Option Tmp} {ty : TypeId} {pos : String} {aft : Array Edge} {g : Option (Nat × Bool)} {s : Sg} {R : List HP} {κ : Type}
theorem Gives.meGet [BEq κ] (K' : KeyK κ) (hE : Rep a n E) (i : Nat) {t kt vt : TypeId} {x y : Operand} {b : Nat} {l : List (κ × List Value)} {k : κ} {z dd : List Value}
    (hx : E.ev x = some (.map (some b))) (hy : E.ev y = some (K'.f k)) (hr : R[i]? = some (mapC K'.f aggv b l)) (ht : mpOk P K'.ok t kt vt = true)
    (hz : (P.info? vt).bind (fun i => i.zero) = some (aggv z)) (hd : (mget l k).getD z = dd) : Gives P (fun w => St w s R) a ⟨d, .lookup t x y false, ty, pos, aft, g⟩ (.agg dd.toArray) := by
  subst hd
  exact Gives.mapGet (z := z) K' hE i hx hy hr ht hz
end
end Go.Fp
