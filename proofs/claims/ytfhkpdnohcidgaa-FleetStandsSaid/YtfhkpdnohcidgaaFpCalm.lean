/- A grid of the call's own whose rows are laid to rest: a slice of the call's own of rows that stay. No condition. -/
import Derived.Test.YtfhkpdnohcidgaaFpNest
namespace Go.Fp
open Go
section
variable {w : World} {s : Sg} {R : List HP} {T Ti es : Nat} {a : Option Addr} {c n : Nat} {ds : List In}
theorem St.calmN {α : Type} {Rr : Rd α} (hR : Rmono Rr) {l : List (List α)} (i : Nat) (hS : St w s R) (hr : R[i]? = some (nestC T Ti es a c n ds)) (hv : NEv es Rr s ds l) :
    ∃ t, s.Le t ∧ St w t (vecC T 1 a c n (ds.map In.cell) :: R.eraseIdx i) ∧ Ev 1 (RL es Rr) t (ds.map In.cell) l := by
  have h1 := (hS.nSplit i hr).swap
  obtain ⟨t1, l1, hS1, hs1, _⟩ := St.lendIns hR ds l h1 hv
  refine ⟨t1, l1, hS1, ⟨by simp [hv.len], ?_⟩⟩
  intro k x hk
  have hk' : k < ds.length := by rw [hv.len]; exact (List.getElem?_eq_some_iff.1 hk).1
  obtain ⟨q1, q2⟩ := hs1 k ds[k] x (List.getElem?_eq_getElem hk') hk
  refine ⟨ds[k].a, ds[k].c, ?_, q1⟩
  rw [q2]
  have e : ((ds.map In.cell).drop (k * 1)).take 1 = [(ds[k]).cell] := by
    rw [Nat.mul_one, List.drop_eq_getElem_cons (by simpa using hk')]; simp
  rw [e]; rfl
end
end Go.Fp
