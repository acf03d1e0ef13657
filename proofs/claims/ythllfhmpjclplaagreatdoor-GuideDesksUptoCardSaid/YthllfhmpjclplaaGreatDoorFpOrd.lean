/- Parts of memory brought into another order, in one step. No condition. -/
import Derived.Test.YthllfhmpjclplaaGreatDoorFpBase
namespace Go.Fp
open Go
def picks (rs : List HP) : List Nat → List HP
  | [] => rs
  | i :: is => match rs[i]? with | some r => r :: picks (rs.eraseIdx i) is | none => rs
theorem Sat.picks : ∀ (is : List Nat) {rs : List HP} {h : Hp}, Sat rs h → Sat (picks rs is) h
  | [], rs, h, q => q
  | i :: is, rs, h, q => by
    unfold Fp.picks
    split
    · rename_i r hr
      have h1 : Sat (r :: rs.eraseIdx i) h := by
        refine Sat.perm ?_ q
        clear q
        induction rs generalizing i with
        | nil => simp at hr
        | cons x l ih =>
          cases i with
          | zero => simp at hr; subst hr; exact List.Perm.refl _
          | succ i => simp at hr; simp only [List.eraseIdx_cons_succ]; exact ((ih i hr).cons x).trans (List.Perm.swap _ _ _)
      exact Sat.under (fun _ q => Sat.picks is q) h1
    · exact q
theorem St.order {w : World} {s : Sg} {rs rs' : List HP} (q : St w s rs) (is : List Nat) (h : picks rs is = rs') : St w s rs' := by
  subst h; exact q.map fun _ => Sat.picks is
end Go.Fp
