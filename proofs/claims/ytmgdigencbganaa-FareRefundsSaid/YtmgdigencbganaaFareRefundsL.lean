/- FareRefunds: the mirror of the law is true of all prices, delays and lists. -/
import Derived.Test.YtmgdigencbganaaFareRefundsM
import Derived.Test.YtmgdigencbganaaFpPlain
import Derived.KernelRfl
namespace Go.Fp

theorem within_ref : Fishref2within = Farewithin := rfl
theorem refund_loop (t : Int) (l : List FareBack) : ∀ (r : List FareBack) (k : Nat) (q : Int), Fishref2RefundOf.loop1 t l r k q = FareRefund.loop1 t l r k q
  | [], _, _ => rfl
  | x :: r, k, q => by simp only [Fishref2RefundOf.loop1, FareRefund.loop1, within_ref, refund_loop t l r]; rfl
theorem refund_tot (t : Int) (l : List FareBack) (hl : l.length ≤ 8) : ∀ (r : List FareBack) (k : Nat) (q : Int), l.drop k = r → Tot (FareRefund.loop1 t l r k q)
  | [], _, q, _ => .some _
  | x :: r, k, q, hd => by
    obtain ⟨d1, d2, d3⟩ := drop_cons hd
    rw [FareRefund.loop1]
    refine .bnd (.ite (fun _ => .some _) fun _ => .bind (.ite (fun h => ?_) fun _ => .some _) fun _ _ => .ite (fun _ => .some _) fun _ => .bnd (refund_tot t l hl r (k + 1) _ d3))
    have hk : 0 < k := by have := of_decide_eq_true h; omega
    have hp := gx_prev (l := l) hk (by omega) (by omega)
    exact .bind1 hp (.ite (fun _ => .some _) fun _ => .bind1 hp (.some _))
theorem fares_true (n : Nat) : Fishlaw2fares (n + 60) = some true := by kernel_rfl

theorem FareRefunds_law (p t : Int) (l : List FareBack) (_ : -9223372036854775808 ≤ p ∧ p ≤ 9223372036854775807) (_ : -9223372036854775808 ≤ t ∧ t ≤ 9223372036854775807) (_ : l.length ≤ 9223372036854775807) : ∃ fu, Fishlaw2FareRefunds fu p t l = some true := by
  refine ⟨0 + 60, ?_⟩
  unfold Fishlaw2FareRefunds
  rw [fares_true]
  have e : Fishref2RefundOf p t l = FareRefund p t l := by
    unfold Fishref2RefundOf FareRefund
    simp only [within_ref, refund_loop]; rfl
  rw [e]
  obtain ⟨z, hz⟩ : Tot (FareRefund p t l) := by
    unfold FareRefund
    refine .bnd (.ite (fun _ => .some _) fun _ => .ite (fun _ => .some _) fun h => .bind (refund_tot t l ?_ l 0 0 rfl) fun z _ => ?_)
    · have := of_decide_eq_false h; omega
    · cases z <;> exact .some _
  simp [hz]

end Go.Fp
