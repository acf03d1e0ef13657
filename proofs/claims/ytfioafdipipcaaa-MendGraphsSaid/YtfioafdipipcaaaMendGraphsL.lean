/- MendGraphs: the mirror of the law is true of all graphs. -/
import Derived.Test.YtfioafdipipcaaaMendGraphsM
import Derived.Test.YtfioafdipipcaaaFpPlain
import Derived.KernelRfl
namespace Go.Fp

theorem mwithin (x a b : Int) : Mendwithin x a b = decide (a ≤ x ∧ x ≤ b) := by
  unfold Mendwithin bnd
  by_cases h : a ≤ x <;> simp [h]
theorem rwithin (x a b : Int) : Fishref2within x a b = decide (a ≤ x ∧ x ≤ b) := by
  unfold Fishref2within bnd
  by_cases h : a ≤ x <;> simp [h]
/-- what is wrong with an arc -/
def arcF (n : Int) (a : MendArc) : Int :=
  if 0 ≤ a.From ∧ a.From < n ∧ 0 ≤ a.To ∧ a.To < n then (if a.From = a.To then 1 else if -28800 ≤ a.Len ∧ a.Len ≤ 28800 then 0 else 2) else 3
theorem arc_m (n : Nat) (hn : n ≤ 9223372036854775807) (a : MendArc) (k : Out Int Unit) :
    (bnd ((if !(Mendwithin a.From 0 (w64 (((n : Nat) : Int) - 1))) then true else !(Mendwithin a.To 0 (w64 (((n : Nat) : Int) - 1)))) : Bool) fun q73 => (if q73 then (.ret 3) else (if (a.From == a.To) then (.ret 1) else (if !(Mendwithin a.Len (-28800) 28800) then (.ret 2) else k))))
      = (if arcF n a != 0 then .ret (arcF n a) else k) := by
  rw [w64_id (by omega)]
  simp only [mwithin, bnd]
  by_cases h1 : 0 ≤ a.From ∧ a.From < n ∧ 0 ≤ a.To ∧ a.To < n
  · have e1 : decide (0 ≤ a.From ∧ a.From ≤ (n : Int) - 1) = true := by simp; omega
    have e2 : decide (0 ≤ a.To ∧ a.To ≤ (n : Int) - 1) = true := by simp; omega
    have e3 : arcF n a = (if a.From = a.To then 1 else if -28800 ≤ a.Len ∧ a.Len ≤ 28800 then 0 else 2) := if_pos h1
    simp only [e1, e2, e3]
    by_cases h2 : a.From = a.To <;> by_cases h3 : -28800 ≤ a.Len ∧ a.Len ≤ 28800 <;> simp [h2, h3]
  · have e1 : (if (!decide (0 ≤ a.From ∧ a.From ≤ (n : Int) - 1)) = true then true else !decide (0 ≤ a.To ∧ a.To ≤ (n : Int) - 1)) = true := by
      by_cases h4 : 0 ≤ a.From ∧ a.From ≤ (n : Int) - 1 <;> by_cases h5 : 0 ≤ a.To ∧ a.To ≤ (n : Int) - 1
      · exfalso; omega
      all_goals simp [h4, h5]
    have e3 : arcF n a = 3 := if_neg h1
    simp only [e1, e3]; rfl
theorem arc_r (n : Int) (a : MendArc) : Fishref2arcFault a n = arcF n a := by
  unfold Fishref2arcFault bnd arcF
  simp only [rwithin]
  by_cases h1 : 0 ≤ a.From ∧ a.From < n ∧ 0 ≤ a.To ∧ a.To < n
  · have : (if decide (a.From < 0) = true then true else if decide (a.From ≥ n) = true then true else if decide (a.To < 0) = true then true else decide (a.To ≥ n)) = false := by
      have := h1.1; have := h1.2.1; have := h1.2.2.1; have := h1.2.2.2
      simp; omega
    simp only [this, h1]
    by_cases h2 : a.From = a.To <;> by_cases h3 : -28800 ≤ a.Len ∧ a.Len ≤ 28800 <;> simp [h2, h3]
  · have : (if decide (a.From < 0) = true then true else if decide (a.From ≥ n) = true then true else if decide (a.To < 0) = true then true else decide (a.To ≥ n)) = true := by
      simp; omega
    rw [this, if_neg h1]; rfl
/-- what is wrong with arcs -/
def arcsF (n : Int) : List MendArc → Out Int Unit
  | [] => .next ()
  | a :: l => if arcF n a != 0 then .ret (arcF n a) else arcsF n l
theorem arcs_m (x : MendGraph) (hn : x.Ready.length ≤ 9223372036854775807) : ∀ l, MendcheckArcs.loop1 x l = arcsF x.Ready.length l
  | [] => rfl
  | a :: l => by rw [MendcheckArcs.loop1, arc_m _ hn, arcs_m x hn l, arcsF]
theorem arcs_r2 (x : MendGraph) : ∀ l, Fishref2GraphFault.loop2 x l = arcsF x.Ready.length l
  | [] => rfl
  | a :: l => by rw [Fishref2GraphFault.loop2, arc_r, arcs_r2 x l, arcsF]
theorem arcs_r5 (x : MendGraph) : ∀ l, Fishref2GraphFault.loop5 x l = arcsF x.Ready.length l
  | [] => rfl
  | a :: l => by rw [Fishref2GraphFault.loop5, arc_r, arcs_r5 x l, arcsF]
theorem arcsF_ne {n : Int} : ∀ {l : List MendArc} {r : Int}, arcsF n l = .ret r → r ≠ 0
  | a :: l, r, h => by
    unfold arcsF at h
    by_cases h1 : arcF n a != 0
    · rw [if_pos h1] at h; injection h with h; subst h; simpa using h1
    · rw [if_neg h1] at h; exact arcsF_ne h
theorem checkArcs_m (x : MendGraph) (hn : x.Ready.length ≤ 9223372036854775807) (l : List MendArc) : MendcheckArcs x l = (match arcsF x.Ready.length l with | .ret r => r | .next () => 0) := by
  unfold MendcheckArcs bnd; rw [arcs_m x hn]; rfl
theorem checkArcs_if {β : Type} (x : MendGraph) (hn : x.Ready.length ≤ 9223372036854775807) (l : List MendArc) (f : Int → β) (k : β) :
    (if ((MendcheckArcs x l) != 0) then f (MendcheckArcs x l) else k) = (match arcsF x.Ready.length l with | .ret r => f r | .next () => k) := by
  rw [checkArcs_m x hn]
  cases h : arcsF x.Ready.length l with
  | ret r => have := arcsF_ne h; simp [this]
  | next u => cases u; rfl
theorem ways_eq (x : MendGraph) (hn : x.Ready.length ≤ 9223372036854775807) : ∀ l, MendCheckGraph.loop3 x l = Fishref2GraphFault.loop4 x l
  | [] => rfl
  | w :: l => by
    rw [MendCheckGraph.loop3, Fishref2GraphFault.loop4, checkArcs_if x hn w (fun r => (.ret r : Out Int Unit)), ways_eq x hn l, arcs_r5]
    rfl
theorem choices_eq (x : MendGraph) (hn : x.Ready.length ≤ 9223372036854775807) : ∀ l, MendCheckGraph.loop2 x l = Fishref2GraphFault.loop3 x l
  | [] => rfl
  | c :: l => by
    rw [MendCheckGraph.loop2, Fishref2GraphFault.loop3, ways_eq x hn, choices_eq x hn l]
theorem nodes_eq (x : MendGraph) : ∀ l k, MendCheckGraph.loop1 x l k = Fishref2GraphFault.loop1 x l k
  | [], _ => rfl
  | c :: l, k => by
    rw [MendCheckGraph.loop1, Fishref2GraphFault.loop1]
    simp only [mwithin, rwithin, nodes_eq x l]
theorem graph_eq (x : MendGraph) (hn : x.Ready.length ≤ 9223372036854775807) : MendCheckGraph x = Fishref2GraphFault x := by
  unfold MendCheckGraph Fishref2GraphFault
  simp only [nodes_eq, choices_eq x hn, checkArcs_if x hn x.Arcs (fun r => some r), arcs_r2, bnd]
  rfl
/-- there is an answer -/
theorem nodes_tot (x : MendGraph) (h1 : x.Last.length = x.Ready.length) (h2 : x.Due.length = x.Ready.length) : ∀ l k, k + l.length = x.Ready.length → Tot (Fishref2GraphFault.loop1 x l k)
  | [], _, _ => Tot.some _
  | c :: l, k, h => by
    rw [Fishref2GraphFault.loop1]
    simp only [List.length_cons] at h
    refine Tot.bind ?_ fun z _ => ?_
    · refine Tot.ite (fun _ => Tot.some _) fun _ => ?_
      rw [gx_at (by omega)]
      refine Tot.ite (fun _ => Tot.some _) fun _ => ?_
      rw [gx_at (by omega)]; exact Tot.some _
    · exact Tot.ite (fun _ => Tot.some _) fun _ => nodes_tot x h1 h2 l (k + 1) (by omega)
theorem graph_tot (x : MendGraph) : Tot (Fishref2GraphFault x) := by
  unfold Fishref2GraphFault
  refine Tot.bnd (Tot.ite (fun _ => Tot.some _) fun _ => ?_)
  unfold bnd
  refine Tot.ite (fun _ => Tot.some _) fun hq => ?_
  have h1 : x.Last.length = x.Ready.length := by
    by_cases h : x.Last.length = x.Ready.length
    · exact h
    · have : ((x.Last.length : Int) != (x.Ready.length : Int)) = true := by simp; omega
      rw [this] at hq; simp at hq
  have h2 : x.Due.length = x.Ready.length := by
    by_cases h : x.Due.length = x.Ready.length
    · exact h
    · rw [h1] at hq
      have : ((x.Due.length : Int) != (x.Ready.length : Int)) = true := by simp; omega
      rw [this] at hq; simp at hq
  obtain ⟨z, hz⟩ := nodes_tot x h1 h2 x.Ready 0 (by simp)
  rw [hz]
  cases z with
  | ret r => exact Tot.some _
  | next u =>
    show Tot (match Fishref2GraphFault.loop2 x x.Arcs with | .ret r => some r | .next () => _)
    cases Fishref2GraphFault.loop2 x x.Arcs with
    | ret r => exact Tot.some _
    | next u =>
      show Tot (match Fishref2GraphFault.loop3 x x.Choices with | .ret r => some r | .next () => some 0)
      cases Fishref2GraphFault.loop3 x x.Choices with
      | ret r => exact Tot.some _
      | next u => exact Tot.some _
theorem graphs_true (n : Nat) : Fishlaw2graphs (n + 60) = some true := by kernel_rfl

theorem MendGraphs_law (x : MendGraph) (hn : x.Ready.length ≤ 9223372036854775807) (_ : x.Last.length ≤ 9223372036854775807) (_ : x.Due.length ≤ 9223372036854775807) (_ : x.Arcs.length ≤ 9223372036854775807) (_ : x.Choices.length ≤ 9223372036854775807) : ∃ fu, Fishlaw2MendGraphs fu x = some true := by
  refine ⟨0 + 60, ?_⟩
  unfold Fishlaw2MendGraphs
  obtain ⟨z, hz⟩ := graph_tot x
  rw [graphs_true, graph_eq x hn, hz]
  simp

end Go.Fp
