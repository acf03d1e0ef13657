/- append for longer slices: what the room of a slice's bytes permits (elements of at most kk bytes each). No condition. -/
import Derived.Test.YteeeklfggbfenaaFpNest
namespace Go.Fp
open Go

/-- what may be appended to a slice of the mirror, of elements of at most k bytes -/
def apw {α : Type} (k : Nat) (l xs : List α) : Option (List α) := if (l.length + xs.length) * k ≤ 140737488351232 then some (l ++ xs) else none

theorem apw_some {α : Type} {k : Nat} {l xs r : List α} (h : apw k l xs = some r) : (l.length + xs.length) * k ≤ 140737488351232 ∧ r = l ++ xs := by
  unfold apw at h
  split at h
  · rename_i h1; simp at h; exact ⟨h1, h.symm⟩
  · cases h
theorem apw_in {α : Type} {k : Nat} {l xs : List α} (h : (l.length + xs.length) * k ≤ 140737488351232) : apw k l xs = some (l ++ xs) := by unfold apw; rw [if_pos h]
/-- a slice of e's, of one-word elements of at most kk bytes -/
def apOkW (P : Program) (t e es kk : Nat) : Bool := apOk P t e es && apB P e kk
theorem apOkW.ok {P : Program} {t e es kk : Nat} (h : apOkW P t e es kk = true) : apOk P t e es = true ∧ apB P e kk = true := by unfold apOkW at h; exact Bool.and_eq_true_iff.1 h

section
variable {P : Program} {K : Kt} {a : Act} {w : World} {s : Sg} {R : List HP} {n : Nat} {E : Env} {ops : Array Oper} {rest : List Oper} {d : Option Tmp} {ty : TypeId} {pos : String} {aft : Array Edge} {g : Option (Nat × Bool)}

theorem WL.appK (hE : Rep a n E) {b' T' m c' : Nat} {news : List Value} {fr : Nat × Nat} (hS : St w s (pt b' (.cells news.toArray T' fr) :: R)) (i : Nat) {t e es kk : Nat} {x y : Operand} {sa : Option Addr} {c k : Nat} {cs : List Value}
    (hg : Region.wanted ⟨d, .call ⟨.builtin .append, #[x, y], #[t, t]⟩, ty, pos, aft, g⟩ (yielded ops a.tmps) = true)
    (hx : E.ev x = some (.slice sa k c)) (hy : E.ev y = some (.slice (some ⟨b', 0, none⟩) m c')) (hr : R[i]? = some (vecC e es sa c k cs)) (ht : apOkW P t e es kk = true) (hl : news.length = m * es) (h1 : news.all (·.oneCell') = true)
    (hm : Nat.blt 0 m = true) (hb : (k + m) * kk ≤ 140737488355328) (hd : dstOk d n = true)
    (q : ∀ a2 c2 a w, Rep a n (E.put d (.slice a2 (k + m) c2)) → St w s (R.set i (vecC e es a2 c2 (k + m) (cs ++ news))) → WL P ops K rest a w) : WL P ops K (⟨d, .call ⟨.builtin .append, #[x, y], #[t, t]⟩, ty, pos, aft, g⟩ :: rest) a w := by
  have hs : Sees w b' 0 news := hS.seesB (fun j v hj => by simpa using hj)
  obtain ⟨a2, c2, w2, hrun, hS2⟩ := run_appK hS.tail i ty hr (apOkW.ok ht).1 hl hs h1 (by simpa using hm) (apOkW.ok ht).2 hb (c' := c')
  refine WL.step hg ?_ (q a2 c2 _ w2 (hE.puts hd _) hS2)
  simp [execOp, resolve, invoke, builtin, hE.ev hx, hE.ev hy, hrun]

/-- append of one inner slice, which comes along -/
theorem WL.appNK (hE : Rep a n E) {b' T' c0 : Nat} {fr : Nat × Nat} {t T Ti es c k kk : Nat} {sa a' : Option Addr} {c' n' : Nat} {cs' : List Value} {ds : List In}
    (hS : St w s (pt b' (.cells [Value.slice a' n' c'].toArray T' fr) :: vecC Ti es a' c' n' cs' :: R)) (i : Nat) (hr : R[i]? = some (nestC T Ti es sa c k ds)) {x y : Operand}
    (hg : Region.wanted ⟨d, .call ⟨.builtin .append, #[x, y], #[t, t]⟩, ty, pos, aft, g⟩ (yielded ops a.tmps) = true) (hx : E.ev x = some (.slice sa k c)) (hy : E.ev y = some (.slice (some ⟨b', 0, none⟩) 1 c0)) (ht : apOkW P t T 1 kk = true)
    (hb : (k + 1) * kk ≤ 140737488355328) (hd : dstOk d n = true)
    (q : ∀ a2 c2 a w, Rep a n (E.put d (.slice a2 (k + 1) c2)) → St w s (R.set i (nestC T Ti es a2 c2 (k + 1) (ds ++ [⟨a', c', n', cs'⟩]))) → WL P ops K rest a w) : WL P ops K (⟨d, .call ⟨.builtin .append, #[x, y], #[t, t]⟩, ty, pos, aft, g⟩ :: rest) a w := by
  have e3 : (pt b' (.cells [Value.slice a' n' c'].toArray T' fr) :: vecC Ti es a' c' n' cs' :: R)[i + 2]? = some (nestC T Ti es sa c k ds) := by simpa using hr
  have h1 := hS.nSplit (i + 2) e3
  simp only [List.eraseIdx_cons_succ] at h1
  have h2 : St w s (pt b' (.cells [Value.slice a' n' c'].toArray T' fr) :: vecC T 1 sa c k (ds.map In.cell) :: insC Ti es ds :: vecC Ti es a' c' n' cs' :: R.eraseIdx i) := h1.third
  refine WL.appK hE h2 0 hg hx hy rfl ht rfl rfl rfl hb hd ?_
  intro a2 c2 a w hE2 hS2
  refine q a2 c2 a w hE2 (St.nJoin i hr ?_)
  simp only [List.set_cons_zero] at hS2
  have ec : ds.map In.cell ++ [Value.slice a' n' c'] = (ds ++ [(⟨a', c', n', cs'⟩ : In)]).map In.cell := by simp [In.cell]
  rw [ec] at hS2
  refine hS2.map fun h q => Sat.under (fun h q => ?_) q
  have q2 := Sat.unflat q
  refine Sat.head (fun h q => ?_) q2
  unfold insC
  refine Sat.perm (List.perm_append_comm (l₁ := [(⟨a', c', n', cs'⟩ : In)]) |>.map _) ?_
  obtain ⟨g1, g2, r1, ⟨g3, g4, t1, _, t3, _⟩, r3, r4⟩ := Sat.swap q
  exact ⟨g1, g3, r1, t1, fun b o hx => ⟨(r3 b o hx).1, by
    cases h3 : g3 b with
    | none => rfl
    | some o' => have := (t3 b o' h3).1; rw [(r3 b o hx).2] at this; cases this⟩, fun b o hx => r4 b o (t3 b o hx).1⟩

variable {α : Type} {Rr : Rd α}
theorem WL.appDW (hE : Rep a n E) {b' T' m c' : Nat} {news : List Value} {fr : Nat × Nat} (hS : St w s (pt b' (.cells news.toArray T' fr) :: R)) (i : Nat) {t e es kk : Nat} {x y : Operand} {sa : Option Addr} {c k : Nat} {cs : List Value} {l xs r : List α}
    (hg : Region.wanted ⟨d, .call ⟨.builtin .append, #[x, y], #[t, t]⟩, ty, pos, aft, g⟩ (yielded ops a.tmps) = true)
    (hx : E.ev x = some (.slice sa k c)) (hy : E.ev y = some (.slice (some ⟨b', 0, none⟩) m c')) (hr : R[i]? = some (vecC e es sa c k cs)) (ht : apOkW P t e es kk = true) (h1 : news.all (·.oneCell') = true)
    (hv : Ev es Rr s cs l) (hn : l.length = k) (hnew : Ev es Rr s news xs) (hm : xs.length = m) (hm0 : Nat.blt 0 m = true) (ha : apw kk l xs = some r) (hd : dstOk d n = true)
    (q : ∀ a2 c2 cs2 a w, Ev es Rr s cs2 r → Rep a n (E.put d (.slice a2 r.length c2)) → St w s (R.set i (vecC e es a2 c2 r.length cs2)) → WL P ops K rest a w) : WL P ops K (⟨d, .call ⟨.builtin .append, #[x, y], #[t, t]⟩, ty, pos, aft, g⟩ :: rest) a w := by
  obtain ⟨hb, rfl⟩ := apw_some ha
  subst hn; subst hm
  refine WL.appK hE hS i hg hx hy hr ht hnew.len h1 hm0 (Nat.le_trans hb (by decide)) hd ?_
  intro a2 c2 a w hE2 hS2
  rw [← List.length_append] at hE2 hS2
  exact q a2 c2 _ a w (hv.append hnew) hE2 hS2

theorem WL.appNDW (hE : Rep a n E) {b' T' c0 : Nat} {fr : Nat × Nat} {t T Ti es c k kk : Nat} {sa a' : Option Addr} {c' n' : Nat} {cs' : List Value} {ds : List In} {l r : List (List α)} {x' : List α}
    (hS : St w s (pt b' (.cells [Value.slice a' n' c'].toArray T' fr) :: vecC Ti es a' c' n' cs' :: R)) (i : Nat) (hr : R[i]? = some (nestC T Ti es sa c k ds)) {x y : Operand}
    (hg : Region.wanted ⟨d, .call ⟨.builtin .append, #[x, y], #[t, t]⟩, ty, pos, aft, g⟩ (yielded ops a.tmps) = true) (hx : E.ev x = some (.slice sa k c)) (hy : E.ev y = some (.slice (some ⟨b', 0, none⟩) 1 c0)) (ht : apOkW P t T 1 kk = true)
    (hv : NEv es Rr s ds l) (hn : l.length = k) (hv' : Ev es Rr s cs' x') (hn' : x'.length = n') (hb : apw kk l [x'] = some r) (hd : dstOk d n = true)
    (q : ∀ a2 c2 ds2 a w, NEv es Rr s ds2 r → Rep a n (E.put d (.slice a2 r.length c2)) → St w s (R.set i (nestC T Ti es a2 c2 r.length ds2)) → WL P ops K rest a w) : WL P ops K (⟨d, .call ⟨.builtin .append, #[x, y], #[t, t]⟩, ty, pos, aft, g⟩ :: rest) a w := by
  obtain ⟨h1, rfl⟩ := apw_some hb
  have e : (l ++ [x']).length = k + 1 := by simp [hn]
  refine WL.appNK hE hS i hr hg hx hy ht (by rw [hn] at h1; exact Nat.le_trans h1 (by decide)) hd ?_
  intro a2 c2 a w hE2 hS2
  rw [← e] at hE2 hS2
  exact q a2 c2 _ a w (hv.snoc (d := ⟨a', c', n', cs'⟩) hv' hn') hE2 hS2
/-- append of a slice that stays -/
theorem WL.appSW (hE : Rep a n E) (hS : St w s R) (i : Nat) {t e es kk : Nat} {x y : Operand} {sa sy : Option Addr} {c k c' m : Nat} {cs : List Value} {l xs r : List α}
    (hg : Region.wanted ⟨d, .call ⟨.builtin .append, #[x, y], #[t, t]⟩, ty, pos, aft, g⟩ (yielded ops a.tmps) = true)
    (hx : E.ev x = some (.slice sa k c)) (hy : E.ev y = some (.slice sy m c')) (hm : xs.length = m) (hr : R[i]? = some (vecC e es sa c k cs)) (ht : apOkW P t e es kk = true) (hR : Rone Rr)
    (hv : Ev es Rr s cs l) (hn : l.length = k) (hnew : Sl es Rr s sy c' xs) (ha : apw kk l xs = some r) (hd : dstOk d n = true)
    (q : ∀ a2 c2 cs2 a w, Ev es Rr s cs2 r → Rep a n (E.put d (.slice a2 r.length c2)) → St w s (R.set i (vecC e es a2 c2 r.length cs2)) → WL P ops K rest a w) : WL P ops K (⟨d, .call ⟨.builtin .append, #[x, y], #[t, t]⟩, ty, pos, aft, g⟩ :: rest) a w := by
  obtain ⟨hb, rfl⟩ := apw_some ha
  subst hn; subst hm
  rcases Nat.eq_zero_or_pos xs.length with h0 | h0
  · have hx0 : xs = [] := List.eq_nil_of_length_eq_zero h0
    subst hx0
    have h1 := hS.vecCap i hr
    refine WL.step hg ?_ (q sa c cs _ w (by simpa using hv) (by simpa using hE.puts hd _) ?_)
    · have := run_app0 (P := P) (w := w) (a := sa) (b := sy) (c' := c') ty (apOkW.ok ht).1 h1.1
      simp [execOp, resolve, invoke, builtin, hE.ev hx, hE.ev hy, this]
    · have e : R.set i (vecC e es sa c (l ++ []).length cs) = R := by
        rw [List.append_nil]
        apply List.ext_getElem?
        intro j
        by_cases hj : i = j
        · subst hj
          rw [List.getElem?_set]
          have hlt : i < R.length := by
            rcases Nat.lt_or_ge i R.length with h | h
            · exact h
            · rw [List.getElem?_eq_none h] at hr; cases hr
          simp [hlt]
          rw [List.getElem?_eq_getElem hlt] at hr
          exact (Option.some.inj hr).symm
        · rw [List.getElem?_set_ne hj]
      rw [e]; exact hS
  · obtain ⟨news, e1, e2, e3⟩ := hnew.cells hR
    obtain ⟨b', o', rfl⟩ : aok sy := by
      rcases hnew.ok with h | h
      · exact h
      · have := hnew.len; omega
    obtain ⟨a2, c2, w2, hrun, hS2⟩ := run_appK hS i (c' := c') ty hr (apOkW.ok ht).1 e1.len (e3 w R hS) e2 h0 (apOkW.ok ht).2 (Nat.le_trans hb (by decide))
    refine WL.step hg ?_ (q a2 c2 _ _ w2 (hv.append e1) (by rw [List.length_append]; exact hE.puts hd _) (by rw [List.length_append]; exact hS2))
    simp only [ab, ao, Option.getD_some] at hrun
    simp [execOp, resolve, invoke, builtin, hE.ev hx, hE.ev hy, hrun]

end
end Go.Fp
