/- append for longer slices: what the room of a slice's bytes permits (elements of at most kk bytes each). No condition. -/
import Derived.Test.YtckhpgbcajnpnaaFpNest
namespace Go.Fp
open Go

/-- what may be appended to a slice of the mirror, of elements of at most k bytes -/
def apw {α : Type} (k : Nat) (l xs : List α) : Option (List α) := if (l.length + xs.length) * k ≤ 140737488351232 then some (l ++ xs) else none

theorem apw_some {α : Type} {k : Nat} {l xs r : List α} (h : apw k l xs = some r) : (l.length + xs.length) * k ≤ 140737488351232 ∧ r = l ++ xs := by
  unfold apw at h
  split at h
  · rename_i h1; simp at h; exact ⟨h1, h.symm⟩
  · cases h
theorem apw_in {α : Type} {k : Nat} {l xs : List α} (h : (l.length + xs.length) * k ≤ 140737488351232) : apw k l xs = some (l ++ xs) := by unfold apw; rw [if_pos h]
/-- a slice of e's, of one-word elements of at most kk bytes -/
def apOkW (P : Program) (t e es kk : Nat) : Bool := apOk P t e es && apB P e kk
theorem apOkW.ok {P : Program} {t e es kk : Nat} (h : apOkW P t e es kk = true) : apOk P t e es = true ∧ apB P e kk = true := by unfold apOkW at h; exact Bool.and_eq_true_iff.1 h

section
variable {P : Program} {K : Kt} {a : Act} {w : World} {s : Sg} {R : List HP} {n : Nat} {E : Env} {ops : Array Oper} {rest : List Oper} {d : Option Tmp} {ty : TypeId} {pos : String} {aft : Array Edge} {g : Option (Nat × Bool)}

theorem WL.appK (hE : Rep a n E) {b' T' m c' : Nat} {news : List Value} {fr : Nat × Nat} (hS : St w s (pt b' (.cells news.toArray T' fr) :: R)) (i : Nat) {t e es kk : Nat} {x y : Operand} {sa : Option Addr} {c k : Nat} {cs : List Value}
    (hg : Region.wanted ⟨d, .call ⟨.builtin .append, #[x, y], #[t, t]⟩, ty, pos, aft, g⟩ (yielded ops a.tmps) = true)
    (hx : E.ev x = some (.slice sa k c)) (hy : E.ev y = some (.slice (some ⟨b', 0, none⟩) m c')) (hr : R[i]? = some (vecC e es sa c k cs)) (ht : apOkW P t e es kk = true) (hl : news.length = m * es) (h1 : news.all (·.oneCell') = true)
    (hm : Nat.blt 0 m = true) (hb : (k + m) * kk ≤ 140737488355328) (hd : dstOk d n = true)
    (q : ∀ a2 c2 a w, Rep a n (E.put d (.slice a2 (k + m) c2)) → St w s (R.set i (vecC e es a2 c2 (k + m) (cs ++ news))) → WL P ops K rest a w) : WL P ops K (⟨d, .call ⟨.builtin .append, #[x, y], #[t, t]⟩, ty, pos, aft, g⟩ :: rest) a w := by
  have hs : Sees w b' 0 news := hS.seesB (fun j v hj => by simpa using hj)
  obtain ⟨a2, c2, w2, hrun, hS2⟩ := run_appK hS.tail i ty hr (apOkW.ok ht).1 hl hs h1 (by simpa using hm) (apOkW.ok ht).2 hb (c' := c')
  refine WL.step hg ?_ (q a2 c2 _ w2 (hE.puts hd _) hS2)
  simp [execOp, resolve, invoke, builtin, hE.ev hx, hE.ev hy, hrun]

/-- append of one inner slice, which comes along -/
theorem WL.appNK (hE : Rep a n E) {b' T' c0 : Nat} {fr : Nat × Nat} {t T Ti es c k kk : Nat} {sa a' : Option Addr} {c' n' : Nat} {cs' : List Value} {ds : List In}
    (hS : St w s (pt b' (.cells [Value.slice a' n' c'].toArray T' fr) :: vecC Ti es a' c' n' cs' :: R)) (i : Nat) (hr : R[i]? = some (nestC T Ti es sa c k ds)) {x y : Operand}
    (hg : Region.wanted ⟨d, .call ⟨.builtin .append, #[x, y], #[t, t]⟩, ty, pos, aft, g⟩ (yielded ops a.tmps) = true) (hx : E.ev x = some (.slice sa k c)) (hy : E.ev y = some (.slice (some ⟨b', 0, none⟩) 1 c0)) (ht : apOkW P t T 1 kk = true)
    (hb : (k + 1) * kk ≤ 140737488355328) (hd : dstOk d n = true)
    (q : ∀ a2 c2 a w, Rep a n (E.put d (.slice a2 (k + 1) c2)) → St w s (R.set i (nestC T Ti es a2 c2 (k + 1) (ds ++ [⟨a', c', n', cs'⟩]))) → WL P ops K rest a w) : WL P ops K (⟨d, .call ⟨.builtin .append, #[x, y], #[t, t]⟩, ty, pos, aft, g⟩ :: rest) a w := by
  have e3 : (pt b' (.cells [Value.slice a' n' c'].toArray T' fr) :: vecC Ti es a' c' n' cs' :: R)[i + 2]? = some (nestC T Ti es sa c k ds) := by simpa using hr
  have h1 := hS.nSplit (i + 2) e3
  simp only [List.eraseIdx_cons_succ] at h1
  have h2 : St w s (pt b' (.cells [Value.slice a' n' c'].toArray T' fr) :: vecC T 1 sa c k (ds.map In.cell) :: insC Ti es ds :: vecC Ti es a' c' n' cs' :: R.eraseIdx i) := h1.third
  refine WL.appK hE h2 0 hg hx hy rfl ht rfl rfl rfl hb hd ?_
  intro a2 c2 a w hE2 hS2
  refine q a2 c2 a w hE2 (St.nJoin i hr ?_)
  simp only [List.set_cons_zero] at hS2
  have ec : ds.map In.cell ++ [Value.slice a' n' c'] = (ds ++ [(⟨a', c', n', cs'⟩ : In)]).map In.cell := by simp [In.cell]
  rw [ec] at hS2
  refine hS2.map fun h q => Sat.under (fun h q => ?_) q
  have q2 := Sat.unflat q
  refine Sat.head (fun h q => ?_) q2
  unfold insC
  refine Sat.perm (List.perm_append_comm (l₁ := [(⟨a', c', n', cs'⟩ : In)]) |>.map _) ?_
  obtain ⟨g1, g2, r1, ⟨g3, g4, t1, _, t3, _⟩, r3, r4⟩ := Sat.swap q
  exact ⟨g1, g3, r1, t1, fun b o hx => ⟨(r3 b o hx).1, by
    cases h3 : g3 b with
    | none => rfl
    | some o' => have := (t3 b o' h3).1; rw [(r3 b o hx).2] at this; cases this⟩, fun b o hx => r4 b o (t3 b o hx).1⟩

variable {α : Type} {Rr : Rd α}
theorem WL.appDW (hE : Rep a n E) {b' T' m c' : Nat} {news : List Value} {fr : Nat × Nat} (hS : St w s (pt b' (.cells news.toArray T' fr) :: R)) (i : Nat) {t e es kk : Nat} {x y : Operand} {sa : Option Addr} {c k : Nat} {cs : List Value} {l xs r : List α}
    (hg : Region.wanted ⟨d, .call ⟨.builtin .append, #[x, y], #[t, t]⟩, ty, pos, aft, g⟩ (yielded ops a.tmps) = true)
    (hx : E.ev x = some (.slice sa k c)) (hy : E.ev y = some (.slice (some ⟨b', 0, none⟩) m c')) (hr : R[i]? = some (vecC e es sa c k cs)) (ht : apOkW P t e es kk = true) (h1 : news.all (·.oneCell') = true)
    (hv : Ev es Rr s cs l) (hn : l.length = k) (hnew : Ev es Rr s news xs) (hm : xs.length = m) (hm0 : Nat.blt 0 m = true) (ha : apw kk l xs = some r) (hd : dstOk d n = true)
    (q : ∀ a2 c2 cs2 a w, Ev es Rr s cs2 r → Rep a n (E.put d (.slice a2 r.length c2)) → St w s (R.set i (vecC e es a2 c2 r.length cs2)) → WL P ops K rest a w) : WL P ops K (⟨d, .call ⟨.builtin .append, #[x, y], #[t, t]⟩, ty, pos, aft, g⟩ :: rest) a w := by
  obtain ⟨hb, rfl⟩ := apw_some ha
  subst hn; subst hm
  refine WL.appK hE hS i hg hx hy hr ht hnew.len h1 hm0 (Nat.le_trans hb (by decide)) hd ?_
  intro a2 c2 a w hE2 hS2
  rw [← List.length_append] at hE2 hS2
  exact q a2 c2 _ a w (hv.append hnew) hE2 hS2

theorem WL.appNDW (hE : Rep a n E) {b' T' c0 : Nat} {fr : Nat × Nat} {t T Ti es c k kk : Nat} {sa a' : Option Addr} {c' n' : Nat} {cs' : List Value} {ds : List In} {l r : List (List α)} {x' : List α}
    (hS : St w s (pt b' (.cells [Value.slice a' n' c'].toArray T' fr) :: vecC Ti es a' c' n' cs' :: R)) (i : Nat) (hr : R[i]? = some (nestC T Ti es sa c k ds)) {x y : Operand}
    (hg : Region.wanted ⟨d, .call ⟨.builtin .append, #[x, y], #[t, t]⟩, ty, pos, aft, g⟩ (yielded ops a.tmps) = true) (hx : E.ev x = some (.slice sa k c)) (hy : E.ev y = some (.slice (some ⟨b', 0, none⟩) 1 c0)) (ht : apOkW P t T 1 kk = true)
    (hv : NEv es Rr s ds l) (hn : l.length = k) (hv' : Ev es Rr s cs' x') (hn' : x'.length = n') (hb : apw kk l [x'] = some r) (hd : dstOk d n = true)
    (q : ∀ a2 c2 ds2 a w, NEv es Rr s ds2 r → Rep a n (E.put d (.slice a2 r.length c2)) → St w s (R.set i (nestC T Ti es a2 c2 r.length ds2)) → WL P ops K rest a w) : WL P ops K (⟨d, .call ⟨.builtin .append, #[x, y], #[t, t]⟩, ty, pos, aft, g⟩ :: rest) a w := by
  obtain ⟨h1, rfl⟩ := apw_some hb
  have e : (l ++ [x']).length = k + 1 := by simp [hn]
  refine WL.appNK hE hS i hr hg hx hy ht (by rw [hn] at h1; exact Nat.le_trans h1 (by decide)) hd ?_
  intro a2 c2 a w hE2 hS2
  rw [← e] at hE2 hS2
  exact q a2 c2 _ a w (hv.snoc (d := ⟨a', c', n', cs'⟩) hv' hn') hE2 hS2
end
end Go.Fp
