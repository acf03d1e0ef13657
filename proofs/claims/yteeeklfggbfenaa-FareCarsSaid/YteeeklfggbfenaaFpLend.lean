/- append of a slice literal onto a slice of the call's own that is asked for again later: what is appended to comes back. No condition. -/
import Derived.Test.YteeeklfggbfenaaFpVec
namespace Go.Fp

theorem perm_front {R : List HP} {i : Nat} {p : HP} (hr : R[i]? = some p) : R.Perm (p :: R.eraseIdx i) := by
  induction R generalizing i with
  | nil => simp at hr
  | cons x r ih =>
    cases i with
    | zero => simp at hr; subst hr; exact List.Perm.refl _
    | succ i => simp at hr; exact ((ih hr).cons x).trans (List.Perm.swap _ _ _)

theorem run_appB {P : Program} {w : World} {s : Sg} {R : List HP} (hS : St w s R) (i : Nat) {t e es : Nat} {a : Option Addr} {c n m c' b' off' : Nat} {cs news : List Value} (ty : TypeId)
    (hr : R[i]? = some (vecC e es a c n cs)) (ht : apOk P t e es = true) (hl : news.length = m * es) (hs : Sees w b' off' news) (h1 : news.all (·.oneCell') = true) (hm : 0 < m) (hb : n + m < 4294967296) :
    ∃ a2 c2 w2 F, (Builtin.append_ #[t, t] ty #[.slice a n c, .slice (some ⟨b', off', none⟩) m c']).run P w = .ok (.slice a2 (n + m) c2) w2 ∧ St w2 s (vecC e es a2 c2 (n + m) (cs ++ news) :: F :: R.eraseIdx i) ∧
      ∀ w' s' R', St w' s' (vecC e es a2 c2 (n + m) (cs ++ news) :: F :: R') → St w' s' (vecC e es a c n cs :: R') := by
  obtain ⟨hu, inf, z, hi, hsz, hby, hz, hzs, hes⟩ := apOk.get ht
  subst hsz
  have hnews : ∀ j v, news[j]? = some v → w.cell? ((⟨b', off', none⟩ : Addr).add j) = some v := fun j v hj => by rw [Addr.add_here]; exact hs j v hj
  have h1' : ∀ u ∈ news, u.oneCell' = true := fun u hu => List.all_eq_true.1 h1 u hu
  have hbytes : (n + m) * inf.bytes ≤ 140737488355328 := by
    have : (n + m) * inf.bytes ≤ 4294967296 * 32768 := Nat.mul_le_mul (by omega) hby
    omega
  have fresh : ∀ (old : Nat), old < n + m → cs.length = n * inf.size → St (w.drew.alloc (.cells (cs.toArray ++ news.toArray ++ Builtin.zeroCells z.cells (grownCap w (n + m) old e - (n + m))) e)) s
      (vecC e inf.size (some ⟨w.heap.size, 0, none⟩) (grownCap w (n + m) old e) (n + m) (cs ++ news) :: vecC e inf.size a c n cs :: R.eraseIdx i) := by
    intro old ho hcl
    have hge := grownCap_ge w (n + m) old e
    have hcm : grownCap w (n + m) old e ≤ maxLen := grownCap_le_maxLen w (n + m) old e (by unfold maxLen; omega)
    have h2 := ((hS.perm (perm_front hr)).drew.alloc (.cells (cs.toArray ++ news.toArray ++ Builtin.zeroCells z.cells (grownCap w (n + m) old e - (n + m))) e))
    refine h2.head fun h q => ⟨by simp [hcl, hl, Nat.add_mul], .inr ⟨w.heap.size, 0, _, rfl, q, hge, hcm, ?_, ?_⟩⟩
    · simp only [Array.size_append, List.size_toArray, size_zeroCells, hzs, hcl, hl, ← Nat.add_mul]
      rw [Nat.zero_add]; refine Nat.mul_le_mul_right _ ?_; omega
    · simp only [Array.toList_append, List.append_assoc, List.drop_zero]
      have : (n + m) * inf.size = (cs ++ news).length := by simp [hcl, hl, Nat.add_mul]
      rw [this, ← List.append_assoc]
      exact List.take_left
  have back1 : ∀ (p : HP) w' s' R', St w' s' (p :: vecC e inf.size a c n cs :: R') → St w' s' (vecC e inf.size a c n cs :: R') := fun _ _ _ _ h => h.tail
  rcases hS.vec i hr with ⟨hcl, ⟨h0, hn, hc⟩ | ⟨b, o, cur, e1, e2, e3, e4, e5, e6, h⟩⟩
  · have hrun := run_append_nil (P := P) w t ty e inf z hu hi hz ⟨b', off', none⟩ m c' news hl hnews hm (by omega) (by have hb2 := hbytes; subst hn; simp only [Nat.zero_add] at hb2; omega)
    have hf := fresh 0 (by omega) hcl
    have hcs : cs = [] := List.eq_nil_of_length_eq_zero (by subst hn; simpa using hcl)
    refine ⟨_, _, _, vecC e inf.size a c n cs, ?_, hf, fun w' s' R' => back1 _ w' s' R'⟩
    subst h0; subst hn; subst hc; subst hcs
    simp only [Nat.zero_add]
    simpa using hrun
  · subst e1
    by_cases hroom : n + m ≤ c
    · have hfit : o + n * inf.size + news.length ≤ cur.size := by
        have := Nat.mul_le_mul_right inf.size hroom
        rw [Nat.add_mul] at this
        rw [hl]; omega
      have hrun := run_append_roomO (P := P) t ty e inf hu hi b o n c cur _ e2 ⟨b', off', none⟩ m c' news hl hnews h1' hroom hfit
      have h2 := h.put (w' := w.setRow b (cur.toList.take (o + n * inf.size) ++ news ++ cur.toList.drop (o + n * inf.size + news.length)).toArray) (setRow_heap w b cur _ e _ e2)
        (fun k hk => by simp [World.setRow, Array.getElem?_modify, Ne.symm hk]) rfl rfl
      refine ⟨_, _, _, vecC e inf.size none 0 0 [], hrun, (St.vecNil (h2.head (r' := vecC e inf.size (some ⟨b, o, none⟩) c (n + m) (cs ++ news)) fun hh q => ⟨by simp [hcl, hl, Nat.add_mul], .inr ⟨b, o, _, rfl, q, hroom, e4, ?_, ?_⟩⟩) e inf.size).swap, ?_⟩
      · simp only [List.size_toArray, List.length_append, List.length_take, List.length_drop, Array.length_toList]
        omega
      · have : (n + m) * inf.size = (cs ++ news).length := by simp [hcl, hl, Nat.add_mul]
        have t1 : (cur.toList.take (o + n * inf.size)).drop o = cs := by rw [List.drop_take, Nat.add_sub_cancel_left, e6]
        rw [List.toList_toArray, List.append_assoc, List.drop_append_of_le_length (by simp; omega), t1, ← List.append_assoc, this]
        exact List.take_left
      · intro w' s' R' hS'
        refine hS'.swap.tail.head fun h q => ?_
        obtain ⟨q1, ⟨q0, q2, _⟩ | ⟨b3, o3, cur3, q2, q3, q4, q5, q6, q7⟩⟩ := q
        · omega
        · refine ⟨hcl, .inr ⟨b3, o3, cur3, q2, q3, by omega, q5, q6, ?_⟩⟩
          have t2 := congrArg (List.take (n * inf.size)) q7
          rw [List.take_take, Nat.min_eq_left (Nat.mul_le_mul_right _ (Nat.le_add_right n m)), List.take_append_of_le_length (by rw [hcl]; exact Nat.le_refl _), List.take_of_length_le (l := cs) (by rw [hcl]; exact Nat.le_refl _)] at t2
          exact t2
    · have holds : ∀ j u, cs[j]? = some u → w.cell? ((⟨b, o, none⟩ : Addr).add j) = some u := by
        intro j u hj
        rw [Addr.add_here]
        have := hS.vecSees i hr 0 cs (fun j v hj => by simpa using hj) j u hj
        simpa [ab, ao] using this
      have hrun := run_append_grow (P := P) w t ty e inf z hu hi hz ⟨b, o, none⟩ n c cs hcl holds ⟨b', off', none⟩ m c' news hl hnews (by omega) (by omega) (growslice_fits (by omega) hbytes)
      exact ⟨_, _, _, _, hrun, fresh c (by omega) hcl, fun w' s' R' => back1 _ w' s' R'⟩

section
variable {P : Program} {K : Kt} {a : Act} {w : World} {s : Sg} {R : List HP} {n : Nat} {E : Env} {ops : Array Oper} {rest : List Oper} {d : Option Tmp} {ty : TypeId} {pos : String} {aft : Array Edge} {g : Option (Nat × Bool)} {α : Type} {Rr : Rd α}

/-- append of a literal (part 0) onto part i + 1, which is asked for again: hb gives it back -/
theorem WL.appB (hE : Rep a n E) {b' T' m c' : Nat} {news : List Value} {fr : Nat × Nat} (hS : St w s (pt b' (.cells news.toArray T' fr) :: R)) (i : Nat) {t e es : Nat} {x y : Operand} {sa : Option Addr} {c k : Nat} {cs : List Value} {l xs r : List α}
    (hg : Region.wanted ⟨d, .call ⟨.builtin .append, #[x, y], #[t, t]⟩, ty, pos, aft, g⟩ (yielded ops a.tmps) = true)
    (hx : E.ev x = some (.slice sa k c)) (hy : E.ev y = some (.slice (some ⟨b', 0, none⟩) m c')) (hr : R[i]? = some (vecC e es sa c k cs)) (ht : apOk P t e es = true) (h1 : news.all (·.oneCell') = true)
    (hv : Ev es Rr s cs l) (hn : l.length = k) (hnew : Ev es Rr s news xs) (hm : xs.length = m) (hm0 : Nat.blt 0 m = true) (ha : apd l xs = some r) (hd : dstOk d n = true)
    (q : ∀ a2 c2 cs2 F a w, Ev es Rr s cs2 r → (∀ w' s' R', St w' s' (vecC e es a2 c2 r.length cs2 :: F :: R') → St w' s' (vecC e es sa c k cs :: R')) → Rep a n (E.put d (.slice a2 r.length c2)) → St w s (vecC e es a2 c2 r.length cs2 :: F :: R.eraseIdx i) → WL P ops K rest a w) :
    WL P ops K (⟨d, .call ⟨.builtin .append, #[x, y], #[t, t]⟩, ty, pos, aft, g⟩ :: rest) a w := by
  obtain ⟨hb, rfl⟩ := apd_some ha
  subst hn; subst hm
  have hs : Sees w b' 0 news := hS.seesB (fun j v hj => by simpa using hj)
  obtain ⟨a2, c2, w2, F, hrun, hS2, hbk⟩ := run_appB hS.tail i ty hr ht hnew.len hs h1 (by simpa using hm0) hb (c' := c')
  refine WL.step (v := .slice a2 (l.length + xs.length) c2) (w' := w2) hg ?_ (q a2 c2 _ F _ w2 (hv.append hnew) ?_ ?_ ?_)
  · simp [execOp, resolve, invoke, builtin, hE.ev hx, hE.ev hy, hrun]
  · rw [List.length_append]; exact hbk
  · rw [List.length_append]; exact hE.puts hd _
  · rw [List.length_append]; exact hS2
end
end Go.Fp
