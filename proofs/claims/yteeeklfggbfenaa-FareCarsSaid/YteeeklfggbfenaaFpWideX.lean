/- append up to what growslice itself gives: the need, a quarter of it and 192 more within 2^48 bytes (elements of at most kk bytes each). No condition. -/
import Derived.Test.YteeeklfggbfenaaFpWide
import Derived.Deep.DeepAppendWide
namespace Go.Fp
open Go

/-- what may be appended to a slice of the mirror, of elements of at most k bytes: up to growslice's own limit -/
def apx {α : Type} (k : Nat) (l xs : List α) : Option (List α) := if ((l.length + xs.length) + (l.length + xs.length) / 4 + 192) * k ≤ 281474976710656 then some (l ++ xs) else none

theorem apx_some {α : Type} {k : Nat} {l xs r : List α} (h : apx k l xs = some r) : ((l.length + xs.length) + (l.length + xs.length) / 4 + 192) * k ≤ 281474976710656 ∧ r = l ++ xs := by
  unfold apx at h
  split at h
  · rename_i h1; simp at h; exact ⟨h1, h.symm⟩
  · cases h
theorem apx_in {α : Type} {k : Nat} {l xs : List α} (h : ((l.length + xs.length) + (l.length + xs.length) / 4 + 192) * k ≤ 281474976710656) : apx k l xs = some (l ++ xs) := by unfold apx; rw [if_pos h]

theorem run_appX {P : Program} {w : World} {s : Sg} {R : List HP} (hS : St w s R) (i : Nat) {t e es : Nat} {a : Option Addr} {c n m c' b' off' : Nat} {cs news : List Value} (ty : TypeId)
    (hr : R[i]? = some (vecC e es a c n cs)) (ht : apOk P t e es = true) (hl : news.length = m * es) (hs : Sees w b' off' news) (h1 : news.all (·.oneCell') = true) (hm : 0 < m) {kk : Nat} (hk : apB P e kk = true) (hb : ((n + m) + (n + m) / 4 + 192) * kk ≤ 281474976710656) :
    ∃ a2 c2 w2, (Builtin.append_ #[t, t] ty #[.slice a n c, .slice (some ⟨b', off', none⟩) m c']).run P w = .ok (.slice a2 (n + m) c2) w2 ∧ St w2 s (R.set i (vecC e es a2 c2 (n + m) (cs ++ news))) := by
  obtain ⟨hu, inf, z, hi, hsz, hby, hz, hzs, hes⟩ := apOk.get ht
  subst hsz
  have hnews : ∀ j v, news[j]? = some v → w.cell? ((⟨b', off', none⟩ : Addr).add j) = some v := fun j v hj => by rw [Addr.add_here]; exact hs j v hj
  have h1' : ∀ u ∈ news, u.oneCell' = true := fun u hu => List.all_eq_true.1 h1 u hu
  obtain ⟨hk1, hk2⟩ := apB.get hk hi
  have hn48 : n + m ≤ 281474976710656 := by
    have := Nat.mul_le_mul_left ((n + m) + (n + m) / 4 + 192) hk1
    omega
  have hbytes : ((n + m) + (n + m) / 4 + 192) * inf.bytes ≤ 281474976710656 := Nat.le_trans (Nat.mul_le_mul_left _ hk2) hb
  have setP : ∀ {w2 : World} {p : HP}, St w2 s (p :: R.eraseIdx i) → St w2 s (R.set i p) := by
    intro w2 p h
    refine h.perm ?_
    clear h hS
    induction R generalizing i with
    | nil => simp at hr
    | cons x r ih =>
      cases i with
      | zero => exact List.Perm.refl _
      | succ i => simp at hr; exact (List.Perm.swap _ _ _).trans ((ih i hr).cons x)
  have fresh : ∀ (old : Nat), old < n + m → cs.length = n * inf.size → St (w.drew.alloc (.cells (cs.toArray ++ news.toArray ++ Builtin.zeroCells z.cells (grownCap w (n + m) old e - (n + m))) e)) s
      (R.set i (vecC e inf.size (some ⟨w.heap.size, 0, none⟩) (grownCap w (n + m) old e) (n + m) (cs ++ news))) := by
    intro old ho hcl
    have hge := grownCap_ge w (n + m) old e
    have hcm : grownCap w (n + m) old e ≤ maxLen := grownCap_le_maxLen w (n + m) old e (by unfold maxLen; omega)
    refine setP ?_
    have h2 := ((hS.dropAt i).drew.alloc (.cells (cs.toArray ++ news.toArray ++ Builtin.zeroCells z.cells (grownCap w (n + m) old e - (n + m))) e))
    refine h2.head fun h q => ⟨by simp [hcl, hl, Nat.add_mul], .inr ⟨w.heap.size, 0, _, rfl, q, hge, hcm, ?_, ?_⟩⟩
    · simp only [Array.size_append, List.size_toArray, size_zeroCells, hzs, hcl, hl, ← Nat.add_mul]
      rw [Nat.zero_add]; refine Nat.mul_le_mul_right _ ?_; omega
    · simp only [Array.toList_append, List.append_assoc, List.drop_zero]
      have : (n + m) * inf.size = (cs ++ news).length := by simp [hcl, hl, Nat.add_mul]
      rw [this, ← List.append_assoc]
      exact List.take_left
  rcases hS.vec i hr with ⟨hcl, ⟨h0, hn, hc⟩ | ⟨b, o, cur, e1, e2, e3, e4, e5, e6, h⟩⟩
  · subst h0; subst hn; subst hc
    have hcs : cs = [] := List.eq_nil_of_length_eq_zero (by simpa using hcl)
    subst hcs
    have hb2 : m * inf.bytes ≤ 281474976710656 := Nat.le_trans (Nat.mul_le_mul_right _ (by omega)) hbytes
    have hrun := run_append_nil (P := P) w t ty e inf z hu hi hz ⟨b', off', none⟩ m c' news hl hnews hm (by omega) hb2
    have hf := fresh 0 (by omega) (by simp)
    simp only [Nat.zero_add, List.nil_append] at hf ⊢
    exact ⟨_, _, _, hrun, by simpa using hf⟩
  · subst e1
    by_cases hroom : n + m ≤ c
    · have hfit : o + n * inf.size + news.length ≤ cur.size := by
        have := Nat.mul_le_mul_right inf.size hroom
        rw [Nat.add_mul] at this
        rw [hl]; omega
      have hrun := run_append_roomO (P := P) t ty e inf hu hi b o n c cur _ e2 ⟨b', off', none⟩ m c' news hl hnews h1' hroom hfit
      refine ⟨_, _, _, hrun, setP ?_⟩
      have h2 := h.put (w' := w.setRow b (cur.toList.take (o + n * inf.size) ++ news ++ cur.toList.drop (o + n * inf.size + news.length)).toArray) (setRow_heap w b cur _ e _ e2)
        (fun k hk => by simp [World.setRow, Array.getElem?_modify, Ne.symm hk]) rfl rfl
      refine h2.head fun hh q => ⟨by simp [hcl, hl, Nat.add_mul], .inr ⟨b, o, _, rfl, q, hroom, e4, ?_, ?_⟩⟩
      · simp only [List.size_toArray, List.length_append, List.length_take, List.length_drop, Array.length_toList]
        omega
      · have : (n + m) * inf.size = (cs ++ news).length := by simp [hcl, hl, Nat.add_mul]
        have t1 : (cur.toList.take (o + n * inf.size)).drop o = cs := by rw [List.drop_take, Nat.add_sub_cancel_left, e6]
        rw [List.toList_toArray, List.append_assoc, List.drop_append_of_le_length (by simp; omega), t1, ← List.append_assoc, this]
        exact List.take_left
    · have holds : ∀ j u, cs[j]? = some u → w.cell? ((⟨b, o, none⟩ : Addr).add j) = some u := by
        intro j u hj
        rw [Addr.add_here]
        have := hS.vecSees i hr 0 cs (fun j v hj => by simpa using hj) j u hj
        simpa [ab, ao] using this
      have hrun := run_append_grow (P := P) w t ty e inf z hu hi hz ⟨b, o, none⟩ n c cs hcl holds ⟨b', off', none⟩ m c' news hl hnews (by omega) (by omega) (growslice_fits_wide (by omega) hbytes)
      exact ⟨_, _, _, hrun, fresh c (by omega) hcl⟩

section
variable {P : Program} {K : Kt} {a : Act} {w : World} {s : Sg} {R : List HP} {n : Nat} {E : Env} {ops : Array Oper} {rest : List Oper} {d : Option Tmp} {ty : TypeId} {pos : String} {aft : Array Edge} {g : Option (Nat × Bool)}

theorem WL.appDX (hE : Rep a n E) {b' T' m c' : Nat} {news : List Value} {fr : Nat × Nat} {α : Type} {Rr : Rd α} (hS : St w s (pt b' (.cells news.toArray T' fr) :: R)) (i : Nat) {t e es kk : Nat} {x y : Operand} {sa : Option Addr} {c k : Nat} {cs : List Value} {l xs r : List α}
    (hg : Region.wanted ⟨d, .call ⟨.builtin .append, #[x, y], #[t, t]⟩, ty, pos, aft, g⟩ (yielded ops a.tmps) = true)
    (hx : E.ev x = some (.slice sa k c)) (hy : E.ev y = some (.slice (some ⟨b', 0, none⟩) m c')) (hr : R[i]? = some (vecC e es sa c k cs)) (ht : apOkW P t e es kk = true) (h1 : news.all (·.oneCell') = true)
    (hv : Ev es Rr s cs l) (hn : l.length = k) (hnew : Ev es Rr s news xs) (hm : xs.length = m) (hm0 : Nat.blt 0 m = true) (ha : apx kk l xs = some r) (hd : dstOk d n = true)
    (q : ∀ a2 c2 cs2 a w, Ev es Rr s cs2 r → Rep a n (E.put d (.slice a2 r.length c2)) → St w s (R.set i (vecC e es a2 c2 r.length cs2)) → WL P ops K rest a w) : WL P ops K (⟨d, .call ⟨.builtin .append, #[x, y], #[t, t]⟩, ty, pos, aft, g⟩ :: rest) a w := by
  obtain ⟨hb, rfl⟩ := apx_some ha
  subst hn; subst hm
  have hs : Sees w b' 0 news := hS.seesB (fun j v hj => by simpa using hj)
  obtain ⟨a2, c2, w2, hrun, hS2⟩ := run_appX hS.tail i ty hr (apOkW.ok ht).1 hnew.len hs h1 (by simpa using hm0) (apOkW.ok ht).2 hb (c' := c')
  refine WL.step hg ?_ (q a2 c2 _ _ w2 (hv.append hnew) (by rw [List.length_append]; exact hE.puts hd _) (by rw [List.length_append]; exact hS2))
  simp [execOp, resolve, invoke, builtin, hE.ev hx, hE.ev hy, hrun]
end
end Go.Fp
