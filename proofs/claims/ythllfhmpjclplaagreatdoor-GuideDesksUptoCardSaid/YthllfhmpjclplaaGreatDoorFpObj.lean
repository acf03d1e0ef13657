/- Objects of the call's own whose addresses lie in a slice of the call's own: each object's memory is one part, all of them lie together. No condition. -/
import Derived.Test.YthllfhmpjclplaaGreatDoorFpNest
open List renaming getElem?_eq_getElem → b2q, getElem?_append_left → b2G, getElem?_append_right → b2D, eraseIdx_cons_succ → b3u, perm_middle → b4I
namespace Go.Fp
open Go
def L5 (ps : List HP) : HP := fun h => Sat ps h
abbrev Ob (α : Type) := Sg → List Value → HP → α → Prop
def RO {α : Type} : Rd α := fun _ cs _ => ∃ b, cs = [.pointer (some ⟨b, 0, none⟩)]
theorem RO.mono {α : Type} : O7 (RO : Rd α) := fun _ _ _ _ _ h => h
theorem RO.one {α : Type} : ∀ (s : Sg) (cs : List Value) (x : α), RO s cs x → cs.length = 1 := by
  rintro s cs x ⟨b, rfl⟩; rfl
def a4P {α : Type} (O : Ob α) : Prop := ∀ s t, s.Le t → ∀ cs H x, O s cs H x → O t cs H x
structure W7 {α : Type} (es : Nat) (O : Ob α) (s : Sg) (cs : List Value) (hs : List HP) (l : List α) : Prop where
  len : hs.length = l.length
  el : ∀ k x H, l[k]? = some x → hs[k]? = some H → O s ((cs.drop (k * es)).take es) H x
section
variable {α : Type} {es : Nat} {O : Ob α} {s t : Sg} {cs : List Value} {hs : List HP} {l : List α}
theorem W7.mono (hO : a4P O) (h : s.Le t) (q : W7 es O s cs hs l) : W7 es O t cs hs l := ⟨q.len, fun k x H h1 h2 => hO _ _ h _ _ _ (q.el k x H h1 h2)⟩
theorem W7.nil : W7 es O s [] [] ([] : List α) := ⟨rfl, fun k x H h => by simp at h⟩
theorem W7.at (q : W7 es O s cs hs l) {k : Nat} {x : α} {vs : List Value} (hy : l[k]? = some x) (hd : (cs.drop (k * es)).take es = vs) : ∃ H, hs[k]? = some H ∧ O s vs H x := by
  have hk : k < hs.length := by rw [q.len]; exact (List.getElem?_eq_some_iff.1 hy).1
  exact ⟨hs[k], b2q hk, hd ▸ q.el k x _ hy (b2q hk)⟩
theorem W7.snoc (q : W7 es O s cs hs l) (hc : cs.length = l.length * es) {vs : List Value} {H : HP} {x : α} (hv : vs.length = es) (h : O s vs H x) : W7 es O s (cs ++ vs) (hs ++ [H]) (l ++ [x]) := by
  refine ⟨by simp [q.len], fun k y G h1 h2 => ?_⟩
  have hl := q.len
  rcases Nat.lt_or_ge k l.length with hk | hk
  · rw [b2G hk] at h1
    rw [b2G (by omega)] at h2
    have h3 := q.el k y G h1 h2
    have hle : k * es + es ≤ cs.length := by
      have := Nat.mul_le_mul_right es (Nat.succ_le_of_lt hk); rw [Nat.succ_mul] at this; omega
    rwa [List.drop_append_of_le_length (by omega), List.take_append_of_le_length (by simp; omega)]
  · rw [b2D hk] at h1
    rw [b2D (by omega)] at h2
    have h0 : k = l.length := by
      rcases Nat.lt_or_ge (k - l.length) 1 with h | h
      · omega
      · rw [List.getElem?_eq_none (by simpa using h)] at h1; cases h1
    subst h0
    rw [Nat.sub_self] at h1
    rw [show l.length - hs.length = 0 by omega] at h2
    simp at h1 h2
    subst h1; subst h2
    rw [← hc, List.drop_left, ← hv, List.take_length]
    exact h
theorem W7.set (q : W7 es O s cs hs l) {k : Nat} {y : α} {vs : List Value} {H : HP} (hd : (cs.drop (k * es)).take es = vs) (h : O s vs H y) : W7 es O s cs (hs.set k H) (l.set k y) := by
  refine ⟨by simp [q.len], fun j z G h1 h2 => ?_⟩
  rw [List.getElem?_set] at h1 h2
  by_cases hj : k = j
  · subst hj
    simp only [if_true] at h1 h2
    split at h1
    · split at h2
      · simp at h1 h2; subst h1; subst h2; rw [hd]; exact h
      · cases h2
    · cases h1
  · rw [if_neg hj] at h1 h2; exact q.el j z G h1 h2
end
theorem a2r {k : Nat} {H : HP} : ∀ {hs : List HP}, hs[k]? = some H → hs.Perm (H :: hs.eraseIdx k) := by
  intro hs h
  induction hs generalizing k with
  | nil => simp at h
  | cons x l ih =>
    cases k with
    | zero => simp at h; subst h; exact List.Perm.refl _
    | succ k => simp at h; simp only [b3u]; exact ((ih h).cons x).trans (List.Perm.swap _ _ _)
theorem Sat.two {p : HP} {ps : List HP} {h : Hp} (q : Sat (p :: ps) h) : Sat [p, L5 ps] h := by
  obtain ⟨g1, g2, r1, r2, r3, r4⟩ := q
  exact ⟨g1, g2, r1, ⟨g2, fun _ => none, r2, trivial, fun x o hx => ⟨hx, rfl⟩, fun x o hx => by cases hx⟩, r3, r4⟩
theorem Sat.untwo {p : HP} {ps : List HP} {h : Hp} (q : Sat [p, L5 ps] h) : Sat (p :: ps) h := by
  obtain ⟨g1, g2, r1, ⟨g3, g4, t1, _, t3, _⟩, r3, r4⟩ := q
  exact ⟨g1, g3, r1, t1, fun b o hx => ⟨(r3 b o hx).1, by
    cases h3 : g3 b with
    | none => rfl
    | some o' => have := (t3 b o' h3).1; rw [(r3 b o hx).2] at this; cases this⟩, fun b o hx => r4 b o (t3 b o hx).1⟩
section
variable {w : World} {s : Sg} {R hs : List HP}
theorem St.oNil (hS : St w s R) : St w s (L5 [] :: R) := hS.map fun h q => ⟨fun _ => none, h, trivial, q, (fun b o k => by cases k), fun _ _ k => k⟩
theorem St.satOpen : ∀ {ps : List HP} {R : List HP}, St w s (L5 ps :: R) → St w s (ps ++ R)
  | [], _, hS => hS.tail
  | p :: ps, R, hS => by
    have h1 : St w s (p :: L5 ps :: R) := hS.map fun h q => Sat.flat (Sat.head (fun h q => Sat.two q) q)
    have h2 : St w s (L5 ps :: p :: R) := h1.swap
    have h3 := St.satOpen h2
    refine h3.perm ?_
    exact b4I
theorem St.satClose : ∀ {ps : List HP} {R : List HP}, St w s (ps ++ R) → St w s (L5 ps :: R)
  | [], _, hS => hS.oNil
  | p :: ps, R, hS => by
    have h1 : St w s (ps ++ (p :: R)) := hS.perm b4I.symm
    have h2 := (St.satClose h1).swap
    exact h2.map fun h q => Sat.head (fun h q => Sat.untwo q) (Sat.unflat q)
theorem St.oOpen (hS : St w s R) (i : Nat) (hr : R[i]? = some (L5 hs)) {k : Nat} {ps : List HP} (hH : hs[k]? = some (L5 ps)) : St w s (ps ++ R.set i (L5 (hs.eraseIdx k))) := by
  have h1 : St w s (L5 hs :: R.eraseIdx i) := hS.front i hr
  have h2 : St w s (L5 ps :: L5 (hs.eraseIdx k) :: R.eraseIdx i) := h1.map fun h q => Sat.flat (Sat.head (fun h q => Sat.two (Sat.perm (a2r hH) q)) q)
  obtain ⟨e1, e2⟩ := a0j (r' := L5 (hs.eraseIdx k)) hr
  refine St.satOpen ?_
  have e3 : (L5 ps :: R.set i (L5 (hs.eraseIdx k)))[i + 1]? = some (L5 (hs.eraseIdx k)) := by simpa using e1
  refine St.unfront (i + 1) e3 ?_
  simp only [b3u]
  rw [e2]
  exact h2.swap
theorem St.oClose {ps : List HP} (hS : St w s (ps ++ R)) (i : Nat) {k : Nat} (hr : R[i]? = some (L5 (hs.eraseIdx k))) (hk : k < hs.length) : St w s (R.set i (L5 (hs.set k (L5 ps)))) := by
  have h1 := hS.satClose
  have e3 : (L5 ps :: R)[i + 1]? = some (L5 (hs.eraseIdx k)) := by simpa using hr
  have h2 := h1.front (i + 1) e3
  simp only [b3u] at h2
  have h3 : St w s (L5 ps :: L5 (hs.eraseIdx k) :: R.eraseIdx i) := h2.swap
  have e4 : (hs.set k (L5 ps)).eraseIdx k = hs.eraseIdx k := by rw [List.eraseIdx_set_eq]
  have e5 : (hs.set k (L5 ps))[k]? = some (L5 ps) := by simp [hk]
  have h4 : St w s (L5 (hs.set k (L5 ps)) :: R.eraseIdx i) := by
    refine h3.map fun h q => Sat.head (fun h q => ?_) (Sat.unflat q)
    have q2 := Sat.untwo q
    rw [← e4] at q2
    exact Sat.perm (a2r e5).symm q2
  obtain ⟨f1, f2⟩ := a0j (r' := L5 (hs.set k (L5 ps))) hr
  rw [← f2] at h4
  exact St.unfront i f1 h4
theorem St.oPush {ps : List HP} (hS : St w s (ps ++ (L5 hs :: R))) : St w s (L5 (hs ++ [L5 ps]) :: R) := by
  have h1 : St w s (L5 ps :: L5 hs :: R) := hS.satClose
  refine h1.map fun h q => Sat.head (fun h q => ?_) (Sat.unflat q)
  exact Sat.perm (List.perm_append_comm (l₁ := [L5 ps]) (l₂ := hs)) (Sat.untwo q)
end
section
variable {P : Program} {K : Kt} {a : Act} {w : World} {n : Nat} {E : Env} {ops : Array Oper} {rest : List Oper} {d : Option Tmp} {ty : TypeId} {pos : String} {aft : Array Edge} {g : Option (Nat × Bool)} {s : Sg} {R : List HP} {α : Type} {Rr : Rd α}
theorem WL.appDx (hE : Rep a n E) {b' T' m c' : Nat} {news : List Value} {fr : Nat × Nat} (hS : St w s (pt b' (.cells news.toArray T' fr) :: R)) (i : Nat) {t e es : Nat} {x y : Operand} {sa : Option Addr} {c k : Nat} {cs : List Value} {l xs r : List α}
    (hg : Region.wanted ⟨d, .call ⟨.builtin .append, #[x, y], #[t, t]⟩, ty, pos, aft, g⟩ (yielded ops a.tmps) = true)
    (hx : E.ev x = some (.slice sa k c)) (hy : E.ev y = some (.slice (some ⟨b', 0, none⟩) m c')) (hr : R[i]? = some (B2 e es sa c k cs)) (ht : a0p P t e es = true) (h1 : news.all (·.oneCell') = true)
    (hv : Ev es Rr s cs l) (hn : l.length = k) (hnew : Ev es Rr s news xs) (hm : xs.length = m) (hm0 : Nat.blt 0 m = true) (ha : apd l xs = some r) (hd : J5 d n = true)
    (q : ∀ a2 c2 a w, Ev es Rr s (cs ++ news) r → Rep a n (E.put d (.slice a2 r.length c2)) → St w s (R.set i (B2 e es a2 c2 r.length (cs ++ news))) → WL P ops K rest a w) : WL P ops K (⟨d, .call ⟨.builtin .append, #[x, y], #[t, t]⟩, ty, pos, aft, g⟩ :: rest) a w := by
  obtain ⟨hb, rfl⟩ := X9 ha
  subst hn; subst hm
  refine WL.app hE hS i hg hx hy hr ht hnew.len h1 hm0 hb hd ?_
  intro a2 c2 a w hE2 hS2
  rw [← List.length_append] at hE2 hS2
  exact q a2 c2 a w (hv.append hnew) hE2 hS2
end
end Go.Fp
