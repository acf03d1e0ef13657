/- Maps of the call's own whose elements are slices of the call's own. No condition. -/
import Derived.Test.YthllfhmpjclplaaGreatDoorFpMaps
open Bool renaming false_eq_true → b2s
namespace Go.Fp
open Go
def a7w {κ ν : Type} [BEq κ] (l : List (κ × ν)) (k : κ) : List (κ × ν) := match l with
  | [] => []
  | (j, v) :: r => if k == j then r else (j, v) :: a7w r k
def a1v {κ : Type} (fk : κ → Value) (Te es b : Nat) (l : List (κ × In)) : HP := fun h => Sat [L0 fk In.cell b l, a2X Te es (l.map (·.2))] h
def a2l {κ : Type} [BEq κ] (fk : κ → Value) (Te es b : Nat) (l : List (κ × In)) (k : κ) : HP := fun h => Sat [L0 fk In.cell b l, a2X Te es ((a7w l k).map (·.2))] h
def MEv {κ α : Type} (es : Nat) (Rr : Rd α) (s : Sg) : List (κ × In) → List (κ × List α) → Prop
  | [], [] => True
  | p :: l, q :: m => p.1 = q.1 ∧ Ev es Rr s p.2.cs q.2 ∧ q.2.length = p.2.n ∧ MEv es Rr s l m
  | _, _ => False
def MSl {κ α : Type} (es : Nat) (Rr : Rd α) (s : Sg) : List (κ × In) → List (κ × List α) → Prop
  | [], [] => True
  | p :: l, q :: m => p.1 = q.1 ∧ Sl es Rr s p.2.a p.2.c q.2 ∧ q.2.length = p.2.n ∧ MSl es Rr s l m
  | _, _ => False
section
variable {κ α : Type} {es Te : Nat} {Rr : Rd α} {s t : Sg} {w : World} {R : List HP}
theorem MEv.mono (hR : O7 Rr) (h : s.Le t) : ∀ {l : List (κ × In)} {m : List (κ × List α)}, MEv es Rr s l m → MEv es Rr t l m
  | [], [], _ => trivial
  | [], _ :: _, q => q.elim
  | _ :: _, [], q => q.elim
  | _ :: _, _ :: _, ⟨h1, h2, h3, h4⟩ => ⟨h1, h2.mono hR h, h3, MEv.mono hR h h4⟩
theorem MSl.mono (hR : O7 Rr) (h : s.Le t) : ∀ {l : List (κ × In)} {m : List (κ × List α)}, MSl es Rr s l m → MSl es Rr t l m
  | [], [], _ => trivial
  | [], _ :: _, q => q.elim
  | _ :: _, [], q => q.elim
  | _ :: _, _ :: _, ⟨h1, h2, h3, h4⟩ => ⟨h1, h2.mono hR h, h3, MSl.mono hR h h4⟩
theorem MEv.at [BEq κ] : ∀ {l : List (κ × In)} {m : List (κ × List α)}, MEv es Rr s l m → ∀ k : κ, ∃ a c cs, (O2 l k).getD a3b = ⟨a, c, ((O2 m k).getD []).length, cs⟩ ∧ Ev es Rr s cs ((O2 m k).getD [])
  | [], [], _, _ => ⟨none, 0, [], rfl, Ev.nil⟩
  | [], _ :: _, q, _ => q.elim
  | _ :: _, [], q, _ => q.elim
  | (j, d) :: l, (j', x) :: m, ⟨h1, h2, h3, h4⟩, k => by
    simp only at h1 h2 h3
    subst h1
    simp only [O2]
    cases hk : (k == j) with
    | true => simp only [if_true, Option.getD_some]; exact ⟨d.a, d.c, d.cs, by rw [h3], h2⟩
    | false => simpa using MEv.at h4 k
theorem MEv.put [BEq κ] {a : Option Addr} {c n : Nat} {cs : List Value} {x : List α} (h : Ev es Rr s cs x) (hn : x.length = n) : ∀ {l : List (κ × In)} {m : List (κ × List α)}, MEv es Rr s l m → ∀ k : κ, MEv es Rr s (O1 l k ⟨a, c, n, cs⟩) (O1 m k x)
  | [], [], _, _ => ⟨rfl, h, hn, trivial⟩
  | [], _ :: _, q, _ => q.elim
  | _ :: _, [], q, _ => q.elim
  | (j, d) :: l, (j', y) :: m, ⟨h1, h2, h3, h4⟩, k => by
    simp only at h1 h2 h3
    subst h1
    simp only [O1]
    cases hk : (k == j) with
    | true => simp only [if_true]; exact ⟨rfl, h, hn, h4⟩
    | false => simp only [b2s, if_false]; exact ⟨rfl, h2, h3, MEv.put h hn h4 k⟩
theorem MEv.nev : ∀ {l : List (κ × In)} {m : List (κ × List α)}, MEv es Rr s l m → NEv es Rr s (l.map (·.2)) (m.map (·.2))
  | [], [], _ => NEv.nil
  | [], _ :: _, q => q.elim
  | _ :: _, [], q => q.elim
  | p :: l, q :: m, ⟨_, h2, h3, h4⟩ => by
    have ih := MEv.nev h4
    refine ⟨by have := ih.len; simpa using this, fun k d x h5 h6 => ?_⟩
    cases k with
    | zero => simp at h5 h6; subst h5; subst h6; exact ⟨h2, h3⟩
    | succ k => exact ih.el k d x (by simpa using h5) (by simpa using h6)
theorem MSl.ofs : ∀ {l : List (κ × In)} {m : List (κ × List α)}, MEv es Rr s l m → (∀ (k : Nat) (d : In) (x : List α), (l.map (·.2))[k]? = some d → (m.map (·.2))[k]? = some x → Sl es Rr t d.a d.c x ∧ x.length = d.n) → MSl es Rr t l m
  | [], [], _, _ => trivial
  | [], _ :: _, q, _ => q.elim
  | _ :: _, [], q, _ => q.elim
  | p :: l, q :: m, ⟨h1, _, _, h4⟩, hk => ⟨h1, (hk 0 _ _ rfl rfl).1, (hk 0 _ _ rfl rfl).2, MSl.ofs h4 fun k d x h5 h6 => hk (k + 1) d x (by simpa using h5) (by simpa using h6)⟩
theorem MSl.at : ∀ {l : List (κ × In)} {m : List (κ × List α)}, MSl es Rr s l m → ∀ {k : Nat} {p : κ × In}, l[k]? = some p → ∃ x, m[k]? = some (p.1, x) ∧ Sl es Rr s p.2.a p.2.c x ∧ x.length = p.2.n
  | [], [], _, _, _, e => by simp at e
  | [], _ :: _, q, _, _, _ => q.elim
  | _ :: _, [], q, _, _, _ => q.elim
  | (j, d) :: l, (j', x) :: m, ⟨h1, h2, h3, h4⟩, k, p, e => by
    cases k with
    | zero => simp at e h1; subst e; subst h1; exact ⟨x, rfl, h2, h3⟩
    | succ k => simpa using MSl.at h4 (by simpa using e)
theorem MSl.len : ∀ {l : List (κ × In)} {m : List (κ × List α)}, MSl es Rr s l m → l.length = m.length
  | [], [], _ => rfl
  | [], _ :: _, q => q.elim
  | _ :: _, [], q => q.elim
  | _ :: _, _ :: _, ⟨_, _, _, h4⟩ => by simp [MSl.len h4]
theorem Sat.insOut {d : In} {ds : List In} {R : List HP} {h : Hp} (q : Sat (a2X Te es (d :: ds) :: R) h) : Sat (In.hp Te es d :: a2X Te es ds :: R) h := by
  refine Sat.flat (Sat.head (fun h q => ?_) q)
  obtain ⟨g1, g2, r1, r2, r3, r4⟩ := q
  exact ⟨g1, g2, r1, ⟨g2, fun _ => none, r2, trivial, fun b o hx => ⟨hx, rfl⟩, fun b o hx => by cases hx⟩, r3, r4⟩
theorem Sat.insIn {d : In} {ds : List In} {R : List HP} {h : Hp} (q : Sat (In.hp Te es d :: a2X Te es ds :: R) h) : Sat (a2X Te es (d :: ds) :: R) h := by
  refine Sat.head (fun h q => ?_) (Sat.unflat q)
  obtain ⟨g1, g2, r1, ⟨g3, g4, t1, _, t3, _⟩, r3, r4⟩ := q
  exact ⟨g1, g3, r1, t1, fun b o hx => ⟨(r3 b o hx).1, by
    cases h3 : g3 b with
    | none => rfl
    | some o' => have := (t3 b o' h3).1; rw [(r3 b o hx).2] at this; cases this⟩, fun b o hx => r4 b o (t3 b o hx).1⟩
theorem Sat.nilHp {R : List HP} {h : Hp} (q : Sat R h) : Sat (In.hp Te es a3b :: R) h := ⟨fun _ => none, h, ⟨by simp [a3b], .inl ⟨rfl, rfl, rfl⟩⟩, q, fun _ _ k => (by cases k), fun _ _ k => k⟩
theorem Sat.slOpen [BEq κ] : ∀ {l : List (κ × In)} {k : κ} {R : List HP} {h : Hp}, Sat (a2X Te es (l.map (·.2)) :: R) h → Sat (In.hp Te es ((O2 l k).getD a3b) :: a2X Te es ((a7w l k).map (·.2)) :: R) h
  | [], _, _, _, q => Sat.nilHp q
  | (j, d) :: l, k, R, h, q => by
    have h1 := Sat.insOut q
    simp only [O2, a7w]
    cases hk : (k == j) with
    | true => simpa using h1
    | false =>
      simp only [b2s, if_false]
      have h2 := Sat.slOpen (k := k) (Sat.swap h1)
      exact Sat.under (fun _ q => Sat.insIn (Sat.swap q)) h2
theorem Sat.slClose [BEq κ] {d : In} : ∀ {l : List (κ × In)} {k : κ} {R : List HP} {h : Hp}, Sat (In.hp Te es d :: a2X Te es ((a7w l k).map (·.2)) :: R) h → Sat (a2X Te es ((O1 l k d).map (·.2)) :: R) h
  | [], _, _, _, q => Sat.insIn q
  | (j, d') :: l, k, R, h, q => by
    simp only [O1, a7w] at q ⊢
    cases hk : (k == j) with
    | true => rw [hk] at q; exact Sat.insIn q
    | false =>
      rw [hk] at q
      simp only [b2s, if_false] at q ⊢
      have h1 : Sat (In.hp Te es d :: In.hp Te es d' :: a2X Te es ((a7w l k).map (·.2)) :: R) h := Sat.under (fun _ q => Sat.insOut q) q
      exact Sat.insIn (Sat.swap (Sat.slClose (R := In.hp Te es d' :: R) (Sat.under (fun _ => Sat.swap) h1)))
variable {fk : κ → Value} {b : Nat} {l : List (κ × In)}
theorem St.msNew (hS : St w s (L0 fk In.cell b ([] : List (κ × In)) :: R)) : St w s (a1v fk Te es b ([] : List (κ × In)) :: R) :=
  by
  refine hS.map fun h q => Sat.unflat (Sat.under (fun h' q' => ?_) q)
  exact ⟨fun _ => none, h', trivial, q', fun _ _ e => (by cases e), fun _ _ e => e⟩
theorem St.msSplit (hS : St w s R) (i : Nat) (hr : R[i]? = some (a1v fk Te es b l)) : St w s (L0 fk In.cell b l :: a2X Te es (l.map (·.2)) :: R.eraseIdx i) := (hS.front i hr).map fun _ q => Sat.flat q
theorem St.msJoin {r : HP} (i : Nat) (hr : R[i]? = some r) (hS : St w s (L0 fk In.cell b l :: a2X Te es (l.map (·.2)) :: R.eraseIdx i)) : St w s (R.set i (a1v fk Te es b l)) := by
  have h1 : St w s (a1v fk Te es b l :: R.eraseIdx i) := hS.map fun _ q => Sat.unflat q
  obtain ⟨e1, e2⟩ := a0j (r' := a1v fk Te es b l) hr
  rw [← e2] at h1
  exact St.unfront i e1 h1
theorem St.msOpen [BEq κ] (hS : St w s R) (i : Nat) (hr : R[i]? = some (a1v fk Te es b l)) {k : κ} {d : In} (hd : (O2 l k).getD a3b = d) : St w s (In.hp Te es d :: R.set i (a2l fk Te es b l k)) := by
  have h1 := (hS.msSplit i hr).swap
  have h2 : St w s (a2l fk Te es b l k :: In.hp Te es d :: R.eraseIdx i) := by
    refine h1.map fun h q => ?_
    have q1 := Sat.slOpen (k := k) q
    rw [hd] at q1
    exact Sat.swap (Sat.under (fun _ q => Sat.unflat (Sat.swap q)) q1)
  obtain ⟨e1, e2⟩ := a0j (r' := a2l fk Te es b l k) hr
  have e3 : (In.hp Te es d :: R.set i (a2l fk Te es b l k))[i + 1]? = some (a2l fk Te es b l k) := by simpa using e1
  refine St.unfront (i + 1) e3 ?_
  simp only [List.eraseIdx_cons_succ]
  rw [e2]
  exact h2
theorem St.msFix (hR : O7 Rr) {m : List (κ × List α)} (hS : St w s R) (i : Nat) (hr : R[i]? = some (a1v fk Te es b l)) (h : MEv es Rr s l m) : ∃ t, s.Le t ∧ St w t (R.set i (L0 fk In.cell b l)) ∧ MSl es Rr t l m := by
  obtain ⟨t, h1, h2, h3, _⟩ := St.lendIns hR _ _ (hS.msSplit i hr).swap h.nev
  refine ⟨t, h1, ?_, MSl.ofs h h3⟩
  obtain ⟨e1, e2⟩ := a0j (r' := L0 fk In.cell b l) hr
  rw [← e2] at h2
  exact St.unfront i e1 h2
end
section
variable {P : Program} {K : Kt} {a : Act} {w : World} {n : Nat} {E : Env} {ops : Array Oper} {rest : List Oper} {d : Option Tmp} {ty : TypeId} {pos : String} {aft : Array Edge} {g : Option (Nat × Bool)} {s : Sg} {R : List HP}
variable {κ : Type} {Te es : Nat}
theorem A6.msGet [BEq κ] (K' : a8H κ) (hE : Rep a n E) (i : Nat) {t kt vt : TypeId} {x y : Operand} {b : Nat} {l : List (κ × In)} {k : κ} {dd : In}
    (hx : E.ev x = some (.map (some b))) (hy : E.ev y = some (K'.f k)) (hr : R[i]? = some (a1v K'.f Te es b l)) (ht : a4A P K'.ok t kt vt = true)
    (hz : (P.info? vt).bind (fun i => i.zero) = some (.slice none 0 0)) (hd : (O2 l k).getD a3b = dd) : A6 P (fun w => St w s R) a ⟨d, .lookup t x y false, ty, pos, aft, g⟩ dd.cell := by
  subst hd
  exact fun w hS => A6.mapGet (R := L0 K'.f In.cell b l :: a2X Te es (l.map (·.2)) :: R.eraseIdx i) (z := a3b) K' hE 0 hx hy rfl ht hz w (hS.msSplit i hr)
theorem WL.msSet [BEq κ] (K' : a8H κ) (hE : Rep a n E) {a' : Option Addr} {c' n' : Nat} {cs' : List Value} (hS : St w s (B2 Te es a' c' n' cs' :: R)) (i : Nat) {t kt vt : TypeId} {x y z : Operand} {b : Nat} {l : List (κ × In)} {k : κ} {ins : Op}
    (hi : ins = .mapUpdate t x y z ∨ ins = .insert t x y z) (hg : Region.wanted ⟨d, ins, ty, pos, aft, g⟩ (yielded ops a.tmps) = true)
    (hx : E.ev x = some (.map (some b))) (hy : E.ev y = some (K'.f k)) (hz : E.ev z = some (.slice a' n' c')) (hr : R[i]? = some (a2l K'.f Te es b l k)) (ht : a4A P K'.ok t kt vt = true) (hd : J5 d n = true)
    (q : ∀ a w, Rep a n (E.put d undef) → St w s (R.set i (a1v K'.f Te es b (O1 l k ⟨a', c', n', cs'⟩))) → WL P ops K rest a w) : WL P ops K (⟨d, ins, ty, pos, aft, g⟩ :: rest) a w := by
  have h1 : St w s (L0 K'.f In.cell b l :: In.hp Te es ⟨a', c', n', cs'⟩ :: a2X Te es ((a7w l k).map (·.2)) :: R.eraseIdx i) := by
    have h0 : (B2 Te es a' c' n' cs' :: R)[i + 1]? = some (a2l K'.f Te es b l k) := by simpa using hr
    refine (hS.front (i + 1) h0).map fun h q => ?_
    simp only [List.eraseIdx_cons_succ] at q
    exact Sat.under (fun _ => Sat.swap) (Sat.flat q)
  refine WL.mapSet (fv := In.cell) (v := ⟨a', c', n', cs'⟩) K' hE h1 0 (k := k) hi hg hx hy hz rfl ht hd ?_
  intro a w hE2 hS2
  refine q a w hE2 ?_
  refine St.msJoin i hr ?_
  exact hS2.map fun h q => Sat.under (fun _ q => Sat.slClose q) q
end
end Go.Fp
