/- Several maps of the call's own. No condition. -/
import Derived.Test.YthllfhmpjclplaaGreatDoorFpMapG
import Derived.Test.YthllfhmpjclplaaGreatDoorFpRmap
open List renaming getElem?_eq_some_iff → b2t, drop_eq_nil_of_le → b3d
namespace Go.Fp
open Go
def N3 {κ ν : Type} (fk : κ → Value) (fv : ν → Value) : List Nat → List (List (κ × ν)) → HP
  | [], [] => fun _ => True
  | b :: bs, m :: ms => fun h => Sat [L0 fk fv b m, N3 fk fv bs ms] h
  | _, _ => fun _ => False
def K7 (n : Nat) (bs : List Nat) : List Value := bs.map (fun b => Value.map (some b)) ++ List.replicate (n - bs.length) (.map none)
section
variable {κ ν : Type} {fk : κ → Value} {fv : ν → Value} {w : World} {s : Sg} {R : List HP}
theorem Sat.third {p q r : HP} {rs : List HP} {h : Hp} (k : Sat (p :: q :: r :: rs) h) : Sat (r :: p :: q :: rs) h := (Sat.under (fun _ => Sat.swap) k).swap
theorem Sat.mapsTake : ∀ {bs : List Nat} {ms : List (List (κ × ν))} {k : Nat} {m : List (κ × ν)} {R : List HP} {h : Hp}, Sat (N3 fk fv bs ms :: R) h → ms[k]? = some m →
    ∃ b, bs[k]? = some b ∧ Sat (L0 fk fv b m :: N3 fk fv (bs.eraseIdx k) (ms.eraseIdx k) :: R) h
  | [], [], _, _, _, _, _, e => by simp at e
  | [], _ :: _, _, _, _, _, ⟨_, _, q, _⟩, _ => q.elim
  | _ :: _, [], _, _, _, _, ⟨_, _, q, _⟩, _ => q.elim
  | b :: bs, x :: ms, 0, m, R, h, q, e => by
    simp only [List.getElem?_cons_zero, Option.some.injEq] at e
    subst e
    exact ⟨b, rfl, Sat.flat q⟩
  | b :: bs, x :: ms, k + 1, m, R, h, q, e => by
    obtain ⟨b', h1, h2⟩ := Sat.mapsTake (Sat.swap (Sat.flat q)) (by simpa using e)
    exact ⟨b', by simpa using h1, Sat.under (fun _ q => Sat.unflat (Sat.swap q)) h2⟩
theorem Sat.mapsGive : ∀ {bs : List Nat} {ms : List (List (κ × ν))} {k : Nat} {b : Nat} {m : List (κ × ν)} {R : List HP} {h : Hp}, Sat (L0 fk fv b m :: N3 fk fv (bs.eraseIdx k) (ms.eraseIdx k) :: R) h → bs[k]? = some b → k < ms.length →
    Sat (N3 fk fv bs (ms.set k m) :: R) h
  | [], _, _, _, _, _, _, _, e, _ => by simp at e
  | _ :: _, [], _, _, _, _, _, _, _, e => by simp at e
  | b0 :: bs, x :: ms, 0, b, m, R, h, q, e, _ => by
    simp only [List.getElem?_cons_zero, Option.some.injEq] at e
    subst e
    exact Sat.unflat q
  | b0 :: bs, x :: ms, k + 1, b, m, R, h, q, e, hk => by
    have h1 : Sat (L0 fk fv b m :: L0 fk fv b0 x :: N3 fk fv (bs.eraseIdx k) (ms.eraseIdx k) :: R) h := Sat.under (fun _ q => Sat.flat q) q
    have h2 := Sat.mapsGive (bs := bs) (ms := ms) (k := k) (R := L0 fk fv b0 x :: R) (Sat.under (fun _ => Sat.swap) h1) (by simpa using e) (by simpa using hk)
    exact Sat.unflat (Sat.swap h2)
theorem Sat.mapsSnoc : ∀ {bs : List Nat} {ms : List (List (κ × ν))} {b : Nat} {m : List (κ × ν)} {R : List HP} {h : Hp}, Sat (L0 fk fv b m :: N3 fk fv bs ms :: R) h → Sat (N3 fk fv (bs ++ [b]) (ms ++ [m]) :: R) h
  | [], [], _, _, _, _, q => Sat.unflat q
  | [], _ :: _, _, _, _, _, ⟨_, _, _, ⟨_, _, q, _⟩, _⟩ => q.elim
  | _ :: _, [], _, _, _, _, ⟨_, _, _, ⟨_, _, q, _⟩, _⟩ => q.elim
  | b0 :: bs, x :: ms, b, m, R, h, q => by
    have h1 : Sat (L0 fk fv b m :: L0 fk fv b0 x :: N3 fk fv bs ms :: R) h := Sat.under (fun _ q => Sat.flat q) q
    have h2 := Sat.mapsSnoc (R := L0 fk fv b0 x :: R) (Sat.under (fun _ => Sat.swap) h1)
    exact Sat.unflat (Sat.swap h2)
theorem Sat.mapsLen : ∀ {bs : List Nat} {ms : List (List (κ × ν))} {R : List HP} {h : Hp}, Sat (N3 fk fv bs ms :: R) h → bs.length = ms.length
  | [], [], _, _, _ => rfl
  | [], _ :: _, _, _, ⟨_, _, q, _⟩ => q.elim
  | _ :: _, [], _, _, ⟨_, _, q, _⟩ => q.elim
  | b :: bs, x :: ms, R, h, q => by
    have := Sat.mapsLen (Sat.swap (Sat.flat q))
    simp [this]
theorem St.mapsNil (hS : St w s R) : St w s (N3 fk fv [] [] :: R) :=
  hS.map fun h q => ⟨fun _ => none, h, trivial, q, fun _ _ e => (by cases e), fun _ _ e => e⟩
theorem St.mapsLen (hS : St w s R) (i : Nat) {bs : List Nat} {ms : List (List (κ × ν))} (hr : R[i]? = some (N3 fk fv bs ms)) : bs.length = ms.length := by
  obtain ⟨h, q, _⟩ := (hS.front i hr).own
  exact q.mapsLen
theorem St.mapsAt (hS : St w s R) (i : Nat) {bs : List Nat} {ms : List (List (κ × ν))} (hr : R[i]? = some (N3 fk fv bs ms)) {k : Nat} {m : List (κ × ν)} (hk : ms[k]? = some m) : ∃ b, bs[k]? = some b := by
  have := hS.mapsLen i hr
  have h2 := (b2t.1 hk).1
  exact ⟨_, List.getElem?_eq_getElem (by omega)⟩
theorem St.mapsTake (hS : St w s R) (i : Nat) {bs : List Nat} {ms : List (List (κ × ν))} (hr : R[i]? = some (N3 fk fv bs ms)) {k b : Nat} {m : List (κ × ν)} (hk : ms[k]? = some m) (hb : bs[k]? = some b) :
    St w s (L0 fk fv b m :: N3 fk fv (bs.eraseIdx k) (ms.eraseIdx k) :: R.eraseIdx i) := by
  refine (hS.front i hr).map fun h q => ?_
  obtain ⟨b', h1, h2⟩ := q.mapsTake hk
  rw [hb] at h1
  injection h1 with h1
  subst h1
  exact h2
theorem St.mapsGive {i : Nat} {bs : List Nat} {ms : List (List (κ × ν))} (hr : R[i]? = some (N3 fk fv bs ms)) {k b : Nat} {m m' : List (κ × ν)} (hk : ms[k]? = some m) (hb : bs[k]? = some b)
    (hS : St w s (L0 fk fv b m' :: N3 fk fv (bs.eraseIdx k) (ms.eraseIdx k) :: R.eraseIdx i)) : St w s (R.set i (N3 fk fv bs (ms.set k m'))) := by
  have h1 : St w s (N3 fk fv bs (ms.set k m') :: R.eraseIdx i) := hS.map fun h q => q.mapsGive hb (b2t.1 hk).1
  obtain ⟨e1, e2⟩ := a0j (r' := N3 fk fv bs (ms.set k m')) hr
  rw [← e2] at h1
  exact St.unfront i e1 h1
theorem St.mapsSnoc (hS : St w s R) (i j : Nat) {bs : List Nat} {ms : List (List (κ × ν))} {b : Nat} {m : List (κ × ν)} (hr : R[i]? = some (N3 fk fv bs ms)) (hb : (N3 fk fv bs ms :: R.eraseIdx i)[j + 1]? = some (L0 fk fv b m)) :
    St w s (N3 fk fv (bs ++ [b]) (ms ++ [m]) :: (R.eraseIdx i).eraseIdx j) := by
  have h1 := (hS.front i hr).front (j + 1) hb
  exact h1.map fun h q => Sat.mapsSnoc q
end
section
variable {κ ν : Type} {fv : ν → Value}
theorem R5 {n : Nat} {bs : List Nat} (h : bs.length ≤ n) : (K7 n bs).length = n := by simp [K7]; omega
theorem a6n {n : Nat} {bs : List Nat} {k b : Nat} (h : bs[k]? = some b) : (K7 n bs)[k]? = some (.map (some b)) := by
  have hk := (b2t.1 h).1
  unfold K7
  rw [List.getElem?_append_left (by simpa using hk), List.getElem?_map, h]
  rfl
theorem a4U {n : Nat} {bs : List Nat} {b : Nat} (h : bs.length < n) : (K7 n bs).take bs.length ++ [Value.map (some b)] ++ (K7 n bs).drop (bs.length + [Value.map (some b)].length) = K7 n (bs ++ [b]) := by
  obtain ⟨d, hd⟩ : ∃ d, n - bs.length = d + 1 := ⟨n - bs.length - 1, by omega⟩
  have e2 : n - (bs ++ [b]).length = d := by simp; omega
  unfold K7
  rw [hd, e2]
  have l1 : (bs.map (fun b => Value.map (some b))).length = bs.length := by simp
  rw [List.take_append_of_le_length (by simp), List.take_of_length_le (by simp), List.drop_append, b3d (by simp), l1]
  simp [List.replicate_succ]
theorem a4X {n : Nat} {bs : List Nat} (h : bs.length = n) : K7 n bs = bs.map (fun b => Value.map (some b)) := by
  unfold K7
  rw [h, Nat.sub_self]
  simp
theorem a4Q (n : Nat) (bs : List Nat) : (K7 n bs).all (·.oneCell') = true := by
  unfold K7
  simp [List.all_append, List.all_map, List.all_replicate, Value.oneCell', Function.comp_def]
end
section
variable {P : Program} {K : Kt} {a : Act} {w : World} {n : Nat} {E : Env} {ops : Array Oper} {rest : List Oper} {d : Option Tmp} {ty : TypeId} {pos : String} {aft : Array Edge} {g : Option (Nat × Bool)} {s : Sg} {R : List HP}
variable {κ ν : Type} {fv : ν → Value}
theorem A6.mapsGetS [BEq κ] (K' : a1B κ) (hE : Rep a n E) (i : Nat) {t kt vt : TypeId} {x y : Operand} {bs : List Nat} {ms : List (List (κ × ν))} {j b : Nat} {l : List (κ × ν)} {k : κ} {z : ν}
    (hb : bs[j]? = some b) (hl : ms[j]? = some l) (hx : E.ev x = some (.map (some b))) (hy : E.ev y = some (K'.f k)) (hr : R[i]? = some (N3 K'.f fv bs ms)) (ht : a2b P K'.ks t kt vt = true)
    (hz : (P.info? vt).bind (fun i => i.zero) = some (fv z)) : A6 P (fun w => St w s R) a ⟨d, .lookup t x y false, ty, pos, aft, g⟩ (fv ((O2 l k).getD z)) :=
  fun w hS => A6.mapGetS (R := L0 K'.f fv b l :: N3 K'.f fv (bs.eraseIdx j) (ms.eraseIdx j) :: R.eraseIdx i) K' hE 0 hx hy rfl ht hz w (hS.mapsTake i hr hl hb)
theorem WL.mapsSetS [BEq κ] (K' : a1B κ) (hE : Rep a n E) (hS : St w s R) (i : Nat) {t kt vt : TypeId} {x y z : Operand} {bs : List Nat} {ms : List (List (κ × ν))} {j b : Nat} {l : List (κ × ν)} {k : κ} {v : ν} {ins : Op}
    (hi : ins = .mapUpdate t x y z ∨ ins = .insert t x y z) (hb : bs[j]? = some b) (hl : ms[j]? = some l) (hg : Region.wanted ⟨d, ins, ty, pos, aft, g⟩ (yielded ops a.tmps) = true)
    (hx : E.ev x = some (.map (some b))) (hy : E.ev y = some (K'.f k)) (hz : E.ev z = some (fv v)) (hr : R[i]? = some (N3 K'.f fv bs ms)) (ht : a2b P K'.ks t kt vt = true) (hd : J5 d n = true)
    (q : ∀ a w, Rep a n (E.put d undef) → St w s (R.set i (N3 K'.f fv bs (ms.set j (O1 l k v)))) → WL P ops K rest a w) : WL P ops K (⟨d, ins, ty, pos, aft, g⟩ :: rest) a w := by
  refine WL.mapSetS (R := L0 K'.f fv b l :: N3 K'.f fv (bs.eraseIdx j) (ms.eraseIdx j) :: R.eraseIdx i) K' hE (hS.mapsTake i hr hl hb) 0 (k := k) (v := v) hi hg hx hy hz rfl ht hd ?_
  intro a w hE2 hS2
  exact q a w hE2 (St.mapsGive hr hl hb hS2)
end
def mgx {α : Type} (n : Nat) (ms : List α) (e : Int) : Option α := if e < (n : Int) then gx ms e else none
def mst {α : Type} (n : Nat) (ms : List α) (e : Int) : Option Unit := if e = (ms.length : Int) ∧ ms.length < n then some () else none
def a9A {α : Type} (n : Nat) (ms : List α) : Option Unit := if ms.length = n then some () else none
theorem a4F {α : Type} {n : Nat} {ms : List α} {e : Int} {x : α} (h : mgx n ms e = some x) : e = (e.toNat : Int) ∧ e.toNat < n ∧ ms[e.toNat]? = some x := by
  unfold mgx at h
  split at h
  · obtain ⟨h1, h2, h3⟩ := W8 h
    exact ⟨h1, by omega, h3⟩
  · cases h
theorem a6L {α : Type} {n : Nat} {ms : List α} {e : Int} {u : Unit} (h : mst n ms e = some u) : e = (ms.length : Int) ∧ ms.length < n := by
  unfold mst at h
  split at h
  · assumption
  · cases h
theorem a6i {α : Type} {n : Nat} {ms : List α} {u : Unit} (h : a9A n ms = some u) : ms.length = n := by
  unfold a9A at h
  split at h
  · assumption
  · cases h
section
variable {P : Program} {K : Kt} {a : Act} {w : World} {n : Nat} {E : Env} {ops : Array Oper} {rest : List Oper} {d : Option Tmp} {ty : TypeId} {pos : String} {aft : Array Edge} {g : Option (Nat × Bool)} {s : Sg} {R : List HP}
theorem St.mapsSees (hS : St w s R) (i : Nat) {b T m : Nat} {bs : List Nat} {k b' : Nat} (hr : R[i]? = some (pt b (.cells (K7 m bs).toArray T (0, 0)))) (hb : bs[k]? = some b') : a0M w b (0 + k * 1) [.map (some b')] := by
  intro j v hj
  have h1 := hS.seesAt i hr
  cases j with
  | succ j => simp at hj
  | zero =>
    simp at hj
    subst hj
    have := h1 k _ (a6n hb)
    simpa using this
theorem WL.storeM (hE : Rep a n E) (hS : St w s R) (i : Nat) {t T m b b2 : Nat} {bs : List Nat} (hr : R[i]? = some (pt b (.cells (K7 m bs).toArray T (0, 0)))) {x y : Operand}
    (hg : Region.wanted ⟨d, .store t x y, ty, pos, aft, g⟩ (yielded ops a.tmps) = true) (hx : E.ev x = some (.pointer (some ⟨b, 0 + bs.length * 1, none⟩))) (hy : E.ev y = some (.map (some b2))) (ht : Q8 P t false 1 = true) (hlt : bs.length < m) (hd : J5 d n = true)
    (q : ∀ a w, Rep a n (E.put d undef) → St w s (R.set i (pt b (.cells (K7 m (bs ++ [b2])).toArray T (0, 0)))) → WL P ops K rest a w) : WL P ops K (⟨d, .store t x y, ty, pos, aft, g⟩ :: rest) a w := by
  refine WL.storeI hE hS i hr (K7 m (bs ++ [b2])) (vs := [.map (some b2)]) hg hx hy rfl ht rfl ?_ ?_ hd q
  · rw [R5 (by omega)]
    simp only [Nat.zero_add, Nat.mul_one, List.length_cons, List.length_nil]
    rw [Nat.ble_eq]; omega
  · have := a4U (n := m) (bs := bs) (b := b2) hlt
    simpa using this
theorem WL.storeMA (hE : Rep a n E) (hS : St w s R) (i : Nat) {t T m b : Nat} {bs bs0 : List Nat} (hr : R[i]? = some (pt b (.cells (K7 m bs0).toArray T (0, 0)))) {x y : Operand}
    (hg : Region.wanted ⟨d, .store t x y, ty, pos, aft, g⟩ (yielded ops a.tmps) = true) (hx : E.ev x = some (.pointer (some ⟨b, 0, none⟩))) (hy : E.ev y = some (.agg (K7 m bs).toArray)) (ht : Q8 P t true m = true) (h0 : bs0.length ≤ m) (hl : bs.length ≤ m) (hd : J5 d n = true)
    (q : ∀ a w, Rep a n (E.put d undef) → St w s (R.set i (pt b (.cells (K7 m bs).toArray T (0, 0)))) → WL P ops K rest a w) : WL P ops K (⟨d, .store t x y, ty, pos, aft, g⟩ :: rest) a w := by
  refine WL.storeI hE hS i hr (K7 m bs) (vs := K7 m bs) hg hx hy rfl (by rw [R5 hl]; exact ht) (a4Q m bs) ?_ ?_ hd q
  · rw [R5 h0, R5 hl]
    rw [Nat.ble_eq]; omega
  · rw [R5 hl, b3d (by rw [R5 h0]; omega)]
    simp
end
end Go.Fp
