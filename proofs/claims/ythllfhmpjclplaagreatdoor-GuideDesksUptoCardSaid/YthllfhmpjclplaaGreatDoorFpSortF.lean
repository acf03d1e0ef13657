/- slices.SortFunc at structs of one size, where no two elements tie unless they are one: what the library's contract says, told of a slice of the call's own. No condition. -/
import Derived.Test.YthllfhmpjclplaaGreatDoorFpGrow
import Derived.Sort.Grow
import Derived.Shelf.SlSortCmp.WholeK
open List renaming all_eq_true → b3i, Perm → b3m, pairwise_cons → b4j, mem_cons → b2M, flatMap_cons → b3P, length_cons → b2v, getElem?_append_left → b2G, getElem?_append_right → b2D, ext_getElem? → b3v, getElem?_eq_getElem → b2q, append_assoc → b2y, attach_map_subtype_val → b4P, drop_zero → b2U
open Nat renaming add_mul → b2R, lt_or_ge → b2I, eq_zero_or_pos → b2T, mul_le_mul_right → b2x
open Array renaming getElem?_toList → b3t, getElem?_eq_getElem → b2O, getElem?_eq_none → b3o, getElem?_modify → b2Q, getElem?_mapIdx → b3W
namespace Go.Fp
open Go
section
variable {α : Type}
def a8u (cmp : α → α → Int) (x : α) : List α → List α
  | [] => [x]
  | y :: l => if cmp x y < 0 then x :: y :: l else y :: a8u cmp x l
def W0 (cmp : α → α → Int) : List α → List α
  | [] => []
  | x :: l => a8u cmp x (W0 cmp l)
structure OkF (cmp : α → α → Int) (l : List α) : Prop where
  irr : ∀ x ∈ l, ¬ cmp x x < 0
  tr : ∀ x ∈ l, ∀ y ∈ l, ∀ z ∈ l, cmp x y < 0 → cmp y z < 0 → cmp x z < 0
  tie : ∀ x ∈ l, ∀ y ∈ l, ¬ cmp x y < 0 → ¬ cmp y x < 0 → x = y
variable [DecidableEq α]
def okF (cmp : α → α → Int) (l : List α) : Bool :=
  l.all fun x => (!decide (cmp x x < 0)) && (l.all fun y => ((decide (cmp x y < 0) || decide (cmp y x < 0) || decide (x = y)) && l.all fun z => !(decide (cmp x y < 0)) || !(decide (cmp y z < 0)) || decide (cmp x z < 0)))
theorem a5z {cmp : α → α → Int} {l : List α} : okF cmp l = true ↔ OkF cmp l := by
  constructor
  · intro h
    unfold okF at h
    have h1 : ∀ x ∈ l, _ := fun x hx => b3i.1 h x hx
    simp only [Bool.and_eq_true, b3i, Bool.or_eq_true, Bool.not_eq_true', decide_eq_false_iff_not, decide_eq_true_eq] at h1
    refine ⟨fun x hx => (h1 x hx).1, fun x hx y hy z hz a b => ?_, fun x hx y hy a b => ?_⟩
    · rcases ((h1 x hx).2 y hy).2 z hz with (h2 | h2) | h2
      · exact (h2 a).elim
      · exact (h2 b).elim
      · exact h2
    · rcases ((h1 x hx).2 y hy).1 with (h2 | h2) | h2
      · exact (a h2).elim
      · exact (b h2).elim
      · exact h2
  · intro h
    unfold okF
    simp only [Bool.and_eq_true, b3i, Bool.or_eq_true, Bool.not_eq_true', decide_eq_false_iff_not, decide_eq_true_eq]
    intro x hx
    refine ⟨h.irr x hx, fun y hy => ⟨?_, fun z hz => ?_⟩⟩
    · by_cases a : cmp x y < 0
      · exact .inl (.inl a)
      · by_cases b : cmp y x < 0
        · exact .inl (.inr b)
        · exact .inr (h.tie x hx y hy a b)
    · by_cases a : cmp x y < 0
      · by_cases b : cmp y z < 0
        · exact .inr (h.tr x hx y hy z hz a b)
        · exact .inl (.inr b)
      · exact .inl (.inl a)
def a7G (cmp : α → α → Int) (l : List α) : Option (List α) := if okF cmp l = true ∧ l.length < 4294967296 then some (W0 cmp l) else none
theorem a5q {cmp : α → α → Int} {l r : List α} (h : a7G cmp l = some r) : OkF cmp l ∧ l.length < 4294967296 ∧ r = W0 cmp l := by
  unfold a7G at h
  split at h
  · rename_i h1; simp at h; exact ⟨a5z.1 h1.1, h1.2, h.symm⟩
  · cases h
theorem a7K {cmp : α → α → Int} {l : List α} (h : OkF cmp l) (hl : l.length < 4294967296) : a7G cmp l = some (W0 cmp l) := by
  unfold a7G; rw [if_pos ⟨a5z.2 h, hl⟩]
omit [DecidableEq α]
theorem a3x (cmp : α → α → Int) (x : α) (l : List α) : (a8u cmp x l).Perm (x :: l) := by
  induction l with
  | nil => exact b3m.refl _
  | cons y l ih =>
    rw [a8u]
    split
    · exact b3m.refl _
    · exact (ih.cons y).trans (b3m.swap _ _ _)
theorem R4 (cmp : α → α → Int) (l : List α) : (W0 cmp l).Perm l := by
  induction l with
  | nil => exact b3m.refl _
  | cons x l ih => rw [W0]; exact (a3x cmp x _).trans (ih.cons x)
theorem a1m (cmp : α → α → Int) (l : List α) : (W0 cmp l).length = l.length := (R4 cmp l).length_eq
def a6r (cmp : α → α → Int) (l : List α) : Prop := l.Pairwise fun x y => ¬ cmp y x < 0
theorem OkF.sub {cmp : α → α → Int} {l l' : List α} (h : OkF cmp l) (k : ∀ x ∈ l', x ∈ l) : OkF cmp l' :=
  ⟨fun x hx => h.irr x (k x hx), fun x hx y hy z hz => h.tr x (k x hx) y (k y hy) z (k z hz), fun x hx y hy => h.tie x (k x hx) y (k y hy)⟩
theorem a6O {cmp : α → α → Int} {x : α} {l : List α} (h : OkF cmp (x :: l)) (ha : a6r cmp l) : a6r cmp (a8u cmp x l) := by
  induction l with
  | nil => simp [a8u, a6r]
  | cons y l ih =>
    have ha' := b4j.1 ha
    rw [a8u]
    split
    · rename_i hxy
      refine b4j.2 ⟨?_, ha⟩
      intro z hz hzx
      rcases b2M.1 hz with rfl | hz
      · exact h.irr x (by simp) (h.tr x (by simp) z (by simp) x (by simp) hxy hzx)
      · exact ha'.1 z hz (h.tr z (by simp [hz]) x (by simp) y (by simp) hzx hxy)
    · rename_i hxy
      refine b4j.2 ⟨?_, ih (h.sub fun z hz => by rcases b2M.1 hz with rfl | hz <;> simp [*]) ha'.2⟩
      intro z hz
      have := (a3x cmp x l).mem_iff.1 hz
      rcases b2M.1 this with rfl | hz
      · exact hxy
      · exact ha'.1 z hz
theorem a0u {cmp : α → α → Int} {l : List α} (h : OkF cmp l) : a6r cmp (W0 cmp l) := by
  induction l with
  | nil => simp [W0, a6r]
  | cons x l ih =>
    rw [W0]
    refine a6O (h.sub fun z hz => ?_) (ih (h.sub fun z hz => by simp [hz]))
    rcases b2M.1 hz with rfl | hz
    · simp
    · have := (R4 cmp l).mem_iff.1 hz; simp [this]
theorem a3V {cmp : α → α → Int} : ∀ {l l' : List α}, OkF cmp l → l.Perm l' → a6r cmp l → a6r cmp l' → l = l'
  | [], l', _, p, _, _ => (b3m.nil_eq p)
  | x :: l, [], _, p, _, _ => by simpa using p.length_eq
  | x :: l, y :: l', h, p, a, b => by
    have a' := b4j.1 a
    have b' := b4j.1 b
    have e : x = y := by
      have hx : x ∈ y :: l' := p.mem_iff.1 (by simp)
      have hy : y ∈ x :: l := p.mem_iff.2 (by simp)
      rcases b2M.1 hx with rfl | hx
      · rfl
      · rcases b2M.1 hy with rfl | hy
        · rfl
        · exact h.tie x (by simp) y (by simp [hy]) (b'.1 x hx) (a'.1 y hy)
    subst e
    rw [a3V (h.sub fun z hz => by simp [hz]) (List.perm_cons x |>.1 p) a'.2 b'.2]
end
section
variable {w : World} {s : Sg} {R : List HP} {e k c n : Nat} {b o : Nat} {cs : List Value}
theorem a4r {α : Type} {k : Nat} {enc : α → List Value} (hk : ∀ x, (enc x).length = k) (l : List α) : (l.flatMap enc).length = l.length * k := by
  induction l with
  | nil => simp
  | cons x l ih => simp only [b3P, List.length_append, ih, hk, b2v, b2R]; omega
theorem a4D {α : Type} {k : Nat} {enc : α → List Value} (hk : ∀ x, (enc x).length = k) : ∀ (l : List α) (j i : Nat) (x : α), l[j]? = some x → i < k → (l.flatMap enc)[j * k + i]? = (enc x)[i]?
  | [], j, i, x, h, _ => by simp at h
  | y :: l, 0, i, x, h, hi => by
    simp at h; subst h
    rw [b3P, Nat.zero_mul, Nat.zero_add, b2G (by rw [hk]; exact hi)]
  | y :: l, j + 1, i, x, h, hi => by
    rw [b3P, b2D (by rw [hk, b2R]; omega), hk]
    have : (j + 1) * k + i - k = j * k + i := by rw [b2R]; omega
    rw [this]
    exact a4D hk l j i x (by simpa using h) hi
theorem a1r {α : Type} [Inhabited α] {k : Nat} {enc : α → List Value} (hk : ∀ x, (enc x).length = k) (l : List α) : (Sort.flatK enc k l.toArray).toList = l.flatMap enc := by
  apply b3v
  intro t
  rw [b3t]
  rcases b2I t (l.length * k) with ht | ht
  · have k0 : 0 < k := by
      rcases b2T k with h | h
      · subst h; simp at ht
      · exact h
    have hj : t / k < l.length := Nat.div_lt_of_lt_mul (by rw [Nat.mul_comm]; exact ht)
    have e1 := a4D hk l (t / k) (t % k) l[t / k] (b2q hj) (Nat.mod_lt _ k0)
    rw [Nat.div_add_mod'] at e1
    have hsz : t < (Sort.flatK enc k l.toArray).size := by simpa using ht
    rw [e1, b2O hsz]
    have e2 := Sort.get_flatK enc k l.toArray t (by simpa using ht)
    rw [getElem!_pos _ t hsz] at e2
    have e3 : l.toArray[t / k]! = l[t / k] := by rw [getElem!_pos l.toArray (t / k) (by simpa using hj)]; simp
    have hm : t % k < (enc l[t / k]).length := by rw [hk]; exact Nat.mod_lt _ k0
    rw [e2, e3, getElem!_pos (enc l[t / k]) (t % k) hm, b2q hm]
  · rw [b3o (by simpa using ht), List.getElem?_eq_none (by rw [a4r hk]; exact ht)]
theorem St.holdsK {α : Type} [Inhabited α] {enc : α → List Value} {l : List α} (hk : ∀ x, (enc x).length = k) (hS : St w s (B2 e k (some ⟨b, o, none⟩) c n (l.flatMap enc) :: R)) : Sort.HoldsK enc k w b o l.toArray := by
  rcases hS.vec 0 rfl with ⟨hcl, ⟨h0, _⟩ | ⟨b', o', cur, e1, e2, e3, e4, e5, e6, _⟩⟩
  · cases h0
  · cases e1
    intro j hj
    refine ⟨?_, by simp [World.frozen?, e2]⟩
    have hj' : j < (l.flatMap enc).length := by rw [← a1r hk l]; simpa using hj
    have hv : (l.flatMap enc)[j]? = some ((Sort.flatK enc k l.toArray)[j]!) := by
      rw [← a1r hk l, b3t, b2O hj, getElem!_pos _ j hj]
    have h1 := hS.vecSees 0 rfl 0 (l.flatMap enc) (fun j v hj => by simpa using hj) j _ hv
    simpa [ab, ao] using h1
theorem St.putRowK {α : Type} [Inhabited α] {enc : α → List Value} {os : Array Obj} {q : Nat} {r : List α} (hk : ∀ x, (enc x).length = k) (hS : St w s (B2 e k (some ⟨b, o, none⟩) c n cs :: R)) (hr : r.length = n) :
    St (Proofs.sortWorldK enc k w b o q r.toArray os) s (B2 e k (some ⟨b, o, none⟩) c n (r.flatMap enc) :: R) := by
  rcases hS.vec 0 rfl with ⟨hcl, ⟨h0, _⟩ | ⟨b', o', cur, e1, e2, e3, e4, e5, e6, h⟩⟩
  · cases h0
  · cases e1
    have hlen : (r.flatMap enc).length = n * k := by rw [a4r hk, hr]
    have h1 : St (Sort.putRowK enc k (Sort.ahead w q) b o r.toArray) s (pt b (.cells (Sort.putCells id o (Sort.flatK enc k r.toArray) cur) e (0, 0)) :: R) := by
      refine h.put (o' := .cells (Sort.putCells id o (Sort.flatK enc k r.toArray) cur) e (0, 0)) ?_ ?_ rfl rfl
      · simp [Sort.putRowK, Sort.putRow, Sort.mapBlock, Sort.ahead, b2Q, e2, Sort.onCells]
      · intro k' hk'
        simp [Sort.putRowK, Sort.putRow, Sort.mapBlock, Sort.ahead, b2Q, Ne.symm hk']
    have hput : (Sort.putCells id o (Sort.flatK enc k r.toArray) cur).toList = cur.toList.take o ++ r.flatMap enc ++ cur.toList.drop (o + n * k) := by
      have hle : o + n * k ≤ cur.size := by have := b2x k e3; omega
      have hF := a1r hk r
      generalize Sort.flatK enc k r.toArray = F at hF
      have hFs : F.size = n * k := by rw [← hlen, ← hF]; simp
      apply b3v
      intro t
      rw [b3t]
      have t1 : (cur.toList.take o).length = o := by simp; omega
      rw [← hF]
      rcases b2I t o with ht | ht
      · rw [b2y, b2G (by omega), List.getElem?_take, if_pos ht, b3t]
        unfold Sort.putCells
        rw [b3W]
        have : ¬ (o ≤ t) := by omega
        simp [this]
      · rw [b2y, b2D (by omega), t1]
        rcases b2I t (o + n * k) with ht2 | ht2
        · rw [b2G (by simp; omega), b3t]
          unfold Sort.putCells
          rw [b3W, b2O (by omega)]
          have htr : t - o < F.size := by omega
          have : o ≤ t ∧ t < o + F.size := ⟨ht, by omega⟩
          rw [b2O htr]
          simp only [Option.map_some, this, and_self, if_true, id]
          rw [getElem!_pos F (t - o) htr]
        · rw [b2D (by simp; omega), List.getElem?_drop]
          have e7 : o + n * k + (t - o - F.toList.length) = t := by simp; omega
          rw [e7, b3t]
          unfold Sort.putCells
          rw [b3W]
          have : ¬ (t < o + F.size) := by omega
          simp [this]
    have h2 : St (Sort.putRowK enc k (Sort.ahead w q) b o r.toArray) s (B2 e k (some ⟨b, o, none⟩) c n (r.flatMap enc) :: R) := by
      refine h1.head fun hh kk => ⟨hlen, .inr ⟨b, o, _, rfl, kk, e3, e4, ?_, ?_⟩⟩
      · unfold Sort.putCells; simpa using e5
      · rw [hput]
        have t1 : (cur.toList.take o).length = o := by have := b2x k e3; simp; omega
        have e8 : (cur.toList.take o ++ r.flatMap enc ++ cur.toList.drop (o + n * k)).drop o = r.flatMap enc ++ cur.toList.drop (o + n * k) := by
          rw [b2y]
          have := List.drop_left (l₁ := cur.toList.take o) (l₂ := r.flatMap enc ++ cur.toList.drop (o + n * k))
          rw [t1] at this
          exact this
        rw [e8, ← hlen]
        exact List.take_left
    refine h2.grown (w' := Sort.grow _ os) ⟨rfl, rfl, rfl, by simp only [Sort.grow, Array.size_append]; omega, fun k hk => ?_⟩
    simp only [Sort.grow]
    rw [Array.getElem?_append_left hk]
end
def a8Y (P : Program) (F g k : Nat) : Prop :=
  (∀ (α : Type) [Inhabited α] (enc : α → List Value), (∀ x, (enc x).length = k) → (∀ x, ∀ v ∈ enc x, v.oneCell' = true) → ∀ (cf : α → α → Int), Sort.SWO (Proofs.ltOf cf) → ∀ (blk off cap : Nat) (d : Array α) (w : World),
    (∀ x y W, Calls P g #[.agg (enc x).toArray, .agg (enc y).toArray] W fun e w' => e = .returned (.int .i64 (cf x y)) ∧ ∃ q os', w' = Sort.grow (W.drewN q) os') →
    Sort.HoldsK enc k w blk off d → blk < w.heap.size → d.size < 4611686018427387904 →
    Calls P F #[.slice (some ⟨blk, off, none⟩) d.size cap, .func (.func g) #[] #[]] w fun e w' =>
      e = .returned (.tuple #[]) ∧ ∃ d' n os, Sort.PermIn 0 d.size d d' ∧ Sort.SortedIn (Proofs.ltOf cf) 0 d.size d' ∧ w' = Proofs.sortWorldK enc k w blk off n d' os) ∧
  ∀ (p : Option Addr) (cap : Nat) (fv : Value) (w : World), Calls P F #[.slice p 0 cap, fv] w fun e w' => e = .returned (.tuple #[]) ∧ w' = w
theorem a3Q {α : Type} (l : List α) (f : α → List Value) : l.attach.flatMap (fun x => f x.1) = l.flatMap f := by
  have e : l.attach.flatMap (fun x => f x.1) = (l.attach.map (·.1)).flatMap f := by rw [List.flatMap_map]
  rw [e, b4P]
theorem a6h {α : Type} {k : Nat} {Rr : Rd α} {cells : α → List Value} (hR : ∀ s cs x, Rr s cs x → cs = cells x) {s : Sg} : ∀ {cs : List Value} {l : List α}, Ev k Rr s cs l → (∀ x, (cells x).length = k) → cs = l.flatMap cells
  | cs, [], h, _ => by have := h.len; simp at this; simp [this]
  | cs, x :: l, h, hk => by
    have h0 := hR _ _ _ (h.el 0 x rfl)
    rw [Nat.zero_mul, b2U] at h0
    have ht : Ev k Rr s (cs.drop k) l := by
      refine ⟨by rw [List.length_drop, h.len, b2v, Nat.succ_mul]; omega, fun j y hj => ?_⟩
      have := h.el (j + 1) y (by simpa using hj)
      rw [Nat.succ_mul, Nat.add_comm, ← List.drop_drop] at this
      exact this
    rw [b3P, ← a6h hR ht hk, ← h0, List.take_append_drop]
theorem a3m {α : Type} {k : Nat} {Rr : Rd α} {cells : α → List Value} (hR : ∀ s x, Rr s (cells x) x) (hk : ∀ x, (cells x).length = k) (s : Sg) : ∀ (l : List α), Ev k Rr s (l.flatMap cells) l
  | [] => Ev.nil
  | x :: l => by rw [b3P]; exact Ev.cons (hR s x) (hk x) (a3m hR hk s l)
theorem a6Q {P : Program} {F g k e : Nat} (hC : a8Y P F g k) {α : Type} [DecidableEq α] {cells : α → List Value} (hk : ∀ x, (cells x).length = k) (h1 : ∀ x, ∀ v ∈ cells x, v.oneCell' = true) {cmp : α → α → Int}
    (hclo : ∀ x y W, Calls P g #[.agg (cells x).toArray, .agg (cells y).toArray] W fun e w' => e = .returned (.int .i64 (cmp x y)) ∧ ∃ q os', w' = Sort.grow (W.drewN q) os')
    {Rr : Rd α} (hR : ∀ s cs x, Rr s cs x → cs = cells x) (hR' : ∀ s x, Rr s (cells x) x)
    {w : World} {s : Sg} {R : List HP} {a : Option Addr} {c n : Nat} {cs : List Value} {l r : List α} (hS : St w s (B2 e k a c n cs :: R)) (h : Ev k Rr s cs l) (hn : l.length = n) (hr : a7G cmp l = some r) :
    Calls P F [.slice a n c, .func (.func g) #[] #[]].toArray w (fun e' w => ∃ (cs0 : List Value), e' = .returned (.tuple #[]) ∧ Ev k Rr s cs0 r ∧ r.length = n ∧ St w s (B2 e k a c n cs0 :: R)) := by
  obtain ⟨hok, hl, rfl⟩ := a5q hr
  obtain rfl := a6h hR h hk
  rcases b2T n with hz | hz
  · subst hz
    have : l = [] := List.eq_nil_of_length_eq_zero hn
    subst this
    refine (hC.2 a c _ w).mono ?_
    rintro e' w' ⟨rfl, rfl⟩
    exact ⟨_, rfl, h, rfl, hS⟩
  · obtain ⟨b, o, rfl⟩ := hS.vecAok 0 rfl hz
    have hb : b < w.heap.size := by
      rcases hS.vec 0 rfl with ⟨_, ⟨h0, _⟩ | ⟨b', o', cur, e1, e2, _⟩⟩
      · cases h0
      · cases e1
        rcases b2I b w.heap.size with hl | hg
        · exact hl
        · rw [b3o hg] at e2; cases e2
    have hx : ∃ x, x ∈ l := ⟨l[0]'(by omega), List.getElem_mem _⟩
    obtain ⟨x0, hx0⟩ := hx
    letI : Inhabited {x // x ∈ l} := ⟨⟨x0, hx0⟩⟩
    let enc : {x // x ∈ l} → List Value := fun x => cells x.1
    have hencd : enc = fun x => cells x.1 := rfl
    have hfl : l.flatMap cells = l.attach.flatMap enc := (a3Q l cells).symm
    have hH : Sort.HoldsK enc k w b o l.attach.toArray := by
      rw [hfl] at hS
      exact hS.holdsK fun x => hk x.1
    have hsw : Sort.SWO (Proofs.ltOf fun x y : {x // x ∈ l} => cmp x.1 y.1) := by
      refine ⟨fun x => ?_, fun x y z p q => ?_, fun x y z p q => ?_⟩
      · simpa [Proofs.ltOf] using hok.irr x.1 x.2
      · simp only [Proofs.ltOf, decide_eq_true_eq] at *
        exact hok.tr _ x.2 _ y.2 _ z.2 p q
      · simp only [Proofs.ltOf, decide_eq_false_iff_not] at *
        intro hxz
        by_cases hyx : cmp y.1 x.1 < 0
        · exact q (hok.tr _ y.2 _ x.2 _ z.2 hyx hxz)
        · have := hok.tie _ x.2 _ y.2 p hyx
          rw [this] at hxz
          exact q hxz
    have hc := hC.1 {x // x ∈ l} enc (fun x => hk x.1) (fun x => h1 x.1) (fun x y => cmp x.1 y.1) hsw b o c l.attach.toArray w (fun x y W => hclo x.1 y.1 W) hH hb (by simp; omega)
    have hsz : l.attach.toArray.size = n := by simp [hn]
    rw [hsz] at hc
    refine hc.mono ?_
    rintro e' w' ⟨rfl, d', q, os, hp, hs, rfl⟩
    obtain ⟨p1, _, p3⟩ := hp
    have hd : d'.size = n := by rw [p1]; exact hsz
    have x1 : (d'.extract 0 n).toList = d'.toList := by rw [← hd]; simp
    have x2 : (l.attach.toArray.extract 0 n).toList = l.attach := by rw [← hsz]; simp only [List.size_toArray, List.length_attach, List.extract_toArray, List.extract_eq_take_drop, b2U, Nat.sub_zero]; exact List.take_of_length_le (by simp)
    rw [x1, x2] at p3
    have hpm : (d'.toList.map (·.1)).Perm l := by
      have := p3.map (·.1)
      rwa [b4P] at this
    have hasc : a6r cmp (d'.toList.map (·.1)) := by
      unfold a6r
      rw [List.pairwise_map, List.pairwise_iff_getElem]
      intro i j hi hj hij
      have hi' : i < d'.size := by simpa using hi
      have hj' : j < d'.size := by simpa using hj
      have := hs i j (Nat.zero_le _) hij (by omega)
      rw [getElem!_pos d' i hi', getElem!_pos d' j hj'] at this
      simpa [Proofs.ltOf] using this
    have hrr : d'.toList.map (·.1) = W0 cmp l := a3V (hok.sub fun x hx => hpm.mem_iff.1 hx) (hpm.trans (R4 cmp l).symm) hasc (a0u hok)
    have hput := hS.putRowK (enc := enc) (os := os) (q := q) (r := d'.toList) (fun x => hk x.1) (by simpa using hd)
    have hfl2 : d'.toList.flatMap enc = (W0 cmp l).flatMap cells := by rw [← hrr, List.flatMap_map]
    rw [hfl2] at hput
    exact ⟨_, rfl, a3m hR' hk s _, by rw [a1m, hn], hput⟩
end Go.Fp
