/- slices.SortFunc at structs of one size, where no two elements tie unless they are one: what the library's contract says, told of a slice of the call's own. No condition. -/
import Derived.Test.YtpcebngchmgckaaGreatDoorFpGrow
import Derived.Sort.Grow
import Derived.Shelf.SlSortCmp.WholeK
namespace Go.Fp
open Go
section
variable {α : Type}
def insF (cmp : α → α → Int) (x : α) : List α → List α
  | [] => [x]
  | y :: l => if cmp x y < 0 then x :: y :: l else y :: insF cmp x l
def isortF (cmp : α → α → Int) : List α → List α
  | [] => []
  | x :: l => insF cmp x (isortF cmp l)
structure OkF (cmp : α → α → Int) (l : List α) : Prop where
  irr : ∀ x ∈ l, ¬ cmp x x < 0
  tr : ∀ x ∈ l, ∀ y ∈ l, ∀ z ∈ l, cmp x y < 0 → cmp y z < 0 → cmp x z < 0
  tie : ∀ x ∈ l, ∀ y ∈ l, ¬ cmp x y < 0 → ¬ cmp y x < 0 → x = y
variable [DecidableEq α]
def okF (cmp : α → α → Int) (l : List α) : Bool :=
  l.all fun x => (!decide (cmp x x < 0)) && (l.all fun y => ((decide (cmp x y < 0) || decide (cmp y x < 0) || decide (x = y)) && l.all fun z => !(decide (cmp x y < 0)) || !(decide (cmp y z < 0)) || decide (cmp x z < 0)))
theorem okF_iff {cmp : α → α → Int} {l : List α} : okF cmp l = true ↔ OkF cmp l := by
  constructor
  · intro h
    unfold okF at h
    have h1 : ∀ x ∈ l, _ := fun x hx => List.all_eq_true.1 h x hx
    simp only [Bool.and_eq_true, List.all_eq_true, Bool.or_eq_true, Bool.not_eq_true', decide_eq_false_iff_not, decide_eq_true_eq] at h1
    refine ⟨fun x hx => (h1 x hx).1, fun x hx y hy z hz a b => ?_, fun x hx y hy a b => ?_⟩
    · rcases ((h1 x hx).2 y hy).2 z hz with (h2 | h2) | h2
      · exact (h2 a).elim
      · exact (h2 b).elim
      · exact h2
    · rcases ((h1 x hx).2 y hy).1 with (h2 | h2) | h2
      · exact (a h2).elim
      · exact (b h2).elim
      · exact h2
  · intro h
    unfold okF
    simp only [Bool.and_eq_true, List.all_eq_true, Bool.or_eq_true, Bool.not_eq_true', decide_eq_false_iff_not, decide_eq_true_eq]
    intro x hx
    refine ⟨h.irr x hx, fun y hy => ⟨?_, fun z hz => ?_⟩⟩
    · by_cases a : cmp x y < 0
      · exact .inl (.inl a)
      · by_cases b : cmp y x < 0
        · exact .inl (.inr b)
        · exact .inr (h.tie x hx y hy a b)
    · by_cases a : cmp x y < 0
      · by_cases b : cmp y z < 0
        · exact .inr (h.tr x hx y hy z hz a b)
        · exact .inl (.inr b)
      · exact .inl (.inl a)
def srtF (cmp : α → α → Int) (l : List α) : Option (List α) := if okF cmp l = true ∧ l.length < 4294967296 then some (isortF cmp l) else none
theorem srtF_some {cmp : α → α → Int} {l r : List α} (h : srtF cmp l = some r) : OkF cmp l ∧ l.length < 4294967296 ∧ r = isortF cmp l := by
  unfold srtF at h
  split at h
  · rename_i h1; simp at h; exact ⟨okF_iff.1 h1.1, h1.2, h.symm⟩
  · cases h
theorem srtF_of {cmp : α → α → Int} {l : List α} (h : OkF cmp l) (hl : l.length < 4294967296) : srtF cmp l = some (isortF cmp l) := by
  unfold srtF; rw [if_pos ⟨okF_iff.2 h, hl⟩]
omit [DecidableEq α]
theorem insF_perm (cmp : α → α → Int) (x : α) (l : List α) : (insF cmp x l).Perm (x :: l) := by
  induction l with
  | nil => exact List.Perm.refl _
  | cons y l ih =>
    rw [insF]
    split
    · exact List.Perm.refl _
    · exact (ih.cons y).trans (List.Perm.swap _ _ _)
theorem isortF_perm (cmp : α → α → Int) (l : List α) : (isortF cmp l).Perm l := by
  induction l with
  | nil => exact List.Perm.refl _
  | cons x l ih => rw [isortF]; exact (insF_perm cmp x _).trans (ih.cons x)
theorem isortF_length (cmp : α → α → Int) (l : List α) : (isortF cmp l).length = l.length := (isortF_perm cmp l).length_eq
def AscF (cmp : α → α → Int) (l : List α) : Prop := l.Pairwise fun x y => ¬ cmp y x < 0
theorem OkF.sub {cmp : α → α → Int} {l l' : List α} (h : OkF cmp l) (k : ∀ x ∈ l', x ∈ l) : OkF cmp l' :=
  ⟨fun x hx => h.irr x (k x hx), fun x hx y hy z hz => h.tr x (k x hx) y (k y hy) z (k z hz), fun x hx y hy => h.tie x (k x hx) y (k y hy)⟩
theorem insF_asc {cmp : α → α → Int} {x : α} {l : List α} (h : OkF cmp (x :: l)) (ha : AscF cmp l) : AscF cmp (insF cmp x l) := by
  induction l with
  | nil => simp [insF, AscF]
  | cons y l ih =>
    have ha' := List.pairwise_cons.1 ha
    rw [insF]
    split
    · rename_i hxy
      refine List.pairwise_cons.2 ⟨?_, ha⟩
      intro z hz hzx
      rcases List.mem_cons.1 hz with rfl | hz
      · exact h.irr x (by simp) (h.tr x (by simp) z (by simp) x (by simp) hxy hzx)
      · exact ha'.1 z hz (h.tr z (by simp [hz]) x (by simp) y (by simp) hzx hxy)
    · rename_i hxy
      refine List.pairwise_cons.2 ⟨?_, ih (h.sub fun z hz => by rcases List.mem_cons.1 hz with rfl | hz <;> simp [*]) ha'.2⟩
      intro z hz
      have := (insF_perm cmp x l).mem_iff.1 hz
      rcases List.mem_cons.1 this with rfl | hz
      · exact hxy
      · exact ha'.1 z hz
theorem isortF_asc {cmp : α → α → Int} {l : List α} (h : OkF cmp l) : AscF cmp (isortF cmp l) := by
  induction l with
  | nil => simp [isortF, AscF]
  | cons x l ih =>
    rw [isortF]
    refine insF_asc (h.sub fun z hz => ?_) (ih (h.sub fun z hz => by simp [hz]))
    rcases List.mem_cons.1 hz with rfl | hz
    · simp
    · have := (isortF_perm cmp l).mem_iff.1 hz; simp [this]
theorem asc_one {cmp : α → α → Int} : ∀ {l l' : List α}, OkF cmp l → l.Perm l' → AscF cmp l → AscF cmp l' → l = l'
  | [], l', _, p, _, _ => (List.Perm.nil_eq p)
  | x :: l, [], _, p, _, _ => by simpa using p.length_eq
  | x :: l, y :: l', h, p, a, b => by
    have a' := List.pairwise_cons.1 a
    have b' := List.pairwise_cons.1 b
    have e : x = y := by
      have hx : x ∈ y :: l' := p.mem_iff.1 (by simp)
      have hy : y ∈ x :: l := p.mem_iff.2 (by simp)
      rcases List.mem_cons.1 hx with rfl | hx
      · rfl
      · rcases List.mem_cons.1 hy with rfl | hy
        · rfl
        · exact h.tie x (by simp) y (by simp [hy]) (b'.1 x hx) (a'.1 y hy)
    subst e
    rw [asc_one (h.sub fun z hz => by simp [hz]) (List.perm_cons x |>.1 p) a'.2 b'.2]
end
section
variable {w : World} {s : Sg} {R : List HP} {e k c n : Nat} {b o : Nat} {cs : List Value}
theorem flat_len {α : Type} {k : Nat} {enc : α → List Value} (hk : ∀ x, (enc x).length = k) (l : List α) : (l.flatMap enc).length = l.length * k := by
  induction l with
  | nil => simp
  | cons x l ih => simp only [List.flatMap_cons, List.length_append, ih, hk, List.length_cons, Nat.add_mul]; omega
theorem flat_get {α : Type} {k : Nat} {enc : α → List Value} (hk : ∀ x, (enc x).length = k) : ∀ (l : List α) (j i : Nat) (x : α), l[j]? = some x → i < k → (l.flatMap enc)[j * k + i]? = (enc x)[i]?
  | [], j, i, x, h, _ => by simp at h
  | y :: l, 0, i, x, h, hi => by
    simp at h; subst h
    rw [List.flatMap_cons, Nat.zero_mul, Nat.zero_add, List.getElem?_append_left (by rw [hk]; exact hi)]
  | y :: l, j + 1, i, x, h, hi => by
    rw [List.flatMap_cons, List.getElem?_append_right (by rw [hk, Nat.add_mul]; omega), hk]
    have : (j + 1) * k + i - k = j * k + i := by rw [Nat.add_mul]; omega
    rw [this]
    exact flat_get hk l j i x (by simpa using h) hi
theorem flatK_list {α : Type} [Inhabited α] {k : Nat} {enc : α → List Value} (hk : ∀ x, (enc x).length = k) (l : List α) : (Sort.flatK enc k l.toArray).toList = l.flatMap enc := by
  apply List.ext_getElem?
  intro t
  rw [Array.getElem?_toList]
  rcases Nat.lt_or_ge t (l.length * k) with ht | ht
  · have k0 : 0 < k := by
      rcases Nat.eq_zero_or_pos k with h | h
      · subst h; simp at ht
      · exact h
    have hj : t / k < l.length := Nat.div_lt_of_lt_mul (by rw [Nat.mul_comm]; exact ht)
    have e1 := flat_get hk l (t / k) (t % k) l[t / k] (List.getElem?_eq_getElem hj) (Nat.mod_lt _ k0)
    rw [Nat.div_add_mod'] at e1
    have hsz : t < (Sort.flatK enc k l.toArray).size := by simpa using ht
    rw [e1, Array.getElem?_eq_getElem hsz]
    have e2 := Sort.get_flatK enc k l.toArray t (by simpa using ht)
    rw [getElem!_pos _ t hsz] at e2
    have e3 : l.toArray[t / k]! = l[t / k] := by rw [getElem!_pos l.toArray (t / k) (by simpa using hj)]; simp
    have hm : t % k < (enc l[t / k]).length := by rw [hk]; exact Nat.mod_lt _ k0
    rw [e2, e3, getElem!_pos (enc l[t / k]) (t % k) hm, List.getElem?_eq_getElem hm]
  · rw [Array.getElem?_eq_none (by simpa using ht), List.getElem?_eq_none (by rw [flat_len hk]; exact ht)]
theorem St.holdsK {α : Type} [Inhabited α] {enc : α → List Value} {l : List α} (hk : ∀ x, (enc x).length = k) (hS : St w s (vecC e k (some ⟨b, o, none⟩) c n (l.flatMap enc) :: R)) : Sort.HoldsK enc k w b o l.toArray := by
  rcases hS.vec 0 rfl with ⟨hcl, ⟨h0, _⟩ | ⟨b', o', cur, e1, e2, e3, e4, e5, e6, _⟩⟩
  · cases h0
  · cases e1
    intro j hj
    refine ⟨?_, by simp [World.frozen?, e2]⟩
    have hj' : j < (l.flatMap enc).length := by rw [← flatK_list hk l]; simpa using hj
    have hv : (l.flatMap enc)[j]? = some ((Sort.flatK enc k l.toArray)[j]!) := by
      rw [← flatK_list hk l, Array.getElem?_toList, Array.getElem?_eq_getElem hj, getElem!_pos _ j hj]
    have h1 := hS.vecSees 0 rfl 0 (l.flatMap enc) (fun j v hj => by simpa using hj) j _ hv
    simpa [ab, ao] using h1
theorem St.putRowK {α : Type} [Inhabited α] {enc : α → List Value} {os : Array Obj} {q : Nat} {r : List α} (hk : ∀ x, (enc x).length = k) (hS : St w s (vecC e k (some ⟨b, o, none⟩) c n cs :: R)) (hr : r.length = n) :
    St (Proofs.sortWorldK enc k w b o q r.toArray os) s (vecC e k (some ⟨b, o, none⟩) c n (r.flatMap enc) :: R) := by
  rcases hS.vec 0 rfl with ⟨hcl, ⟨h0, _⟩ | ⟨b', o', cur, e1, e2, e3, e4, e5, e6, h⟩⟩
  · cases h0
  · cases e1
    have hlen : (r.flatMap enc).length = n * k := by rw [flat_len hk, hr]
    have h1 : St (Sort.putRowK enc k (Sort.ahead w q) b o r.toArray) s (pt b (.cells (Sort.putCells id o (Sort.flatK enc k r.toArray) cur) e (0, 0)) :: R) := by
      refine h.put (o' := .cells (Sort.putCells id o (Sort.flatK enc k r.toArray) cur) e (0, 0)) ?_ ?_ rfl rfl
      · simp [Sort.putRowK, Sort.putRow, Sort.mapBlock, Sort.ahead, Array.getElem?_modify, e2, Sort.onCells]
      · intro k' hk'
        simp [Sort.putRowK, Sort.putRow, Sort.mapBlock, Sort.ahead, Array.getElem?_modify, Ne.symm hk']
    have hput : (Sort.putCells id o (Sort.flatK enc k r.toArray) cur).toList = cur.toList.take o ++ r.flatMap enc ++ cur.toList.drop (o + n * k) := by
      have hle : o + n * k ≤ cur.size := by have := Nat.mul_le_mul_right k e3; omega
      have hF := flatK_list hk r
      generalize Sort.flatK enc k r.toArray = F at hF
      have hFs : F.size = n * k := by rw [← hlen, ← hF]; simp
      apply List.ext_getElem?
      intro t
      rw [Array.getElem?_toList]
      have t1 : (cur.toList.take o).length = o := by simp; omega
      rw [← hF]
      rcases Nat.lt_or_ge t o with ht | ht
      · rw [List.append_assoc, List.getElem?_append_left (by omega), List.getElem?_take, if_pos ht, Array.getElem?_toList]
        unfold Sort.putCells
        rw [Array.getElem?_mapIdx]
        have : ¬ (o ≤ t) := by omega
        simp [this]
      · rw [List.append_assoc, List.getElem?_append_right (by omega), t1]
        rcases Nat.lt_or_ge t (o + n * k) with ht2 | ht2
        · rw [List.getElem?_append_left (by simp; omega), Array.getElem?_toList]
          unfold Sort.putCells
          rw [Array.getElem?_mapIdx, Array.getElem?_eq_getElem (by omega)]
          have htr : t - o < F.size := by omega
          have : o ≤ t ∧ t < o + F.size := ⟨ht, by omega⟩
          rw [Array.getElem?_eq_getElem htr]
          simp only [Option.map_some, this, and_self, if_true, id]
          rw [getElem!_pos F (t - o) htr]
        · rw [List.getElem?_append_right (by simp; omega), List.getElem?_drop]
          have e7 : o + n * k + (t - o - F.toList.length) = t := by simp; omega
          rw [e7, Array.getElem?_toList]
          unfold Sort.putCells
          rw [Array.getElem?_mapIdx]
          have : ¬ (t < o + F.size) := by omega
          simp [this]
    have h2 : St (Sort.putRowK enc k (Sort.ahead w q) b o r.toArray) s (vecC e k (some ⟨b, o, none⟩) c n (r.flatMap enc) :: R) := by
      refine h1.head fun hh kk => ⟨hlen, .inr ⟨b, o, _, rfl, kk, e3, e4, ?_, ?_⟩⟩
      · unfold Sort.putCells; simpa using e5
      · rw [hput]
        have t1 : (cur.toList.take o).length = o := by have := Nat.mul_le_mul_right k e3; simp; omega
        have e8 : (cur.toList.take o ++ r.flatMap enc ++ cur.toList.drop (o + n * k)).drop o = r.flatMap enc ++ cur.toList.drop (o + n * k) := by
          rw [List.append_assoc]
          have := List.drop_left (l₁ := cur.toList.take o) (l₂ := r.flatMap enc ++ cur.toList.drop (o + n * k))
          rw [t1] at this
          exact this
        rw [e8, ← hlen]
        exact List.take_left
    refine h2.grown (w' := Sort.grow _ os) ⟨rfl, rfl, rfl, by simp only [Sort.grow, Array.size_append]; omega, fun k hk => ?_⟩
    simp only [Sort.grow]
    rw [Array.getElem?_append_left hk]
end
def SortC (P : Program) (F g k : Nat) : Prop :=
  (∀ (α : Type) [Inhabited α] (enc : α → List Value), (∀ x, (enc x).length = k) → (∀ x, ∀ v ∈ enc x, v.oneCell' = true) → ∀ (cf : α → α → Int), Sort.SWO (Proofs.ltOf cf) → ∀ (blk off cap : Nat) (d : Array α) (w : World),
    (∀ x y W, Calls P g #[.agg (enc x).toArray, .agg (enc y).toArray] W fun e w' => e = .returned (.int .i64 (cf x y)) ∧ ∃ q os', w' = Sort.grow (W.drewN q) os') →
    Sort.HoldsK enc k w blk off d → blk < w.heap.size → d.size < 4611686018427387904 →
    Calls P F #[.slice (some ⟨blk, off, none⟩) d.size cap, .func (.func g) #[] #[]] w fun e w' =>
      e = .returned (.tuple #[]) ∧ ∃ d' n os, Sort.PermIn 0 d.size d d' ∧ Sort.SortedIn (Proofs.ltOf cf) 0 d.size d' ∧ w' = Proofs.sortWorldK enc k w blk off n d' os) ∧
  ∀ (p : Option Addr) (cap : Nat) (fv : Value) (w : World), Calls P F #[.slice p 0 cap, fv] w fun e w' => e = .returned (.tuple #[]) ∧ w' = w
theorem attach_flat {α : Type} (l : List α) (f : α → List Value) : l.attach.flatMap (fun x => f x.1) = l.flatMap f := by
  have e : l.attach.flatMap (fun x => f x.1) = (l.attach.map (·.1)).flatMap f := by rw [List.flatMap_map]
  rw [e, List.attach_map_subtype_val]
theorem ev_flat {α : Type} {k : Nat} {Rr : Rd α} {cells : α → List Value} (hR : ∀ s cs x, Rr s cs x → cs = cells x) {s : Sg} : ∀ {cs : List Value} {l : List α}, Ev k Rr s cs l → (∀ x, (cells x).length = k) → cs = l.flatMap cells
  | cs, [], h, _ => by have := h.len; simp at this; simp [this]
  | cs, x :: l, h, hk => by
    have h0 := hR _ _ _ (h.el 0 x rfl)
    rw [Nat.zero_mul, List.drop_zero] at h0
    have ht : Ev k Rr s (cs.drop k) l := by
      refine ⟨by rw [List.length_drop, h.len, List.length_cons, Nat.succ_mul]; omega, fun j y hj => ?_⟩
      have := h.el (j + 1) y (by simpa using hj)
      rw [Nat.succ_mul, Nat.add_comm, ← List.drop_drop] at this
      exact this
    rw [List.flatMap_cons, ← ev_flat hR ht hk, ← h0, List.take_append_drop]
theorem ev_ofFlat {α : Type} {k : Nat} {Rr : Rd α} {cells : α → List Value} (hR : ∀ s x, Rr s (cells x) x) (hk : ∀ x, (cells x).length = k) (s : Sg) : ∀ (l : List α), Ev k Rr s (l.flatMap cells) l
  | [] => Ev.nil
  | x :: l => by rw [List.flatMap_cons]; exact Ev.cons (hR s x) (hk x) (ev_ofFlat hR hk s l)
theorem sortF_ok {P : Program} {F g k e : Nat} (hC : SortC P F g k) {α : Type} [DecidableEq α] {cells : α → List Value} (hk : ∀ x, (cells x).length = k) (h1 : ∀ x, ∀ v ∈ cells x, v.oneCell' = true) {cmp : α → α → Int}
    (hclo : ∀ x y W, Calls P g #[.agg (cells x).toArray, .agg (cells y).toArray] W fun e w' => e = .returned (.int .i64 (cmp x y)) ∧ ∃ q os', w' = Sort.grow (W.drewN q) os')
    {Rr : Rd α} (hR : ∀ s cs x, Rr s cs x → cs = cells x) (hR' : ∀ s x, Rr s (cells x) x)
    {w : World} {s : Sg} {R : List HP} {a : Option Addr} {c n : Nat} {cs : List Value} {l r : List α} (hS : St w s (vecC e k a c n cs :: R)) (h : Ev k Rr s cs l) (hn : l.length = n) (hr : srtF cmp l = some r) :
    Calls P F [.slice a n c, .func (.func g) #[] #[]].toArray w (fun e' w => ∃ (cs0 : List Value), e' = .returned (.tuple #[]) ∧ Ev k Rr s cs0 r ∧ r.length = n ∧ St w s (vecC e k a c n cs0 :: R)) := by
  obtain ⟨hok, hl, rfl⟩ := srtF_some hr
  obtain rfl := ev_flat hR h hk
  rcases Nat.eq_zero_or_pos n with hz | hz
  · subst hz
    have : l = [] := List.eq_nil_of_length_eq_zero hn
    subst this
    refine (hC.2 a c _ w).mono ?_
    rintro e' w' ⟨rfl, rfl⟩
    exact ⟨_, rfl, h, rfl, hS⟩
  · obtain ⟨b, o, rfl⟩ := hS.vecAok 0 rfl hz
    have hb : b < w.heap.size := by
      rcases hS.vec 0 rfl with ⟨_, ⟨h0, _⟩ | ⟨b', o', cur, e1, e2, _⟩⟩
      · cases h0
      · cases e1
        rcases Nat.lt_or_ge b w.heap.size with hl | hg
        · exact hl
        · rw [Array.getElem?_eq_none hg] at e2; cases e2
    have hx : ∃ x, x ∈ l := ⟨l[0]'(by omega), List.getElem_mem _⟩
    obtain ⟨x0, hx0⟩ := hx
    letI : Inhabited {x // x ∈ l} := ⟨⟨x0, hx0⟩⟩
    let enc : {x // x ∈ l} → List Value := fun x => cells x.1
    have hencd : enc = fun x => cells x.1 := rfl
    have hfl : l.flatMap cells = l.attach.flatMap enc := (attach_flat l cells).symm
    have hH : Sort.HoldsK enc k w b o l.attach.toArray := by
      rw [hfl] at hS
      exact hS.holdsK fun x => hk x.1
    have hsw : Sort.SWO (Proofs.ltOf fun x y : {x // x ∈ l} => cmp x.1 y.1) := by
      refine ⟨fun x => ?_, fun x y z p q => ?_, fun x y z p q => ?_⟩
      · simpa [Proofs.ltOf] using hok.irr x.1 x.2
      · simp only [Proofs.ltOf, decide_eq_true_eq] at *
        exact hok.tr _ x.2 _ y.2 _ z.2 p q
      · simp only [Proofs.ltOf, decide_eq_false_iff_not] at *
        intro hxz
        by_cases hyx : cmp y.1 x.1 < 0
        · exact q (hok.tr _ y.2 _ x.2 _ z.2 hyx hxz)
        · have := hok.tie _ x.2 _ y.2 p hyx
          rw [this] at hxz
          exact q hxz
    have hc := hC.1 {x // x ∈ l} enc (fun x => hk x.1) (fun x => h1 x.1) (fun x y => cmp x.1 y.1) hsw b o c l.attach.toArray w (fun x y W => hclo x.1 y.1 W) hH hb (by simp; omega)
    have hsz : l.attach.toArray.size = n := by simp [hn]
    rw [hsz] at hc
    refine hc.mono ?_
    rintro e' w' ⟨rfl, d', q, os, hp, hs, rfl⟩
    obtain ⟨p1, _, p3⟩ := hp
    have hd : d'.size = n := by rw [p1]; exact hsz
    have x1 : (d'.extract 0 n).toList = d'.toList := by rw [← hd]; simp
    have x2 : (l.attach.toArray.extract 0 n).toList = l.attach := by rw [← hsz]; simp only [List.size_toArray, List.length_attach, List.extract_toArray, List.extract_eq_take_drop, List.drop_zero, Nat.sub_zero]; exact List.take_of_length_le (by simp)
    rw [x1, x2] at p3
    have hpm : (d'.toList.map (·.1)).Perm l := by
      have := p3.map (·.1)
      rwa [List.attach_map_subtype_val] at this
    have hasc : AscF cmp (d'.toList.map (·.1)) := by
      unfold AscF
      rw [List.pairwise_map, List.pairwise_iff_getElem]
      intro i j hi hj hij
      have hi' : i < d'.size := by simpa using hi
      have hj' : j < d'.size := by simpa using hj
      have := hs i j (Nat.zero_le _) hij (by omega)
      rw [getElem!_pos d' i hi', getElem!_pos d' j hj'] at this
      simpa [Proofs.ltOf] using this
    have hrr : d'.toList.map (·.1) = isortF cmp l := asc_one (hok.sub fun x hx => hpm.mem_iff.1 hx) (hpm.trans (isortF_perm cmp l).symm) hasc (isortF_asc hok)
    have hput := hS.putRowK (enc := enc) (os := os) (q := q) (r := d'.toList) (fun x => hk x.1) (by simpa using hd)
    have hfl2 : d'.toList.flatMap enc = (isortF cmp l).flatMap cells := by rw [← hrr, List.flatMap_map]
    rw [hfl2] at hput
    exact ⟨_, rfl, ev_ofFlat hR' hk s _, by rw [isortF_length, hn], hput⟩
end Go.Fp
