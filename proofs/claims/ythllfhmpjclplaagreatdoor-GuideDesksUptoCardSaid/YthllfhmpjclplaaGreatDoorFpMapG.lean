/- Maps of the call's own, with keys that are arrays of arrays of integers, or strings. No condition. -/
import Derived.Test.YthllfhmpjclplaaGreatDoorFpMapS
import Derived.Test.YthllfhmpjclplaaGreatDoorFpGrid
open List renaming getElem?_eq_getElem → b2q, map_cons → b2L, range_eq_range' → b4M, drop_eq_nil_of_le → b3d, length_take → b2S, length_drop → b2K, length_map → b2B, mem_map → b3f, range'_succ → b4v, take_append_drop → b3U, drop_drop → b3z, forIn_cons → b4R, replicate → b2N, length_replicate → b4b
open Bool renaming and_eq_true → b2w, not_eq_true' → b3G
open Nat renaming eq_of_beq_eq_true → b2r, add_mul → b2R, one_mul → b4E, sub_zero → b4f, add_one_sub_one → b4Q
open Option renaming isSome_iff_exists → b3q
namespace Go.Fp
open Go
structure a1L (n : Nat) where
  l : List Int
def a1L.cells {n : Nat} (a : a1L n) : List Int := (List.range n).map fun i => a.l.getD i 0
instance {n : Nat} : BEq (a1L n) := ⟨fun a b => a.cells == b.cells⟩
theorem a1L.beq {n : Nat} (a b : a1L n) : (a == b) = (a.cells == b.cells) := rfl
theorem a1L.cells_of {n : Nat} {l : List Int} (h : l.length = n) : (a1L.mk l : a1L n).cells = l := by
  unfold a1L.cells
  apply List.ext_getElem
  · simp [h]
  · intro i h1 h2
    simp at h1
    simp [b2q h2]
def a1L.f {n : Nat} (a : a1L n) : Value := .agg (a.cells.map (Value.int .i64)).toArray
def b0l (P : Program) (t : TypeId) (n m : Nat) : Bool :=
  match P.underlying t with
  | some (.array n' e) => Nat.beq n' n && a2i P e m (.i .i64) && Nat.beq (P.cellsOf e) m && (P.info? e).isSome
  | _ => false
theorem a4p : ∀ (l r : List Int), l.length = r.length → eqs (l.map (S1.i .i64)) (r.map (S1.i .i64)) = (l == r)
  | [], [], _ => by simp [eqs]
  | x :: l, y :: r, h => by
    simp only [List.length_cons, Nat.add_right_cancel_iff] at h
    rw [b2L, b2L, a2R _ _ _ _ (by simp [h]), a4p l r h]
    simp [S1.same]
  | [], _ :: _, h => by simp at h
  | _ :: _, [], h => by simp at h
theorem a3g (D : Nat) {P : Program} {t m : Nat} {k : X3} (h : a2i P t m k = true) (ls ms : List S1) (h1 : ls.length = m) (h2 : ms.length = m) (k1 : ∀ l ∈ ls, l.kind = k) (k2 : ∀ l ∈ ms, l.kind = k) (w : World) :
    (Op.equalIn (D + 2) t (.agg (ls.map S1.val).toArray) (.agg (ms.map S1.val).toArray)).run P w = .ok (eqs ls ms) w := by
  unfold a2i at h
  split at h
  · rename_i n e hu
    simp only [b2w, b3G] at h
    obtain ⟨⟨⟨⟨g1, g2⟩, g3⟩, g4⟩, g5⟩ := h
    have e1 := b2r g1
    have e3 := b2r g3
    obtain ⟨i, hi⟩ := b3q.1 g4
    rw [run_equalIn_array w (D + 1) _ _ hu hi, e3, b4M, e1]
    exact a3q g2 D _ _ w m 0 ls ms h1 h2 k1 k2 (fun i l hl => by simp [hl]) (fun i l hl => by simp [hl])
  · cases h
theorem a5v {P : Program} {t n e : Nat} (hu : P.underlying t = some (.array n e)) (w : World) : (isAgg t).run P w = .ok true w := by
  unfold isAgg; rw [Sem.run_bind, run_underlying hu w]; rfl
theorem a3u {P : Program} {e m n0 e0 : Nat} (hu : P.underlying e = some (.array n0 e0)) {i : TypeInfo} (hi : P.info? e = some i) (hc : P.cellsOf e = m) (l : List Int) (off : Nat) (w : World) :
    (part e (l.map (Value.int .i64)).toArray off).run P w = .ok (.agg (((l.drop off).take m).map (Value.int .i64)).toArray) w := by
  unfold part
  simp only [Sem.run_bind, a5v hu w, Result.andThen_ok, if_true, run_sizeOf w hi, hc, Sem.run_pure]
  congr 2
  apply Array.ext'
  simp [List.extract_eq_take_drop, List.map_take, List.map_drop]
theorem a6k (a b c d : List Int) (h : a.length = b.length) : (a ++ c == b ++ d) = ((a == b) && (c == d)) := by
  rw [Bool.eq_iff_iff]
  simp only [beq_iff_eq, b2w]
  constructor
  · intro e; exact List.append_inj e h
  · rintro ⟨rfl, rfl⟩; rfl
theorem a4o {P : Program} {e m n0 e0 : Nat} (h : a2i P e m (.i .i64) = true) (hu : P.underlying e = some (.array n0 e0)) {i : TypeInfo} (hi : P.info? e = some i) (hc : P.cellsOf e = m) (D : Nat) (l r : List Int) (w : World) :
    ∀ (n j : Nat), l.length = (j + n) * m → r.length = (j + n) * m → (Op.eqItems (D + 2) e m (l.map (Value.int .i64)).toArray (r.map (Value.int .i64)).toArray (List.range' j n)).run P w = .ok (l.drop (j * m) == r.drop (j * m)) w
  | 0, j, hl, hr => by
    rw [Nat.add_zero] at hl hr
    rw [b3d (by omega), b3d (by omega)]
    simp [Op.eqItems]
  | n + 1, j, hl, hr => by
    have e1 : (j + (n + 1)) * m = (j + 1 + n) * m := by rw [Nat.add_assoc, Nat.add_comm 1 n]
    have ih := a4o h hu hi hc D l r w n (j + 1) (by rw [hl, e1]) (by rw [hr, e1])
    have e2 : (j + (n + 1)) * m = j * m + m + n * m := by rw [b2R, b2R, b4E]; omega
    have e3 : (j + 1) * m = j * m + m := by rw [b2R, b4E]
    have l1 : ((l.drop (j * m)).take m).length = m := by rw [b2S, b2K, hl, e2]; omega
    have l2 : ((r.drop (j * m)).take m).length = m := by rw [b2S, b2K, hr, e2]; omega
    have q := a3g D h (((l.drop (j * m)).take m).map (S1.i .i64)) (((r.drop (j * m)).take m).map (S1.i .i64)) (by rw [b2B]; exact l1) (by rw [b2B]; exact l2)
      (by intro x hx; obtain ⟨y, _, rfl⟩ := b3f.1 hx; rfl) (by intro x hx; obtain ⟨y, _, rfl⟩ := b3f.1 hx; rfl) w
    have hm : ∀ z : List Int, (z.map (S1.i .i64)).map S1.val = z.map (Value.int .i64) := fun z => by rw [List.map_map]; rfl
    rw [hm, hm, a4p _ _ (by rw [l1, l2])] at q
    simp only [b4v, Op.eqItems, Sem.run_bind, a3u hu hi hc, Result.andThen_ok, q]
    have d1 : l.drop (j * m) = (l.drop (j * m)).take m ++ l.drop ((j + 1) * m) := by
      rw [e3]
      conv => lhs; rw [← b3U m (l.drop (j * m))]
      rw [b3z]
    have d2 : r.drop (j * m) = (r.drop (j * m)).take m ++ r.drop ((j + 1) * m) := by
      rw [e3]
      conv => lhs; rw [← b3U m (r.drop (j * m))]
      rw [b3z]
    have hb : (l.drop (j * m) == r.drop (j * m)) = (((l.drop (j * m)).take m == (r.drop (j * m)).take m) && (l.drop ((j + 1) * m) == r.drop ((j + 1) * m))) := by
      conv => lhs; rw [d1, d2]
      exact a6k _ _ _ _ (by rw [l1, l2])
    rw [hb]
    cases hq : ((l.drop (j * m)).take m == (r.drop (j * m)).take m) with
    | false => simp
    | true => simpa using ih
theorem a1L.eq {P : Program} {t n m : Nat} (h : b0l P t n m = true) (w : World) (a b : a1L (n * m)) : (Op.equal t a.f b.f).run P w = .ok (a == b) w := by
  unfold b0l at h
  split at h
  · rename_i n' e hu
    simp only [b2w] at h
    obtain ⟨⟨⟨g1, g2⟩, g3⟩, g4⟩ := h
    have e1 := b2r g1
    have e3 := b2r g3
    subst e1
    obtain ⟨i, hi⟩ := b3q.1 g4
    have hu2 : ∃ n0 e0, P.underlying e = some (.array n0 e0) := by
      unfold a2i at g2
      split at g2
      · rename_i n0 e0 hu2; exact ⟨n0, e0, hu2⟩
      · cases g2
    obtain ⟨n0, e0, hu2⟩ := hu2
    have q := a4o g2 hu2 hi e3 9997 a.cells b.cells w n' 0 (by simp [a1L.cells]) (by simp [a1L.cells])
    show (Op.equalIn 10000 t _ _).run P w = _
    unfold a1L.f
    rw [run_equalIn_array w 9999 _ _ hu hi, b4M, e3, q]
    simp [a1L.beq]
  · cases h
structure b0m (P : Program) (kt : TypeId) (κ : Type) [BEq κ] where
  f : κ → Value
  eq : ∀ w a b, (Op.equal kt (f a) (f b)).run P w = .ok (a == b) w
  law : ∀ a b, (a == b) = true → f a = f b
  bits : ∀ a, Instr.sameBits 10000 (f a) (f a) = true
  chk : ∀ e a w, (Instr.checkKey e 10000 kt (f a)).run P w = .ok () w
  find : ∀ x es w, (Instr.findKey kt x es).run P w = (Instr.findAsking kt x es).run P w
theorem a2G {α : Type} : ∀ (l : List α) (p : α × α), p ∈ l.zip l → p.1 = p.2 ∧ p.1 ∈ l
  | [], _, h => by simp at h
  | x :: l, p, h => by
    simp only [List.zip_cons_cons, List.mem_cons] at h
    rcases h with rfl | h
    · exact ⟨rfl, by simp⟩
    · exact ⟨(a2G l p h).1, by simp [(a2G l p h).2]⟩
theorem a1L.bits {n : Nat} (a : a1L n) : Instr.sameBits 10000 a.f a.f = true := by
  unfold a1L.f
  simp only [Instr.sameBits, beq_self_eq_true, Bool.true_and, List.all_eq_true]
  intro p hp
  obtain ⟨h1, h2⟩ := a2G _ p hp
  obtain ⟨x, _, h3⟩ := b3f.1 h2
  rw [← h1, ← h3]
  simp [Instr.sameBits]
theorem a1L.chk (d : Nat) {P : Program} {t n m : Nat} (h : b0l P t n m = true) (e : Bool) (a : a1L (n * m)) (w : World) : (Instr.checkKey e (d + 3) t a.f).run P w = .ok () w := by
  unfold b0l at h
  split at h
  · rename_i n' e' hu
    simp only [b2w] at h
    obtain ⟨⟨⟨g1, g2⟩, g3⟩, g4⟩ := h
    have e1 := b2r g1
    have e3 := b2r g3
    subst e1
    obtain ⟨i, hi⟩ := b3q.1 g4
    unfold a2i at g2
    split at g2
    · rename_i n0 e0 hu2
      simp only [b2w, b3G] at g2
      obtain ⟨⟨⟨⟨q1, q2⟩, q3⟩, q4⟩, q5⟩ := g2
      have f1 := b2r q1
      have f3 := b2r q3
      subst f1
      obtain ⟨i0, hi0⟩ := b3q.1 q4
      have inner : ∀ (l : List Int) (w : World), l.length = n0 → (Instr.checkKey e (d + 2) e' (.agg (l.map (Value.int .i64)).toArray)).run P w = .ok () w := by
        intro l w hl
        rw [Instr.checkKey]
        simp only [Sem.run_bind, run_underlying hu2, Result.andThen_ok, Std.Legacy.Range.forIn_eq_forIn_range', Std.Legacy.Range.size, b4f, b4Q, Nat.div_one]
        have key : ∀ (k j : Nat), j + k = n0 → (forIn (m := Sem) (List.range' j k) PUnit.unit fun i _ => do
            Instr.checkKey e (d + 1) e0 (← part e0 (l.map (Value.int .i64)).toArray (i * (← sizeOf e0)))
            pure (ForInStep.yield PUnit.unit)).run P w = .ok PUnit.unit w := by
          intro k
          induction k with
          | zero => intro j _; simp
          | succ k ih =>
            intro j hj
            have hx : (l.map (Value.int .i64)).toArray[j * P.cellsOf e0]? = some (.int .i64 (l[j]'(by omega))) := by rw [f3, Nat.mul_one]; simp [b2q (show j < l.length by omega)]
            simp only [b4v, b4R, Sem.run_bind, run_sizeOf w hi0, Result.andThen_ok, U8 q2 _ _ _ hx, a3K q2 e _ _ w, Sem.run_pure]
            exact ih (j + 1) (by omega)
        have := key n0 0 (by omega)
        rw [this]; rfl
      have hl : a.cells.length = n' * n0 := by simp [a1L.cells]
      unfold a1L.f
      generalize a.cells = l at hl
      rw [Instr.checkKey]
      simp only [Sem.run_bind, run_underlying hu, Result.andThen_ok, Std.Legacy.Range.forIn_eq_forIn_range', Std.Legacy.Range.size, b4f, b4Q, Nat.div_one]
      have key : ∀ (k j : Nat), j + k = n' → (forIn (m := Sem) (List.range' j k) PUnit.unit fun i _ => do
          Instr.checkKey e (d + 2) e' (← part e' (l.map (Value.int .i64)).toArray (i * (← sizeOf e')))
          pure (ForInStep.yield PUnit.unit)).run P w = .ok PUnit.unit w := by
        intro k
        induction k with
        | zero => intro j _; simp
        | succ k ih =>
          intro j hj
          have hln : ((l.drop (j * P.cellsOf e')).take n0).length = n0 := by
            rw [b2S, b2K, hl, e3, ← hj, b2R, b2R, b4E]; omega
          simp only [b4v, b4R, Sem.run_bind, run_sizeOf w hi, Result.andThen_ok, a3u hu2 hi e3, inner _ w hln, Sem.run_pure]
          exact ih (j + 1) (by omega)
      have := key n' 0 (by omega)
      rw [this]; rfl
    · cases g2
  · cases h
theorem RA.ev {k : IntKind} {m : Nat} {s s' : Sg} {cs : List Value} {l : List Int} (h : RA k m s cs l) : Ev 1 (RI k) s' cs l := by rw [h.1]; exact Ev.ofMap l
theorem a1B.chkA {κ : Type} [BEq κ] (K : a1B κ) (d : Nat) {P : Program} {t n : Nat} {k : X3} (hk : K.ks = b2N n k) (h : a2i P t n k = true) (e : Bool) (a : κ) (w : World) : (Instr.checkKey e (d + 2) t (K.f a)).run P w = .ok () w := by
  unfold a2i at h
  split at h
  · rename_i n0 e0 hu2
    simp only [b2w, b3G] at h
    obtain ⟨⟨⟨⟨q1, q2⟩, q3⟩, q4⟩, q5⟩ := h
    have f1 := b2r q1
    have f3 := b2r q3
    subst f1
    obtain ⟨i0, hi0⟩ := b3q.1 q4
    have hl : (K.ls a).length = n0 := by rw [← b2B (f := S1.kind), K.kinds, hk, b4b]
    unfold a1B.f
    generalize K.ls a = l at hl
    rw [Instr.checkKey]
    simp only [Sem.run_bind, run_underlying hu2, Result.andThen_ok, Std.Legacy.Range.forIn_eq_forIn_range', Std.Legacy.Range.size, b4f, b4Q, Nat.div_one]
    have key : ∀ (k j : Nat), j + k = n0 → (forIn (m := Sem) (List.range' j k) PUnit.unit fun i _ => do
        Instr.checkKey e (d + 1) e0 (← part e0 (l.map S1.val).toArray (i * (← sizeOf e0)))
        pure (ForInStep.yield PUnit.unit)).run P w = .ok PUnit.unit w := by
      intro k
      induction k with
      | zero => intro j _; simp
      | succ k ih =>
        intro j hj
        have hx : (l.map S1.val).toArray[j * P.cellsOf e0]? = some (l[j]'(by omega)).val := by rw [f3, Nat.mul_one]; simp [b2q (show j < l.length by omega)]
        simp only [b4v, b4R, Sem.run_bind, run_sizeOf w hi0, Result.andThen_ok, U8 q2 _ _ _ hx, a3K q2 e _ _ w, Sem.run_pure]
        exact ih (j + 1) (by omega)
    have := key n0 0 (by omega)
    rw [this]; rfl
  · cases h
def a1B.arr {κ : Type} [BEq κ] (K : a1B κ) {P : Program} {t n : Nat} {k : X3} (hk : K.ks = b2N n k) (h : a2i P t n k = true) : b0m P t κ where
  f := K.f
  eq := fun w a b => by
    have hn : ∀ a, (K.ls a).length = n := fun a => by rw [← b2B (f := S1.kind), K.kinds, hk, b4b]
    have hkk : ∀ a, ∀ l ∈ K.ls a, l.kind = k := fun a l hl => by
      have : l.kind ∈ (K.ls a).map S1.kind := b3f.2 ⟨l, hl, rfl⟩
      rw [K.kinds, hk] at this
      exact List.eq_of_mem_replicate this
    show (Op.equalIn 10000 t _ _).run P w = _
    unfold a1B.f
    rw [a3g 9998 h _ _ (hn a) (hn b) (hkk a) (hkk b), K.same]
  law := by
    intro a b hab
    rw [K.law a b hab]
  bits := K.bits 9999
  chk := fun e a w => K.chkA 9998 hk h e a w
  find := by
    intro x es w
    refine run_findKey_eq w ?_ x es
    unfold a2i at h
    split at h
    · rename_i n' e hu; rw [hu]
    · cases h
theorem a1M {κ ν : Type} [BEq κ] {fv : ν → Value} {P : Program} {t : TypeId} (K : b0m P t κ) (w : World) (k : κ) : ∀ (es : List MapEntry) (l : List (κ × ν)) (j : Nat), es.map (fun e => (e.key, e.val)) = ents K.f fv l →
    (O2 l k = none ∧ (Instr.findAsking t (K.f k) es j).run P w = .ok none w ∧ ∀ v, O1 l k v = l ++ [(k, v)]) ∨
    ∃ i v e, O2 l k = some v ∧ (Instr.findAsking t (K.f k) es j).run P w = .ok (some (j + i, fv v)) w ∧ es[i]? = some e ∧ e.key = K.f k ∧
      ∀ v', (es.modify i fun e => { e with key := K.f k, val := fv v' }).map (fun e => (e.key, e.val)) = ents K.f fv (O1 l k v')
  | [], l, j, h => by
    cases l with
    | nil => exact .inl ⟨rfl, by simp [Instr.findAsking], fun _ => rfl⟩
    | cons p r => simp [ents] at h
  | e :: es, l, j, h => by
    cases l with
    | nil => simp [ents] at h
    | cons p r =>
      obtain ⟨k', v⟩ := p
      simp only [ents, b2L, List.cons.injEq, Prod.mk.injEq] at h
      obtain ⟨⟨h1, h2⟩, h3⟩ := h
      have hq := K.eq w k k'
      cases hk : (k == k') with
      | true =>
        right
        have hkk := K.law _ _ hk
        rw [hk] at hq
        refine ⟨0, v, e, by simp [O2, hk], ?_, rfl, by rw [h1, hkk], ?_⟩
        · simp [Instr.findAsking, h1, hq, h2]
        · intro v'
          simp [O1, hk, ents, h3, hkk]
      | false =>
        rw [hk] at hq
        rcases a1M K w k es r (j + 1) h3 with ⟨g1, g2, g3⟩ | ⟨i, v0, e0, g1, g2, g3, g4, g5⟩
        · left
          exact ⟨by simp [O2, hk, g1], by simp [Instr.findAsking, h1, hq, g2], fun v' => by simp [O1, hk, g3 v']⟩
        · right
          refine ⟨i + 1, v0, e0, by simp [O2, hk, g1], by simp [Instr.findAsking, h1, hq, g2]; omega, by simpa using g3, g4, ?_⟩
          intro v'
          simp [O1, hk, ents, h1, h2]
          simpa [ents] using g5 v'
section
variable {P : Program} {K : Kt} {a : Act} {w : World} {n : Nat} {E : Env} {ops : Array Oper} {rest : List Oper} {d : Option Tmp} {ty : TypeId} {pos : String} {aft : Array Edge} {g : Option (Nat × Bool)} {s : Sg} {R : List HP}
variable {κ ν : Type} {fv : ν → Value}
theorem WL.mapSetG [BEq κ] {kt : TypeId} (K' : b0m P kt κ) (hE : Rep a n E) (hS : St w s R) (i : Nat) {t vt : TypeId} {x y z : Operand} {b : Nat} {l : List (κ × ν)} {k : κ} {v : ν} {ins : Op}
    (hi : ins = .mapUpdate t x y z ∨ ins = .insert t x y z) (hg : Region.wanted ⟨d, ins, ty, pos, aft, g⟩ (yielded ops a.tmps) = true)
    (hx : E.ev x = some (.map (some b))) (hy : E.ev y = some (K'.f k)) (hz : E.ev z = some (fv v)) (hr : R[i]? = some (L0 K'.f fv b l)) (ht : P.underlying t = some (.map kt vt)) (hd : J5 d n = true)
    (q : ∀ a w, Rep a n (E.put d undef) → St w s (R.set i (L0 K'.f fv b (O1 l k v))) → WL P ops K rest a w) : WL P ops K (⟨d, ins, ty, pos, aft, g⟩ :: rest) a w := by
  have hu := ht
  obtain ⟨es, clock, hb, hes, hS2, hst⟩ := hS.mapAt i hr
  have hset : ∀ (w' : World) (es' : Array MapEntry) (clock' : Nat), w'.heap[b]? = some (.map es' clock') → (∀ k, k ≠ b → w'.heap[k]? = w.heap[k]?) → w'.os = w.os → w'.output = w.output →
      es'.toList.map (fun e => (e.key, e.val)) = ents K'.f fv (O1 l k v) → Q7 es' clock' → St w' s (R.set i (L0 K'.f fv b (O1 l k v))) := by
    intro w' es' clock' h1 h2 h3 h4 h5 h8
    have h6 : St w' s (L0 K'.f fv b (O1 l k v) :: R.eraseIdx i) := (hS2.put h1 h2 h3 h4).head fun h hh => ⟨es', clock', hh, h5, h8⟩
    have hlt : i < R.length := by
      rcases Nat.lt_or_ge i R.length with h | h
      · exact h
      · rw [List.getElem?_eq_none h] at hr; cases hr
    have e : R.eraseIdx i = (R.set i (L0 K'.f fv b (O1 l k v))).eraseIdx i := by rw [List.eraseIdx_set_eq]
    rw [e] at h6
    exact St.unfront i (by simp [hlt]) h6
  have hck := K'.chk false k w
  have hfk := K'.find (K'.f k) es.toList w
  rcases a1M (fv := fv) K' w k es.toList l 0 hes with ⟨g1, g2, g3⟩ | ⟨j, v0, e0, g1, g2, g3, g4, g5⟩
  · rw [g2] at hfk
    obtain ⟨w', r1, r2, r3, r4, r5⟩ := U4 (P := P) (es' := es.push { key := K'.f k, val := fv v, born := clock }) (clock' := clock + 1) hb
    refine WL.skipS (w' := w') hg ?_ (q _ _ (hE.puts hd _) (hset w' _ _ r2 r3 r4 r5 ?_ (hst.push _ _)))
    · rcases hi with rfl | rfl <;> simp [execOp, hE.ev hx, hE.ev hy, hE.ev hz, Instr.mapUpdate, run_underlying hu, L6 hb, hck, hfk, r1]
    · rw [g3]; simp [ents, hes]
  · rw [g2] at hfk
    obtain ⟨w', r1, r2, r3, r4, r5⟩ := U4 (P := P) (es' := es.modify j fun e => { e with key := K'.f k, val := fv v }) (clock' := clock) hb
    have hj : es[j]? = some e0 := by simpa using g3
    have hstay : (Instr.keyThatStays (((es[j]?).map (·.key)).getD (K'.f k)) (K'.f k)).run P w = .ok (K'.f k) w := by
      rw [hj]; simp [Instr.keyThatStays, g4, K'.bits k]
    simp only [Nat.zero_add] at hfk
    refine WL.skipS (w' := w') hg ?_ (q _ _ (hE.puts hd _) (hset w' _ _ r2 r3 r4 r5 ?_ (hst.mod _ _ _)))
    · rcases hi with rfl | rfl <;> (simp only [execOp, hE.ev hx, hE.ev hy, hE.ev hz]; simp [Instr.mapUpdate, run_underlying hu, L6 hb, hck, hfk, hstay, r1])
    · have := g5 v
      simpa using this
theorem A6.mapGetG [BEq κ] {kt : TypeId} (K' : b0m P kt κ) (hE : Rep a n E) (i : Nat) {t vt : TypeId} {x y : Operand} {b : Nat} {l : List (κ × ν)} {k : κ} {z : ν}
    (hx : E.ev x = some (.map (some b))) (hy : E.ev y = some (K'.f k)) (hr : R[i]? = some (L0 K'.f fv b l)) (ht : P.underlying t = some (.map kt vt))
    (hz : (P.info? vt).bind (fun i => i.zero) = some (fv z)) : A6 P (fun w => St w s R) a ⟨d, .lookup t x y false, ty, pos, aft, g⟩ (fv ((O2 l k).getD z)) := by
  intro w hS
  have hu := ht
  obtain ⟨es, clock, hb, hes, _⟩ := hS.mapAt i hr
  have hck := fun e => K'.chk e k w
  have hfk := K'.find (K'.f k) es.toList w
  cases hi : P.info? vt with
  | none => simp [hi] at hz
  | some inf =>
    simp [hi] at hz
    rcases a1M (fv := fv) K' w k es.toList l 0 hes with ⟨g1, g2, _⟩ | ⟨j, v0, e0, g1, g2, _, _, _⟩
    · rw [g2] at hfk
      simp [execOp, hE.ev hx, hE.ev hy, Instr.lookup, run_underlying hu, L6 hb, hck, hfk, g1, zeroValue, typeInfo, hi, hz]
    · rw [g2] at hfk
      simp [execOp, hE.ev hx, hE.ev hy, Instr.lookup, run_underlying hu, L6 hb, hck, hfk, g1]
end
end Go.Fp
