/- Maps of the call's own, with keys that are integers, strings or bools; conversions of integers. No condition. -/
import Derived.Test.YtngamgkmhgmmjaaGreatDoorFpReg
namespace Go.Fp
open Go

/-- kinds of keys that are compared at once -/
structure KeyK (κ : Type) [BEq κ] where
  f : κ → Value
  ok : TypeDesc → Bool
  same : ∀ d, ok d = true → ∀ a b, Instr.sameNow d (f a) (f b) = some (a == b)
  law : ∀ a b : κ, (a == b) = true → a = b
  refl : ∀ a : κ, (a == a) = true
  bits : ∀ n a, Instr.sameBits (n + 1) (f a) (f a) = true
  chk : ∀ (P : Program) (t : TypeId) (d : TypeDesc) (n : Nat) (e : Bool) (a : κ) (w : World), P.underlying t = some d → ok d = true → (Instr.checkKey e (n + 1) t (f a)).run P w = .ok () w

def keyI : KeyK Int where
  f := Value.int .i64
  ok := fun d => match d with | .int .i64 => true | _ => false
  same := by intro d h a b; split at h <;> simp_all [Instr.sameNow]
  law := by simp
  refl := by simp
  bits := by simp [Instr.sameBits]
  chk := by
    intro P t d n e a w hu h
    split at h
    · simp [Instr.checkKey, run_underlying hu]
    · cases h

def mget {κ ν : Type} [BEq κ] (l : List (κ × ν)) (k : κ) : Option ν := match l with
  | [] => none
  | (j, v) :: r => if k == j then some v else mget r k
def mput {κ ν : Type} [BEq κ] (l : List (κ × ν)) (k : κ) (v : ν) : List (κ × ν) := match l with
  | [] => [(k, v)]
  | (j, u) :: r => if k == j then (j, v) :: r else (j, u) :: mput r k v

def ents {κ ν : Type} (fk : κ → Value) (fv : ν → Value) (l : List (κ × ν)) : List (Value × Value) := l.map fun p => (fk p.1, fv p.2)

/-- the entries' stamps: no two alike, all below the clock -/
def stamped (es : Array MapEntry) (clock : Nat) : Prop := (es.toList.map (·.born)).Nodup ∧ ∀ e ∈ es.toList, e.born < clock
theorem stamped.nil : stamped #[] 0 := ⟨by simp, fun e h => by simp at h⟩
theorem stamped.push {es : Array MapEntry} {clock : Nat} (h : stamped es clock) (k v : Value) : stamped (es.push { key := k, val := v, born := clock }) (clock + 1) := by
  refine ⟨?_, ?_⟩
  · rw [Array.toList_push, List.map_append, List.nodup_append]
    refine ⟨h.1, by simp, ?_⟩
    intro a ha b hb
    simp at hb
    subst hb
    obtain ⟨e, he, rfl⟩ := List.mem_map.1 ha
    have := h.2 e he
    omega
  · intro e he
    rw [Array.toList_push, List.mem_append] at he
    rcases he with he | he
    · have := h.2 e he; omega
    · simp at he; subst he; exact Nat.lt_succ_self clock
theorem stamped.mod {es : Array MapEntry} {clock : Nat} (h : stamped es clock) (j : Nat) (k v : Value) : stamped (es.modify j fun e => { e with key := k, val := v }) clock := by
  have e1 : ((es.modify j fun e => { e with key := k, val := v }).toList).map (·.born) = es.toList.map (·.born) := by
    apply List.ext_getElem?
    intro i
    simp only [List.getElem?_map, Array.toList_modify, List.getElem?_modify]
    by_cases c : j = i
    · subst c; cases es.toList[j]? <;> simp
    · simp [c]
  refine ⟨by rw [e1]; exact h.1, ?_⟩
  intro e he
  have : e.born ∈ ((es.modify j fun e => { e with key := k, val := v }).toList).map (·.born) := List.mem_map.2 ⟨e, he, rfl⟩
  rw [e1] at this
  obtain ⟨e', h1, h2⟩ := List.mem_map.1 this
  rw [← h2]; exact h.2 e' h1

/-- a map of the call's own -/
def mapC {κ ν : Type} (fk : κ → Value) (fv : ν → Value) (b : Nat) (l : List (κ × ν)) : HP := fun h => ∃ es clock, h b = some (.map es clock) ∧ es.toList.map (fun e => (e.key, e.val)) = ents fk fv l ∧ stamped es clock

section
variable {w : World} {s : Sg} {R : List HP} {κ ν : Type} {fk : κ → Value} {fv : ν → Value}

theorem St.mapAt (hS : St w s R) (i : Nat) {b : Nat} {l : List (κ × ν)} (hr : R[i]? = some (mapC fk fv b l)) :
    ∃ es clock, w.heap[b]? = some (.map es clock) ∧ es.toList.map (fun e => (e.key, e.val)) = ents fk fv l ∧ St w s (pt b (.map es clock) :: R.eraseIdx i) ∧ stamped es clock := by
  have h1 := hS.front i hr
  obtain ⟨h, ⟨h1', h2, ⟨es, clock, q1, q2, q3⟩, a2, a3, a4⟩, e⟩ := h1.own
  exact ⟨es, clock, (e b _ (a3 b _ q1).1).1, q2, ⟨h1.sub, ⟨h, ⟨h1', h2, q1, a2, a3, a4⟩, e⟩, h1.os, h1.out⟩, q3⟩

theorem find_now [BEq κ] (K : KeyK κ) {d : TypeDesc} (hd : K.ok d = true) (k : κ) : ∀ (es : List MapEntry) (l : List (κ × ν)) (j : Nat), es.map (fun e => (e.key, e.val)) = ents K.f fv l →
    (mget l k = none ∧ Instr.findNow d (K.f k) es j = some none ∧ ∀ v, mput l k v = l ++ [(k, v)]) ∨
    ∃ i v e, mget l k = some v ∧ Instr.findNow d (K.f k) es j = some (some (j + i, fv v)) ∧ es[i]? = some e ∧ e.key = K.f k ∧
      ∀ v', (es.modify i fun e => { e with key := K.f k, val := fv v' }).map (fun e => (e.key, e.val)) = ents K.f fv (mput l k v')
  | [], l, j, h => by
    cases l with
    | nil => exact .inl ⟨rfl, rfl, fun _ => rfl⟩
    | cons p r => simp [ents] at h
  | e :: es, l, j, h => by
    cases l with
    | nil => simp [ents] at h
    | cons p r =>
      obtain ⟨k', v⟩ := p
      simp only [ents, List.map_cons, List.cons.injEq, Prod.mk.injEq] at h
      obtain ⟨⟨h1, h2⟩, h3⟩ := h
      cases hk : (k == k') with
      | true =>
        right
        have hkk := K.law _ _ hk
        subst hkk
        refine ⟨0, v, e, by simp [mget, hk], ?_, rfl, h1, ?_⟩
        · simp [Instr.findNow, h1, K.same d hd, hk, h2]
        · intro v'
          simp [mput, hk, ents, h3]
      | false =>
        have hs : Instr.sameNow d (K.f k) e.key = some false := by rw [h1, K.same d hd, hk]
        rcases find_now K hd k es r (j + 1) h3 with ⟨g1, g2, g3⟩ | ⟨i, v0, e0, g1, g2, g3, g4, g5⟩
        · left
          exact ⟨by simp [mget, hk, g1], by simp [Instr.findNow, hs, g2], fun v' => by simp [mput, hk, g3 v']⟩
        · right
          refine ⟨i + 1, v0, e0, by simp [mget, hk, g1], by simp [Instr.findNow, hs, g2]; omega, by simpa using g3, g4, ?_⟩
          intro v'
          simp [mput, hk, ents, h1, h2]
          simpa [ents] using g5 v'
end

/-- type t is a map's, with keys of type kt, elements of type vt whose zero value is z -/
def mpOk (P : Program) (ok : TypeDesc → Bool) (t kt vt : Nat) : Bool :=
  match P.underlying t, P.underlying kt with
  | some (.map k v), some d => Nat.beq k kt && Nat.beq v vt && ok d
  | _, _ => false

theorem mpOk.get {P : Program} {ok : TypeDesc → Bool} {t kt vt : Nat} (h : mpOk P ok t kt vt = true) : P.underlying t = some (.map kt vt) ∧ ∃ d, P.underlying kt = some d ∧ ok d = true := by
  unfold mpOk at h
  split at h
  · rename_i k v d h1 h2
    simp only [Bool.and_eq_true] at h
    have e1 := Nat.eq_of_beq_eq_true h.1.1
    have e2 := Nat.eq_of_beq_eq_true h.1.2
    subst e1; subst e2
    exact ⟨h1, d, h2, h.2⟩
  · cases h

section
variable {P : Program} {K : Kt} {a : Act} {w : World} {n : Nat} {E : Env} {ops : Array Oper} {rest : List Oper} {d : Option Tmp} {ty : TypeId} {pos : String} {aft : Array Edge} {g : Option (Nat × Bool)} {s : Sg} {R : List HP}
variable {κ ν : Type} {fv : ν → Value}

theorem WL.mkMap {fk : κ → Value} (hE : Rep a n E) (hS : St w s R) {t : TypeId} (hg : Region.wanted ⟨d, .makeMap t none, ty, pos, aft, g⟩ (yielded ops a.tmps) = true) (hd : dstOk d n = true)
    (q : ∀ b a w, Rep a n (E.put d (.map (some b))) → St w s (mapC fk fv b [] :: R) → WL P ops K rest a w) : WL P ops K (⟨d, .makeMap t none, ty, pos, aft, g⟩ :: rest) a w := by
  refine WL.step (w' := w.alloc (.map #[] 0)) hg ?_ (q w.heap.size _ _ (hE.puts hd _) ((hS.alloc (.map #[] 0)).head fun h hh => ⟨#[], 0, hh, rfl, stamped.nil⟩))
  simp [execOp, Instr.makeMap]

theorem run_getMap {b : Nat} {es : Array MapEntry} {clock : Nat} (h : w.heap[b]? = some (.map es clock)) : (getObj b).run P w = .ok (.map es clock) w := by
  simp [getObj, Sem.run, h]
theorem run_setMap {b : Nat} {es es' : Array MapEntry} {clock clock' : Nat} (h : w.heap[b]? = some (.map es clock)) :
    ∃ w', (setObj b (.map es' clock')).run P w = .ok () w' ∧ w'.heap[b]? = some (.map es' clock') ∧ (∀ k, k ≠ b → w'.heap[k]? = w.heap[k]?) ∧ w'.os = w.os ∧ w'.output = w.output := by
  have hb := (Array.getElem?_eq_some_iff.1 h).1
  refine ⟨{ w with heap := w.heap.setIfInBounds b (.map es' clock') }, by simp only [setObj, Sem.run, h], ?_, ?_, rfl, rfl⟩
  · simp [hb]
  · intro k hk; simp [Ne.symm hk]

theorem WL.mapSet [BEq κ] (K' : KeyK κ) (hE : Rep a n E) (hS : St w s R) (i : Nat) {t kt vt : TypeId} {x y z : Operand} {b : Nat} {l : List (κ × ν)} {k : κ} {v : ν} {ins : Op}
    (hi : ins = .mapUpdate t x y z ∨ ins = .insert t x y z) (hg : Region.wanted ⟨d, ins, ty, pos, aft, g⟩ (yielded ops a.tmps) = true)
    (hx : E.ev x = some (.map (some b))) (hy : E.ev y = some (K'.f k)) (hz : E.ev z = some (fv v)) (hr : R[i]? = some (mapC K'.f fv b l)) (ht : mpOk P K'.ok t kt vt = true) (hd : dstOk d n = true)
    (q : ∀ a w, Rep a n (E.put d undef) → St w s (R.set i (mapC K'.f fv b (mput l k v))) → WL P ops K rest a w) : WL P ops K (⟨d, ins, ty, pos, aft, g⟩ :: rest) a w := by
  obtain ⟨hu, td, hk, hok⟩ := mpOk.get ht
  obtain ⟨es, clock, hb, hes, hS2, hst⟩ := hS.mapAt i hr
  have hset : ∀ (w' : World) (es' : Array MapEntry) (clock' : Nat), w'.heap[b]? = some (.map es' clock') → (∀ k, k ≠ b → w'.heap[k]? = w.heap[k]?) → w'.os = w.os → w'.output = w.output →
      es'.toList.map (fun e => (e.key, e.val)) = ents K'.f fv (mput l k v) → stamped es' clock' → St w' s (R.set i (mapC K'.f fv b (mput l k v))) := by
    intro w' es' clock' h1 h2 h3 h4 h5 h8
    have h6 : St w' s (mapC K'.f fv b (mput l k v) :: R.eraseIdx i) := (hS2.put h1 h2 h3 h4).head fun h hh => ⟨es', clock', hh, h5, h8⟩
    have hlt : i < R.length := by
      rcases Nat.lt_or_ge i R.length with h | h
      · exact h
      · rw [List.getElem?_eq_none h] at hr; cases hr
    have e : R.eraseIdx i = (R.set i (mapC K'.f fv b (mput l k v))).eraseIdx i := by rw [List.eraseIdx_set_eq]
    rw [e] at h6
    exact St.unfront i (by simp [hlt]) h6
  have hck := K'.chk P kt td 9999 false k w hk hok
  rcases find_now (fv := fv) K' hok k es.toList l 0 hes with ⟨g1, g2, g3⟩ | ⟨j, v0, e0, g1, g2, g3, g4, g5⟩
  · obtain ⟨w', r1, r2, r3, r4, r5⟩ := run_setMap (P := P) (es' := es.push { key := K'.f k, val := fv v, born := clock }) (clock' := clock + 1) hb
    refine WL.skipS (w' := w') hg ?_ (q _ _ (hE.puts hd _) (hset w' _ _ r2 r3 r4 r5 ?_ (hst.push _ _)))
    · rcases hi with rfl | rfl <;> simp [execOp, hE.ev hx, hE.ev hy, hE.ev hz, Instr.mapUpdate, run_underlying hu, run_getMap hb, hck, Instr.findKey, run_underlying hk, g2, r1]
    · rw [g3]; simp [ents, hes]
  · obtain ⟨w', r1, r2, r3, r4, r5⟩ := run_setMap (P := P) (es' := es.modify j fun e => { e with key := K'.f k, val := fv v }) (clock' := clock) hb
    have hj : es[j]? = some e0 := by simpa using g3
    have hstay : (Instr.keyThatStays (((es[j]?).map (·.key)).getD (K'.f k)) (K'.f k)).run P w = .ok (K'.f k) w := by
      rw [hj]; simp [Instr.keyThatStays, g4, K'.bits 9999 k]
    simp only [Nat.zero_add] at g2
    refine WL.skipS (w' := w') hg ?_ (q _ _ (hE.puts hd _) (hset w' _ _ r2 r3 r4 r5 ?_ (hst.mod _ _ _)))
    · rcases hi with rfl | rfl <;> (simp only [execOp, hE.ev hx, hE.ev hy, hE.ev hz]; simp [Instr.mapUpdate, run_underlying hu, run_getMap hb, hck, Instr.findKey, run_underlying hk, g2, hstay, r1])
    · have := g5 v
      simpa using this

/-- what a map has for a key -/
theorem Gives.mapGet [BEq κ] (K' : KeyK κ) (hE : Rep a n E) (i : Nat) {t kt vt : TypeId} {x y : Operand} {b : Nat} {l : List (κ × ν)} {k : κ} {z : ν}
    (hx : E.ev x = some (.map (some b))) (hy : E.ev y = some (K'.f k)) (hr : R[i]? = some (mapC K'.f fv b l)) (ht : mpOk P K'.ok t kt vt = true)
    (hz : (P.info? vt).bind (fun i => i.zero) = some (fv z)) : Gives P (fun w => St w s R) a ⟨d, .lookup t x y false, ty, pos, aft, g⟩ (fv ((mget l k).getD z)) := by
  intro w hS
  obtain ⟨hu, td, hk, hok⟩ := mpOk.get ht
  obtain ⟨es, clock, hb, hes, _⟩ := hS.mapAt i hr
  have hck := fun e => K'.chk P kt td 9999 e k w hk hok
  cases hi : P.info? vt with
  | none => simp [hi] at hz
  | some inf =>
    simp [hi] at hz
    rcases find_now (fv := fv) K' hok k es.toList l 0 hes with ⟨g1, g2, _⟩ | ⟨j, v0, e0, g1, g2, _, _, _⟩
    · simp [execOp, hE.ev hx, hE.ev hy, Instr.lookup, run_underlying hu, run_getMap hb, hck, Instr.findKey, run_underlying hk, g2, g1, zeroValue, typeInfo, hi, hz]
    · simp [execOp, hE.ev hx, hE.ev hy, Instr.lookup, run_underlying hu, run_getMap hb, hck, Instr.findKey, run_underlying hk, g2, g1]

/-- an integer of another kind -/
theorem Gives.conv {C : World → Prop} (hE : Rep a n E) {t t' : Nat} {x : Operand} {k k' : IntKind} {p : Int} (hx : E.ev x = some (.int k p)) (hs : (P.underlying t).isSome = true) (ht : P.underlying t' = some (.int k')) :
    Gives P C a ⟨d, .convert t t' x, ty, pos, aft, g⟩ (.int k' (k'.wrap p)) := by
  intro w _
  obtain ⟨ds, hs⟩ := Option.isSome_iff_exists.1 hs
  simp [execOp, hE.ev hx, convert, run_underlying hs, run_underlying ht, Conv.intToInt]

end
end Go.Fp
