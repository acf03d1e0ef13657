/- Maps of the call's own, with keys that are structs of integers and bools. No condition. -/
import Derived.Test.YthllfhmpjclplaaGreatDoorFpArr
import Derived.WideKeyRuns
open Bool renaming and_eq_true → b2w
open Nat renaming eq_of_beq_eq_true → b2r
namespace Go.Fp
open Go
structure a1B (κ : Type) [BEq κ] where
  ls : κ → List S1
  ks : List X3
  kinds : ∀ a, (ls a).map S1.kind = ks
  same : ∀ a b, eqs (ls a) (ls b) = (a == b)
  law : ∀ a b : κ, (a == b) = true → a = b
  refl : ∀ a : κ, (a == a) = true
def a1B.f {κ : Type} [BEq κ] (K : a1B κ) (a : κ) : Value := .agg ((K.ls a).map S1.val).toArray
theorem a5Y (n : Nat) : ∀ a : S1, Instr.sameBits n a.val a.val = true
  | .i k x => by simp [S1.val, Instr.sameBits]
  | .b x => by simp [S1.val, Instr.sameBits]
theorem a1B.bits {κ : Type} [BEq κ] (K : a1B κ) (n : Nat) (a : κ) : Instr.sameBits (n + 1) (K.f a) (K.f a) = true := by
  unfold a1B.f
  simp only [Instr.sameBits, beq_self_eq_true, Bool.true_and, List.all_eq_true]
  intro p hp
  have : p.1 = p.2 ∧ p.1 ∈ (K.ls a).map S1.val := by
    generalize (K.ls a).map S1.val = l at hp
    induction l with
    | nil => simp at hp
    | cons x r ih =>
      simp only [List.zip_cons_cons, List.mem_cons] at hp
      rcases hp with rfl | hp
      · exact ⟨rfl, by simp⟩
      · exact ⟨(ih hp).1, by simp [(ih hp).2]⟩
  obtain ⟨h1, h2⟩ := this
  obtain ⟨y, _, h3⟩ := List.mem_map.1 h2
  rw [← h1, ← h3]
  exact a5Y n y
theorem a1B.eq {κ : Type} [BEq κ] (K : a1B κ) {P : Program} {t : TypeId} (h : a1b P t K.ks = true) (w : World) (a b : κ) : (Op.equal t (K.f a) (K.f b)).run P w = .ok (a == b) w := by
  rw [← K.same a b]
  exact (a4z h (K.ls a) (K.ls b) (K.kinds a) (K.kinds b) w).1
theorem a3K {P : Program} {t : TypeId} {k : X3} (h : a1d P t k = true) (e : Bool) (n : Nat) (v : Value) (w : World) : (Instr.checkKey e (n + 1) t v).run P w = .ok () w := by
  unfold a1d at h
  split at h
  · rename_i hu _; simp [Instr.checkKey, run_underlying hu]
  · rename_i hu _; simp [Instr.checkKey, run_underlying hu]
  · cases h
theorem a1B.chk {κ : Type} [BEq κ] (K : a1B κ) {P : Program} {t : TypeId} (h : a1b P t K.ks = true) (n : Nat) (e : Bool) (a : κ) (w : World) : (Instr.checkKey e (n + 2) t (K.f a)).run P w = .ok () w := by
  unfold a1b at h
  split at h
  · rename_i fs hu
    simp only [b2w, Bool.not_eq_true'] at h
    obtain ⟨_, g3⟩ := h
    unfold a1B.f
    rw [Instr.checkKey]
    simp only [Sem.run_bind, run_underlying hu, Result.andThen_ok]
    rw [← Array.forIn_toList]
    have key : ∀ (fl : List Field) (ks : List X3) (j : Nat) (ls : List S1) (xs : Array Value), a7b P fl ks j = true → ls.map S1.kind = ks → (∀ i l, ls[i]? = some l → xs[j + i]? = some l.val) →
        (forIn (m := Sem) fl PUnit.unit fun f _ => if f.name ≠ "_" then do
            Instr.checkKey e (n + 1) f.type (← part f.type xs f.offset)
            pure (ForInStep.yield PUnit.unit)
          else pure (ForInStep.yield PUnit.unit)).run P w = .ok PUnit.unit w := by
      intro fl
      induction fl with
      | nil => intro ks j ls xs _ _ _; simp
      | cons f fl ih =>
        intro ks j ls xs hf hk hx
        cases ks with
        | nil => simp [a7b] at hf
        | cons k ks =>
          simp only [a7b, b2w] at hf
          obtain ⟨⟨⟨q1, q2⟩, q3⟩, q4⟩ := hf
          have ho := b2r q2
          have hn : f.name ≠ "_" := by simpa using q1
          cases ls with
          | nil => simp at hk
          | cons y ls =>
            simp only [List.map_cons, List.cons.injEq] at hk
            have hy := hx 0 y rfl
            rw [Nat.add_zero] at hy
            simp only [List.forIn_cons, hn, ne_eq, not_false_eq_true, if_true, Sem.run_bind, ho, U8 q3 xs j _ hy, Result.andThen_ok, a3K q3 e n _ w, Sem.run_pure]
            exact ih ks (j + 1) ls xs q4 hk.2 (fun i l hl => by have := hx (i + 1) l (by simpa using hl); rwa [show j + (i + 1) = j + 1 + i by omega] at this)
    have := key fs.toList K.ks 0 (K.ls a) ((K.ls a).map S1.val).toArray g3 (K.kinds a) (fun i l hl => by simp [hl])
    simp at this ⊢
    rw [this]
    rfl
  · cases h
theorem a2J {κ ν : Type} [BEq κ] {fv : ν → Value} (K : a1B κ) {P : Program} {t : TypeId} (ht : a1b P t K.ks = true) (w : World) (k : κ) : ∀ (es : List MapEntry) (l : List (κ × ν)) (j : Nat), es.map (fun e => (e.key, e.val)) = ents K.f fv l →
    (O2 l k = none ∧ (Instr.findAsking t (K.f k) es j).run P w = .ok none w ∧ ∀ v, O1 l k v = l ++ [(k, v)]) ∨
    ∃ i v e, O2 l k = some v ∧ (Instr.findAsking t (K.f k) es j).run P w = .ok (some (j + i, fv v)) w ∧ es[i]? = some e ∧ e.key = K.f k ∧
      ∀ v', (es.modify i fun e => { e with key := K.f k, val := fv v' }).map (fun e => (e.key, e.val)) = ents K.f fv (O1 l k v')
  | [], l, j, h => by
    cases l with
    | nil => exact .inl ⟨rfl, by simp [Instr.findAsking], fun _ => rfl⟩
    | cons p r => simp [ents] at h
  | e :: es, l, j, h => by
    cases l with
    | nil => simp [ents] at h
    | cons p r =>
      obtain ⟨k', v⟩ := p
      simp only [ents, List.map_cons, List.cons.injEq, Prod.mk.injEq] at h
      obtain ⟨⟨h1, h2⟩, h3⟩ := h
      have hq := K.eq ht w k k'
      cases hk : (k == k') with
      | true =>
        right
        have hkk := K.law _ _ hk
        subst hkk
        rw [hk] at hq
        refine ⟨0, v, e, by simp [O2, hk], ?_, rfl, h1, ?_⟩
        · simp [Instr.findAsking, h1, hq, h2]
        · intro v'
          simp [O1, hk, ents, h3]
      | false =>
        rw [hk] at hq
        rcases a2J K ht w k es r (j + 1) h3 with ⟨g1, g2, g3⟩ | ⟨i, v0, e0, g1, g2, g3, g4, g5⟩
        · left
          exact ⟨by simp [O2, hk, g1], by simp [Instr.findAsking, h1, hq, g2], fun v' => by simp [O1, hk, g3 v']⟩
        · right
          refine ⟨i + 1, v0, e0, by simp [O2, hk, g1], by simp [Instr.findAsking, h1, hq, g2]; omega, by simpa using g3, g4, ?_⟩
          intro v'
          simp [O1, hk, ents, h1, h2]
          simpa [ents] using g5 v'
def a2b (P : Program) (ks : List X3) (t kt vt : Nat) : Bool :=
  match P.underlying t with
  | some (.map k v) => Nat.beq k kt && Nat.beq v vt && a1b P kt ks
  | _ => false
theorem a2b.get {P : Program} {ks : List X3} {t kt vt : Nat} (h : a2b P ks t kt vt = true) : P.underlying t = some (.map kt vt) ∧ a1b P kt ks = true := by
  unfold a2b at h
  split at h
  · rename_i k v h1
    simp only [b2w] at h
    have e1 := b2r h.1.1
    have e2 := b2r h.1.2
    subst e1; subst e2
    exact ⟨h1, h.2⟩
  · cases h
theorem a4C {P : Program} {kt : TypeId} {ks : List X3} (h : a1b P kt ks = true) (x : Value) (es : List MapEntry) (w : World) : (Instr.findKey kt x es).run P w = (Instr.findAsking kt x es).run P w := by
  refine run_findKey_eq w ?_ x es
  unfold a1b at h
  split at h
  · rename_i fs hu; rw [hu]
  · cases h
section
variable {P : Program} {K : Kt} {a : Act} {w : World} {n : Nat} {E : Env} {ops : Array Oper} {rest : List Oper} {d : Option Tmp} {ty : TypeId} {pos : String} {aft : Array Edge} {g : Option (Nat × Bool)} {s : Sg} {R : List HP}
variable {κ ν : Type} {fv : ν → Value}
theorem WL.mapSetS [BEq κ] (K' : a1B κ) (hE : Rep a n E) (hS : St w s R) (i : Nat) {t kt vt : TypeId} {x y z : Operand} {b : Nat} {l : List (κ × ν)} {k : κ} {v : ν} {ins : Op}
    (hi : ins = .mapUpdate t x y z ∨ ins = .insert t x y z) (hg : Region.wanted ⟨d, ins, ty, pos, aft, g⟩ (yielded ops a.tmps) = true)
    (hx : E.ev x = some (.map (some b))) (hy : E.ev y = some (K'.f k)) (hz : E.ev z = some (fv v)) (hr : R[i]? = some (L0 K'.f fv b l)) (ht : a2b P K'.ks t kt vt = true) (hd : J5 d n = true)
    (q : ∀ a w, Rep a n (E.put d undef) → St w s (R.set i (L0 K'.f fv b (O1 l k v))) → WL P ops K rest a w) : WL P ops K (⟨d, ins, ty, pos, aft, g⟩ :: rest) a w := by
  obtain ⟨hu, hok⟩ := a2b.get ht
  obtain ⟨es, clock, hb, hes, hS2, hst⟩ := hS.mapAt i hr
  have hset : ∀ (w' : World) (es' : Array MapEntry) (clock' : Nat), w'.heap[b]? = some (.map es' clock') → (∀ k, k ≠ b → w'.heap[k]? = w.heap[k]?) → w'.os = w.os → w'.output = w.output →
      es'.toList.map (fun e => (e.key, e.val)) = ents K'.f fv (O1 l k v) → Q7 es' clock' → St w' s (R.set i (L0 K'.f fv b (O1 l k v))) := by
    intro w' es' clock' h1 h2 h3 h4 h5 h8
    have h6 : St w' s (L0 K'.f fv b (O1 l k v) :: R.eraseIdx i) := (hS2.put h1 h2 h3 h4).head fun h hh => ⟨es', clock', hh, h5, h8⟩
    have hlt : i < R.length := by
      rcases Nat.lt_or_ge i R.length with h | h
      · exact h
      · rw [List.getElem?_eq_none h] at hr; cases hr
    have e : R.eraseIdx i = (R.set i (L0 K'.f fv b (O1 l k v))).eraseIdx i := by rw [List.eraseIdx_set_eq]
    rw [e] at h6
    exact St.unfront i (by simp [hlt]) h6
  have hck := K'.chk hok 9998 false k w
  have hfk := a4C hok (K'.f k) es.toList w
  rcases a2J (fv := fv) K' hok w k es.toList l 0 hes with ⟨g1, g2, g3⟩ | ⟨j, v0, e0, g1, g2, g3, g4, g5⟩
  · rw [g2] at hfk
    obtain ⟨w', r1, r2, r3, r4, r5⟩ := U4 (P := P) (es' := es.push { key := K'.f k, val := fv v, born := clock }) (clock' := clock + 1) hb
    refine WL.skipS (w' := w') hg ?_ (q _ _ (hE.puts hd _) (hset w' _ _ r2 r3 r4 r5 ?_ (hst.push _ _)))
    · rcases hi with rfl | rfl <;> simp [execOp, hE.ev hx, hE.ev hy, hE.ev hz, Instr.mapUpdate, run_underlying hu, L6 hb, hck, hfk, r1]
    · rw [g3]; simp [ents, hes]
  · rw [g2] at hfk
    obtain ⟨w', r1, r2, r3, r4, r5⟩ := U4 (P := P) (es' := es.modify j fun e => { e with key := K'.f k, val := fv v }) (clock' := clock) hb
    have hj : es[j]? = some e0 := by simpa using g3
    have hstay : (Instr.keyThatStays (((es[j]?).map (·.key)).getD (K'.f k)) (K'.f k)).run P w = .ok (K'.f k) w := by
      rw [hj]; simp [Instr.keyThatStays, g4, K'.bits 9999 k]
    simp only [Nat.zero_add] at hfk
    refine WL.skipS (w' := w') hg ?_ (q _ _ (hE.puts hd _) (hset w' _ _ r2 r3 r4 r5 ?_ (hst.mod _ _ _)))
    · rcases hi with rfl | rfl <;> (simp only [execOp, hE.ev hx, hE.ev hy, hE.ev hz]; simp [Instr.mapUpdate, run_underlying hu, L6 hb, hck, hfk, hstay, r1])
    · have := g5 v
      simpa using this
theorem A6.mapGetS [BEq κ] (K' : a1B κ) (hE : Rep a n E) (i : Nat) {t kt vt : TypeId} {x y : Operand} {b : Nat} {l : List (κ × ν)} {k : κ} {z : ν}
    (hx : E.ev x = some (.map (some b))) (hy : E.ev y = some (K'.f k)) (hr : R[i]? = some (L0 K'.f fv b l)) (ht : a2b P K'.ks t kt vt = true)
    (hz : (P.info? vt).bind (fun i => i.zero) = some (fv z)) : A6 P (fun w => St w s R) a ⟨d, .lookup t x y false, ty, pos, aft, g⟩ (fv ((O2 l k).getD z)) := by
  intro w hS
  obtain ⟨hu, hok⟩ := a2b.get ht
  obtain ⟨es, clock, hb, hes, _⟩ := hS.mapAt i hr
  have hck := fun e => K'.chk hok 9998 e k w
  have hfk := a4C hok (K'.f k) es.toList w
  cases hi : P.info? vt with
  | none => simp [hi] at hz
  | some inf =>
    simp [hi] at hz
    rcases a2J (fv := fv) K' hok w k es.toList l 0 hes with ⟨g1, g2, _⟩ | ⟨j, v0, e0, g1, g2, _, _, _⟩
    · rw [g2] at hfk
      simp [execOp, hE.ev hx, hE.ev hy, Instr.lookup, run_underlying hu, L6 hb, hck, hfk, g1, zeroValue, typeInfo, hi, hz]
    · rw [g2] at hfk
      simp [execOp, hE.ev hx, hE.ev hy, Instr.lookup, run_underlying hu, L6 hb, hck, hfk, g1]
end
end Go.Fp
