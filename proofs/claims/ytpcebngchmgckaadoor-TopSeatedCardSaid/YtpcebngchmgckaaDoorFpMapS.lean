/- Maps of the call's own, with keys that are structs of integers and bools. No condition. -/
import Derived.Test.YtpcebngchmgckaaDoorFpMap
import Derived.Test.YtpcebngchmgckaaDoorFpArr
import Derived.WideKeyRuns
namespace Go.Fp
open Go

/-- kinds of keys that are structs -/
structure KeyS (κ : Type) [BEq κ] where
  ls : κ → List Leaf
  ks : List LeafK
  kinds : ∀ a, (ls a).map Leaf.kind = ks
  same : ∀ a b, eqs (ls a) (ls b) = (a == b)
  law : ∀ a b : κ, (a == b) = true → a = b
  refl : ∀ a : κ, (a == a) = true
def KeyS.f {κ : Type} [BEq κ] (K : KeyS κ) (a : κ) : Value := .agg ((K.ls a).map Leaf.val).toArray

theorem leaf_bits (n : Nat) : ∀ a : Leaf, Instr.sameBits n a.val a.val = true
  | .i k x => by simp [Leaf.val, Instr.sameBits]
  | .b x => by simp [Leaf.val, Instr.sameBits]
theorem KeyS.bits {κ : Type} [BEq κ] (K : KeyS κ) (n : Nat) (a : κ) : Instr.sameBits (n + 1) (K.f a) (K.f a) = true := by
  unfold KeyS.f
  simp only [Instr.sameBits, beq_self_eq_true, Bool.true_and, List.all_eq_true]
  intro p hp
  have : p.1 = p.2 ∧ p.1 ∈ (K.ls a).map Leaf.val := by
    generalize (K.ls a).map Leaf.val = l at hp
    induction l with
    | nil => simp at hp
    | cons x r ih =>
      simp only [List.zip_cons_cons, List.mem_cons] at hp
      rcases hp with rfl | hp
      · exact ⟨rfl, by simp⟩
      · exact ⟨(ih hp).1, by simp [(ih hp).2]⟩
  obtain ⟨h1, h2⟩ := this
  obtain ⟨y, _, h3⟩ := List.mem_map.1 h2
  rw [← h1, ← h3]
  exact leaf_bits n y
theorem KeyS.eq {κ : Type} [BEq κ] (K : KeyS κ) {P : Program} {t : TypeId} (h : stEqB P t K.ks = true) (w : World) (a b : κ) : (Op.equal t (K.f a) (K.f b)).run P w = .ok (a == b) w := by
  rw [← K.same a b]
  exact (run_stEq h (K.ls a) (K.ls b) (K.kinds a) (K.kinds b) w).1
theorem ck_leaf {P : Program} {t : TypeId} {k : LeafK} (h : kindOk P t k = true) (e : Bool) (n : Nat) (v : Value) (w : World) : (Instr.checkKey e (n + 1) t v).run P w = .ok () w := by
  unfold kindOk at h
  split at h
  · rename_i hu _; simp [Instr.checkKey, run_underlying hu]
  · rename_i hu _; simp [Instr.checkKey, run_underlying hu]
  · cases h
theorem KeyS.chk {κ : Type} [BEq κ] (K : KeyS κ) {P : Program} {t : TypeId} (h : stEqB P t K.ks = true) (n : Nat) (e : Bool) (a : κ) (w : World) : (Instr.checkKey e (n + 2) t (K.f a)).run P w = .ok () w := by
  unfold stEqB at h
  split at h
  · rename_i fs hu
    simp only [Bool.and_eq_true, Bool.not_eq_true'] at h
    obtain ⟨_, g3⟩ := h
    unfold KeyS.f
    rw [Instr.checkKey]
    simp only [Sem.run_bind, run_underlying hu, Result.andThen_ok]
    rw [← Array.forIn_toList]
    have key : ∀ (fl : List Field) (ks : List LeafK) (j : Nat) (ls : List Leaf) (xs : Array Value), fsOk P fl ks j = true → ls.map Leaf.kind = ks → (∀ i l, ls[i]? = some l → xs[j + i]? = some l.val) →
        (forIn (m := Sem) fl PUnit.unit fun f _ => if f.name ≠ "_" then do
            Instr.checkKey e (n + 1) f.type (← part f.type xs f.offset)
            pure (ForInStep.yield PUnit.unit)
          else pure (ForInStep.yield PUnit.unit)).run P w = .ok PUnit.unit w := by
      intro fl
      induction fl with
      | nil => intro ks j ls xs _ _ _; simp
      | cons f fl ih =>
        intro ks j ls xs hf hk hx
        cases ks with
        | nil => simp [fsOk] at hf
        | cons k ks =>
          simp only [fsOk, Bool.and_eq_true] at hf
          obtain ⟨⟨⟨q1, q2⟩, q3⟩, q4⟩ := hf
          have ho := Nat.eq_of_beq_eq_true q2
          have hn : f.name ≠ "_" := by simpa using q1
          cases ls with
          | nil => simp at hk
          | cons y ls =>
            simp only [List.map_cons, List.cons.injEq] at hk
            have hy := hx 0 y rfl
            rw [Nat.add_zero] at hy
            simp only [List.forIn_cons, hn, ne_eq, not_false_eq_true, if_true, Sem.run_bind, ho, run_part1 q3 xs j _ hy, Result.andThen_ok, ck_leaf q3 e n _ w, Sem.run_pure]
            exact ih ks (j + 1) ls xs q4 hk.2 (fun i l hl => by have := hx (i + 1) l (by simpa using hl); rwa [show j + (i + 1) = j + 1 + i by omega] at this)
    have := key fs.toList K.ks 0 (K.ls a) ((K.ls a).map Leaf.val).toArray g3 (K.kinds a) (fun i l hl => by simp [hl])
    simp at this ⊢
    rw [this]
    rfl
  · cases h
def mpOkS (P : Program) (ks : List LeafK) (t kt vt : Nat) : Bool :=
  match P.underlying t with
  | some (.map k v) => Nat.beq k kt && Nat.beq v vt && stEqB P kt ks
  | _ => false
theorem mpOkS.get {P : Program} {ks : List LeafK} {t kt vt : Nat} (h : mpOkS P ks t kt vt = true) : P.underlying t = some (.map kt vt) ∧ stEqB P kt ks = true := by
  unfold mpOkS at h
  split at h
  · rename_i k v h1
    simp only [Bool.and_eq_true] at h
    have e1 := Nat.eq_of_beq_eq_true h.1.1
    have e2 := Nat.eq_of_beq_eq_true h.1.2
    subst e1; subst e2
    exact ⟨h1, h.2⟩
  · cases h
section
variable {P : Program} {K : Kt} {a : Act} {w : World} {n : Nat} {E : Env} {ops : Array Oper} {rest : List Oper} {d : Option Tmp} {ty : TypeId} {pos : String} {aft : Array Edge} {g : Option (Nat × Bool)} {s : Sg} {R : List HP}
variable {κ ν : Type} {fv : ν → Value}
end
end Go.Fp
