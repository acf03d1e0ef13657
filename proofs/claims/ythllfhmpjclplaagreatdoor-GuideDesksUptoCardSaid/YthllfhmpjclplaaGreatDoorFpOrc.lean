/- Orders that are open: a mirror that takes an oracle, and is asked for all of them. No condition. -/
import Derived.Test.YthllfhmpjclplaaGreatDoorFpBase
namespace Go.Fp
open Go
abbrev Orc := List Nat → Nat
def Orc.sub (o : Orc) (k : Nat) : Orc := fun p => o (k :: p)
def Orc.mk (c : Nat) (f g : Orc) : Orc
  | [] => c
  | 0 :: p => f p
  | _ :: p => g p
theorem Orc.mk_sub0 (c : Nat) (f g : Orc) : (Orc.mk c f g).sub 0 = f := rfl
theorem Orc.mk_sub1 (c : Nat) (f g : Orc) : (Orc.mk c f g).sub 1 = g := rfl
def P4 {β : Type} (F : Orc → Option β) (Q : β → Prop) : Prop := ∀ o, ∃ r, F o = some r ∧ Q r
section
variable {α β : Type} {Q : β → Prop}
theorem P4.mono {F : Orc → Option β} {Q' : β → Prop} (h : P4 F Q) (k : ∀ r, Q r → Q' r) : P4 F Q' := fun o => by obtain ⟨r, h1, h2⟩ := h o; exact ⟨r, h1, k r h2⟩
theorem P4.done {d : β} (h : P4 (fun _ => some d) Q) : Q d := by
  obtain ⟨r, h1, h2⟩ := h (fun _ => 0)
  injection h1 with h1
  subst h1; exact h2
theorem P4.bind {A : Option α} {B : α → Orc → Option β} (h : P4 (fun o => A.bind fun x => B x o) Q) : ∃ x, A = some x ∧ P4 (B x) Q := by
  cases A with
  | none => obtain ⟨r, h1, _⟩ := h (fun _ => 0); cases h1
  | some x => exact ⟨x, rfl, h⟩
theorem P4.iteT {c : Prop} [Decidable c] {A B : Orc → Option β} (hc : c) (h : P4 (fun o => if c then A o else B o) Q) : P4 A Q := by
  simpa only [if_pos hc] using h
theorem P4.iteF {c : Prop} [Decidable c] {A B : Orc → Option β} (hc : ¬ c) (h : P4 (fun o => if c then A o else B o) Q) : P4 B Q := by
  simpa only [if_neg hc] using h
theorem P4.bindO {A : Orc → Option α} {B : α → Orc → Option β} (h : P4 (fun o => (A (o.sub 0)).bind fun x => B x (o.sub 1)) Q) : P4 A (fun x => P4 (B x) Q) := by
  intro o
  cases k : A o with
  | none =>
    obtain ⟨r, h1, _⟩ := h (Orc.mk 0 o o)
    simp only [Orc.mk_sub0, k] at h1
    cases h1
  | some x =>
    refine ⟨x, rfl, fun o' => ?_⟩
    obtain ⟨r, h1, h2⟩ := h (Orc.mk 0 o o')
    simp only [Orc.mk_sub0, Orc.mk_sub1, k, Option.bind_some] at h1
    exact ⟨r, h1, h2⟩
end
theorem a0s {α : Type} : ∀ (l : List α) (i : Nat) (h : i < l.length), (l[i] :: l.eraseIdx i).Perm l
  | a :: l, 0, _ => List.Perm.refl _
  | a :: l, i + 1, h => by
    simp only [List.getElem_cons_succ, List.eraseIdx_cons_succ]
    exact (List.Perm.swap _ _ _).trans ((a0s l i (by simpa using h)).cons a)
def a2V {α σ : Type} (f : α → σ → Orc → Option σ) : Nat → List α → σ → Orc → Option σ
  | 0, _, st, _ => some st
  | n + 1, left, st, o => match left[o [] % left.length]? with
    | none => some st
    | some x => (f x st (o.sub 0)).bind fun st' => a2V f n (left.eraseIdx (o [] % left.length)) st' (o.sub 1)
theorem a4E {α σ : Type} {f : α → σ → Orc → Option σ} {n : Nat} {st : σ} {Q : σ → Prop} (h : P4 (a2V f n [] st) Q) : Q st := by
  cases n with
  | zero => exact P4.done h
  | succ n =>
    have : a2V f (n + 1) [] st = fun _ => some st := by funext o; simp [a2V]
    rw [this] at h
    exact P4.done h
theorem a6b {α σ : Type} {f : α → σ → Orc → Option σ} {n : Nat} {left left' : List α} {x : α} {st : σ} {Q : σ → Prop} (hn : left.length ≤ n) (hp : left.Perm (x :: left')) (h : P4 (a2V f n left st) Q) :
    ∃ n' left'', left''.Perm left' ∧ left''.length ≤ n' ∧ n = n' + 1 ∧ P4 (f x st) (fun st' => P4 (a2V f n' left'' st') Q) := by
  have hx : x ∈ left := hp.mem_iff.2 (List.mem_cons_self ..)
  obtain ⟨i, hi, rfl⟩ := List.getElem_of_mem hx
  obtain ⟨n', rfl⟩ : ∃ n', n = n' + 1 := ⟨n - 1, by omega⟩
  have hp2 : (left.eraseIdx i).Perm left' := by
    have h1 : left.Perm (left[i] :: left.eraseIdx i) := (a0s left _ hi).symm
    exact (List.perm_cons _).1 (h1.symm.trans hp)
  refine ⟨n', left.eraseIdx i, hp2, by rw [List.length_eraseIdx_of_lt hi]; omega, rfl, ?_⟩
  have h2 : P4 (fun o => (f left[i] st (o.sub 0)).bind fun st' => a2V f n' (left.eraseIdx i) st' (o.sub 1)) Q := by
    intro o
    obtain ⟨r, h3, h4⟩ := h (Orc.mk i (o.sub 0) (o.sub 1))
    refine ⟨r, ?_, h4⟩
    have e : (Orc.mk i (o.sub 0) (o.sub 1)) [] % left.length = i := Nat.mod_eq_of_lt hi
    rw [a2V, e, List.getElem?_eq_getElem hi] at h3
    exact h3
  exact P4.bindO h2
open Classical in
noncomputable def same {β : Type} (F : Orc → Option β) : Option β := if h : ∃ r, ∀ o, F o = some r then some (Classical.choose h) else none
theorem a6c {β : Type} {F : Orc → Option β} {r : β} (h : same F = some r) : P4 F (fun x => x = r) := by
  unfold same at h
  split at h
  · rename_i k
    injection h with h
    intro o
    exact ⟨_, Classical.choose_spec k o, h⟩
  · cases h
theorem a7N {β : Type} {F : Orc → Option β} {r : β} (h : ∀ o, F o = some r) : same F = some r := by
  unfold same
  have k : ∃ r, ∀ o, F o = some r := ⟨r, h⟩
  rw [dif_pos k]
  have := Classical.choose_spec k (fun _ => 0)
  rw [h] at this
  exact this.symm
def bindO {α β : Type} (A : Orc → Option α) (B : α → Orc → Option β) : Orc → Option β := fun o => (A (o.sub 0)).bind fun x => B x (o.sub 1)
section
variable {α β σ : Type} {Q : β → Prop}
theorem P4.bindP {A : Orc → Option α} {B : α → Orc → Option β} (h : P4 (Fp.bindO A B) Q) : ∃ q : α → Prop, P4 A q ∧ ∀ x, q x → P4 (B x) Q := ⟨_, P4.bindO h, fun _ h => h⟩
theorem P4.bnd {a : α} {B : α → Orc → Option β} (h : P4 (fun o => Fp.bnd a fun x => B x o) Q) : ∃ x, a = x ∧ P4 (B x) Q := ⟨a, rfl, h⟩
theorem P4.T {c : Bool} {A B : Orc → Option β} (hc : c = true) (h : P4 (fun o => if c = true then A o else B o) Q) : P4 A Q := P4.iteT hc h
theorem P4.F {c : Bool} {A B : Orc → Option β} (hc : c = false) (h : P4 (fun o => if c = true then A o else B o) Q) : P4 B Q := P4.iteF (by rw [hc]; decide) h
theorem P4.no (h : P4 (fun _ => (none : Option β)) Q) : False := by obtain ⟨r, h1, _⟩ := h (fun _ => 0); cases h1
def a6F {σ : Type} (f : Nat → σ → Orc → Option σ) : Nat → Nat → σ → Orc → Option σ
  | 0, _, st, _ => some st
  | n + 1, k, st, o => (f k st (o.sub 0)).bind fun st' => a6F f n (k + 1) st' (o.sub 1)
theorem a6H {f : Nat → σ → Orc → Option σ} {k : Nat} {st : σ} {Q : σ → Prop} (h : P4 (a6F f 0 k st) Q) : Q st := P4.done h
theorem a6m {f : Nat → σ → Orc → Option σ} {n k : Nat} {st : σ} {Q : σ → Prop} (h : P4 (a6F f (n + 1) k st) Q) : ∃ q : σ → Prop, P4 (f k st) q ∧ ∀ st', q st' → P4 (a6F f n (k + 1) st') Q :=
  ⟨_, P4.bindO (A := f k st) (B := fun st' => a6F f n (k + 1) st') h, fun _ h => h⟩
theorem a3c {f : α → σ → Orc → Option σ} {n : Nat} {left left' : List α} {x : α} {st : σ} {Q : σ → Prop} (hn : left.length ≤ n) (hp : left.Perm (x :: left')) (h : P4 (a2V f n left st) Q) :
    ∃ (n' : Nat) (left'' : List α) (q : σ → Prop), left''.Perm left' ∧ left''.length ≤ n' ∧ left''.length < left.length ∧ P4 (f x st) q ∧ ∀ st', q st' → P4 (a2V f n' left'' st') Q := by
  obtain ⟨n', left'', h1, h2, h3, h4⟩ := a6b hn hp h
  refine ⟨n', left'', _, h1, h2, ?_, h4, fun _ h => h⟩
  rw [hp.length_eq, h1.length_eq]
  simp
end
end Go.Fp
