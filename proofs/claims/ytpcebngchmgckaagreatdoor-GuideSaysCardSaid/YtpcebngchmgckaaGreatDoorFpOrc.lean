/- Orders that are open: a mirror that takes an oracle, and is asked for all of them. No condition. -/
import Derived.Test.YtpcebngchmgckaaGreatDoorFpBase
namespace Go.Fp
open Go
abbrev Orc := List Nat → Nat
def Orc.sub (o : Orc) (k : Nat) : Orc := fun p => o (k :: p)
def Orc.mk (c : Nat) (f g : Orc) : Orc
  | [] => c
  | 0 :: p => f p
  | _ :: p => g p
theorem Orc.mk_sub0 (c : Nat) (f g : Orc) : (Orc.mk c f g).sub 0 = f := rfl
theorem Orc.mk_sub1 (c : Nat) (f g : Orc) : (Orc.mk c f g).sub 1 = g := rfl
def AllO {β : Type} (F : Orc → Option β) (Q : β → Prop) : Prop := ∀ o, ∃ r, F o = some r ∧ Q r
section
variable {α β : Type} {Q : β → Prop}
theorem AllO.mono {F : Orc → Option β} {Q' : β → Prop} (h : AllO F Q) (k : ∀ r, Q r → Q' r) : AllO F Q' := fun o => by obtain ⟨r, h1, h2⟩ := h o; exact ⟨r, h1, k r h2⟩
theorem AllO.done {d : β} (h : AllO (fun _ => some d) Q) : Q d := by
  obtain ⟨r, h1, h2⟩ := h (fun _ => 0)
  injection h1 with h1
  subst h1; exact h2
theorem AllO.bind {A : Option α} {B : α → Orc → Option β} (h : AllO (fun o => A.bind fun x => B x o) Q) : ∃ x, A = some x ∧ AllO (B x) Q := by
  cases A with
  | none => obtain ⟨r, h1, _⟩ := h (fun _ => 0); cases h1
  | some x => exact ⟨x, rfl, h⟩
theorem AllO.iteT {c : Prop} [Decidable c] {A B : Orc → Option β} (hc : c) (h : AllO (fun o => if c then A o else B o) Q) : AllO A Q := by
  simpa only [if_pos hc] using h
theorem AllO.iteF {c : Prop} [Decidable c] {A B : Orc → Option β} (hc : ¬ c) (h : AllO (fun o => if c then A o else B o) Q) : AllO B Q := by
  simpa only [if_neg hc] using h
theorem AllO.bindO {A : Orc → Option α} {B : α → Orc → Option β} (h : AllO (fun o => (A (o.sub 0)).bind fun x => B x (o.sub 1)) Q) : AllO A (fun x => AllO (B x) Q) := by
  intro o
  cases k : A o with
  | none =>
    obtain ⟨r, h1, _⟩ := h (Orc.mk 0 o o)
    simp only [Orc.mk_sub0, k] at h1
    cases h1
  | some x =>
    refine ⟨x, rfl, fun o' => ?_⟩
    obtain ⟨r, h1, h2⟩ := h (Orc.mk 0 o o')
    simp only [Orc.mk_sub0, Orc.mk_sub1, k, Option.bind_some] at h1
    exact ⟨r, h1, h2⟩
end
theorem erase_perm {α : Type} : ∀ (l : List α) (i : Nat) (h : i < l.length), (l[i] :: l.eraseIdx i).Perm l
  | a :: l, 0, _ => List.Perm.refl _
  | a :: l, i + 1, h => by
    simp only [List.getElem_cons_succ, List.eraseIdx_cons_succ]
    exact (List.Perm.swap _ _ _).trans ((erase_perm l i (by simpa using h)).cons a)
def rngO {α σ : Type} (f : α → σ → Orc → Option σ) : Nat → List α → σ → Orc → Option σ
  | 0, _, st, _ => some st
  | n + 1, left, st, o => match left[o [] % left.length]? with
    | none => some st
    | some x => (f x st (o.sub 0)).bind fun st' => rngO f n (left.eraseIdx (o [] % left.length)) st' (o.sub 1)
theorem rngO_end {α σ : Type} {f : α → σ → Orc → Option σ} {n : Nat} {st : σ} {Q : σ → Prop} (h : AllO (rngO f n [] st) Q) : Q st := by
  cases n with
  | zero => exact AllO.done h
  | succ n =>
    have : rngO f (n + 1) [] st = fun _ => some st := by funext o; simp [rngO]
    rw [this] at h
    exact AllO.done h
theorem rngO_next {α σ : Type} {f : α → σ → Orc → Option σ} {n : Nat} {left left' : List α} {x : α} {st : σ} {Q : σ → Prop} (hn : left.length ≤ n) (hp : left.Perm (x :: left')) (h : AllO (rngO f n left st) Q) :
    ∃ n' left'', left''.Perm left' ∧ left''.length ≤ n' ∧ n = n' + 1 ∧ AllO (f x st) (fun st' => AllO (rngO f n' left'' st') Q) := by
  have hx : x ∈ left := hp.mem_iff.2 (List.mem_cons_self ..)
  obtain ⟨i, hi, rfl⟩ := List.getElem_of_mem hx
  obtain ⟨n', rfl⟩ : ∃ n', n = n' + 1 := ⟨n - 1, by omega⟩
  have hp2 : (left.eraseIdx i).Perm left' := by
    have h1 : left.Perm (left[i] :: left.eraseIdx i) := (erase_perm left _ hi).symm
    exact (List.perm_cons _).1 (h1.symm.trans hp)
  refine ⟨n', left.eraseIdx i, hp2, by rw [List.length_eraseIdx_of_lt hi]; omega, rfl, ?_⟩
  have h2 : AllO (fun o => (f left[i] st (o.sub 0)).bind fun st' => rngO f n' (left.eraseIdx i) st' (o.sub 1)) Q := by
    intro o
    obtain ⟨r, h3, h4⟩ := h (Orc.mk i (o.sub 0) (o.sub 1))
    refine ⟨r, ?_, h4⟩
    have e : (Orc.mk i (o.sub 0) (o.sub 1)) [] % left.length = i := Nat.mod_eq_of_lt hi
    rw [rngO, e, List.getElem?_eq_getElem hi] at h3
    exact h3
  exact AllO.bindO h2
open Classical in
noncomputable def same {β : Type} (F : Orc → Option β) : Option β := if h : ∃ r, ∀ o, F o = some r then some (Classical.choose h) else none
theorem same_some {β : Type} {F : Orc → Option β} {r : β} (h : same F = some r) : AllO F (fun x => x = r) := by
  unfold same at h
  split at h
  · rename_i k
    injection h with h
    intro o
    exact ⟨_, Classical.choose_spec k o, h⟩
  · cases h
theorem same_of {β : Type} {F : Orc → Option β} {r : β} (h : ∀ o, F o = some r) : same F = some r := by
  unfold same
  have k : ∃ r, ∀ o, F o = some r := ⟨r, h⟩
  rw [dif_pos k]
  have := Classical.choose_spec k (fun _ => 0)
  rw [h] at this
  exact this.symm
def bindO {α β : Type} (A : Orc → Option α) (B : α → Orc → Option β) : Orc → Option β := fun o => (A (o.sub 0)).bind fun x => B x (o.sub 1)
section
variable {α β σ : Type} {Q : β → Prop}
theorem AllO.bindP {A : Orc → Option α} {B : α → Orc → Option β} (h : AllO (Fp.bindO A B) Q) : ∃ q : α → Prop, AllO A q ∧ ∀ x, q x → AllO (B x) Q := ⟨_, AllO.bindO h, fun _ h => h⟩
theorem AllO.bnd {a : α} {B : α → Orc → Option β} (h : AllO (fun o => Fp.bnd a fun x => B x o) Q) : ∃ x, a = x ∧ AllO (B x) Q := ⟨a, rfl, h⟩
theorem AllO.T {c : Bool} {A B : Orc → Option β} (hc : c = true) (h : AllO (fun o => if c = true then A o else B o) Q) : AllO A Q := AllO.iteT hc h
theorem AllO.F {c : Bool} {A B : Orc → Option β} (hc : c = false) (h : AllO (fun o => if c = true then A o else B o) Q) : AllO B Q := AllO.iteF (by rw [hc]; decide) h
theorem AllO.no (h : AllO (fun _ => (none : Option β)) Q) : False := by obtain ⟨r, h1, _⟩ := h (fun _ => 0); cases h1
def cntO {σ : Type} (f : Nat → σ → Orc → Option σ) : Nat → Nat → σ → Orc → Option σ
  | 0, _, st, _ => some st
  | n + 1, k, st, o => (f k st (o.sub 0)).bind fun st' => cntO f n (k + 1) st' (o.sub 1)
theorem cntO_end {f : Nat → σ → Orc → Option σ} {k : Nat} {st : σ} {Q : σ → Prop} (h : AllO (cntO f 0 k st) Q) : Q st := AllO.done h
theorem cntO_step {f : Nat → σ → Orc → Option σ} {n k : Nat} {st : σ} {Q : σ → Prop} (h : AllO (cntO f (n + 1) k st) Q) : ∃ q : σ → Prop, AllO (f k st) q ∧ ∀ st', q st' → AllO (cntO f n (k + 1) st') Q :=
  ⟨_, AllO.bindO (A := f k st) (B := fun st' => cntO f n (k + 1) st') h, fun _ h => h⟩
theorem rngO_step {f : α → σ → Orc → Option σ} {n : Nat} {left left' : List α} {x : α} {st : σ} {Q : σ → Prop} (hn : left.length ≤ n) (hp : left.Perm (x :: left')) (h : AllO (rngO f n left st) Q) :
    ∃ (n' : Nat) (left'' : List α) (q : σ → Prop), left''.Perm left' ∧ left''.length ≤ n' ∧ left''.length < left.length ∧ AllO (f x st) q ∧ ∀ st', q st' → AllO (rngO f n' left'' st') Q := by
  obtain ⟨n', left'', h1, h2, h3, h4⟩ := rngO_next hn hp h
  refine ⟨n', left'', _, h1, h2, ?_, h4, fun _ h => h⟩
  rw [hp.length_eq, h1.length_eq]
  simp
end
end Go.Fp
