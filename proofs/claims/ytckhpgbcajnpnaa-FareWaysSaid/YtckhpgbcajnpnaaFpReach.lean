/- What the reach of the arguments gives: bounds on the bytes of the slices of what they read as. No condition. -/
import Derived.Test.YtckhpgbcajnpnaaFpOpen
namespace Go.Fp
open Go

theorem weightsAll_mem {H : Type} {P : Program} {e : TypeId} {d : DataW H} {k : Nat} : ∀ {l : List (DataW H)}, d ∈ l → k ∈ d.weights P e → k ∈ DataW.weightsAll P e l
  | x :: l, hd, hk => by
    rw [DataW.weightsAll, List.mem_append]
    rcases List.mem_cons.1 hd with rfl | hd
    · exact .inl hk
    · exact .inr (weightsAll_mem hd hk)

/-- what is read within the reach reads as R and keeps Rc -/
def OpensW {α : Type} (P : Program) (W : World) (t : TypeId) (R : Rd α) (Rc : α → Prop) : Prop :=
  ∀ (H : Type) (enc : TypeId × Value → H) (fuel : Nat) (cs : List Value) (x : DataW H × List MemPlace), DataW.trod enc P W 0 (fun _ => true) true fuel t cs = some x → (∀ k ∈ x.1.weights P t, k ≤ reachBytes) → ∃ v, R (s0 W) cs v ∧ Rc v

theorem OpensW.of {α : Type} {P : Program} {W : World} {t : TypeId} {R : Rd α} (h : Opens P W t R) : OpensW P W t R (fun _ => True) := by
  intro H enc fuel cs x hx _
  obtain ⟨v, hv⟩ := h H enc fuel cs x hx
  exact ⟨v, hv, trivial⟩

theorem OpensW.slice {α : Type} {P : Program} {W : World} {t e : TypeId} {R : Rd α} {es kk : Nat} {Rc : α → Prop} (hu : P.underlying t = some (.slice e)) (hes : P.cellsOf e = es) (h0 : 0 < es) (hk : P.bytesOf e = kk) (he : OpensW P W e R Rc) :
    OpensW P W t (RL es R) (fun l => l.length * kk ≤ reachBytes ∧ ∀ x ∈ l, Rc x) := by
  intro H enc fuel cs x h hw
  rcases DataW.trod_slice hu h with ⟨rfl, rfl⟩ | ⟨a, len, cap, elems, rest, n, hfn, rfl, hx, _, hl, hm, hlen, hel, hsp, _⟩
  · exact ⟨[], ⟨none, 0, rfl, Sl.nil⟩, by simp, by simp⟩
  · subst hes
    subst hk
    obtain ⟨hrl, hr⟩ := hsp rfl
    rw [hx, DataW.weights, hu] at hw
    dsimp only at hw
    have hw0 := hw _ (List.mem_cons_self ..)
    have hw1 : ∀ y ∈ elems, ∀ k ∈ y.1.weights P e, k ≤ reachBytes := fun y hy k hk => by
      refine hw k (List.mem_cons_of_mem _ (List.mem_append_left _ (weightsAll_mem (List.mem_map_of_mem hy) hk)))
    rcases Nat.eq_zero_or_pos cap with hc | hc
    · have h1 : len = 0 := by omega
      subst h1
      exact ⟨[], ⟨some a, cap, rfl, by simp, hm, .inr hc, fun k x h => by simp at h⟩, by simp, by simp⟩
    · have hspot : a.spot = none := by
        have h1 : ∃ y, (W.cells? 0 (a.add (0 * P.cellsOf e)) (P.cellsOf e)).bind (DataW.trod enc P W 0 (fun _ => true) true n e) = some y := by
          rcases Nat.eq_zero_or_pos len with hz | hz
          · have h2 := hr 0 (by omega)
            rw [hz] at h2
            exact ⟨_, h2.trans (List.getElem?_eq_getElem (by omega))⟩
          · exact ⟨_, (hel 0 hz).trans (List.getElem?_eq_getElem (by omega))⟩
        obtain ⟨y, hy⟩ := h1
        rw [Option.bind_eq_some_iff] at hy
        obtain ⟨cs, h3, _⟩ := hy
        obtain ⟨_, h6, h7⟩ := World.cells?_some h3
        have h8 := h7 0 h0
        rw [List.getElem?_eq_getElem (by omega)] at h8
        simp only [Addr.add, Nat.zero_mul, if_true] at h8
        unfold World.cell? at h8
        split at h8
        · split at h8
          · cases h8
          · rename_i hs; simpa using hs
        · cases h8
      obtain ⟨b, o, sp⟩ := a
      simp only at hspot
      subst hspot
      have each : ∀ i, i < len → ∃ v, (∃ cs, cs.length = P.cellsOf e ∧ (s0 W).At b (o + i * P.cellsOf e) cs ∧ R (s0 W) cs v) ∧ Rc v := by
        intro i hi
        have h1 := hel i hi
        rw [List.getElem?_eq_getElem (by omega), Option.bind_eq_some_iff] at h1
        obtain ⟨cs, h3, h4⟩ := h1
        obtain ⟨v, hv, hz⟩ := he H enc n cs _ h4 (hw1 _ (List.getElem_mem ..))
        rw [Addr.add_here] at h3
        obtain ⟨q1, q2⟩ := cells_at h0 h3
        exact ⟨v, ⟨cs, q1, q2, hv⟩, hz⟩
      obtain ⟨l, hl1, hl2⟩ := choose_list len each
      refine ⟨l, ⟨some ⟨b, o, none⟩, cap, by rw [hl1], by omega, hm, .inl ⟨b, o, rfl⟩, ?_⟩, ?_, ?_⟩
      · intro k v hk
        obtain ⟨⟨cs, q1, q2, q3⟩, _⟩ := hl2 k v hk
        exact ⟨cs, q1, by simpa [ab, ao] using q2, q3⟩
      · refine Nat.le_trans (Nat.mul_le_mul_right _ ?_) hw0
        rw [List.length_map]
        omega
      · intro v hv
        obtain ⟨i, hi⟩ := List.getElem?_of_mem hv
        exact (hl2 i v hi).2

theorem arg_sliceW {α : Type} {P : Program} {W : World} {r : Reach} {b t e es : Nat} {v : Value} {R : Rd α} {Rc : List α → Prop} {H : Type} {enc : TypeId × Value → H} {d : DataW H} {ps : List MemPlace} (hu : P.underlying t = some (.slice e)) (ho : OpensW P W t (RL es R) Rc)
    (hval : Value.okWide P W r b t v) (h : DataW.Trod enc P W 0 (fun _ => true) true t v d ps) (hw : ∀ k ∈ d.weights P t, k ≤ reachBytes) : ∃ a c l, v = .slice a l.length c ∧ Sl es R (s0 W) a c l ∧ Rc l := by
  obtain ⟨a, n, c, rfl⟩ := okWide_slice hu hval
  obtain ⟨fuel, hf⟩ := h
  obtain ⟨l, ⟨a', c', e1, hs⟩, hz⟩ := ho H enc fuel _ _ hf hw
  have e2 : [Value.slice a n c] = [.slice a' l.length c'] := e1
  injection e2 with e2
  exact ⟨a', c', l, e2, hs, hz⟩
theorem weights_two {H : Type} {P : Program} {t0 t1 : TypeId} {d0 d1 : DataW H} (h : (DataW.weightsEach P [t0, t1] [d0, d1]).all (· ≤ reachBytes) = true) : (∀ k ∈ d0.weights P t0, k ≤ reachBytes) ∧ ∀ k ∈ d1.weights P t1, k ≤ reachBytes := by
  rw [DataW.weightsEach, DataW.weightsEach, List.all_eq_true] at h
  exact ⟨fun k hk => by simpa using h k (List.mem_append_left _ hk), fun k hk => by simpa using h k (List.mem_append_right _ (List.mem_append_left _ hk))⟩
theorem weights_head {H : Type} {P : Program} {t0 : TypeId} {ts : List TypeId} {d0 : DataW H} {ds : List (DataW H)} (h : (DataW.weightsEach P (t0 :: ts) (d0 :: ds)).all (· ≤ reachBytes) = true) : ∀ k ∈ d0.weights P t0, k ≤ reachBytes := by
  rw [DataW.weightsEach, List.all_eq_true] at h
  exact fun k hk => by simpa using h k (List.mem_append_left _ hk)
end Go.Fp
