/- Delete: the upper part of a slice of the call's own moved down in its place, and what then lies behind its length cleared. No condition. -/
import Derived.Test.YthllfhmpjclplaaGreatDoorFpCopy
import Derived.IntWalk
open Nat renaming eq_of_beq_eq_true → b2r, mul_le_mul_right → b2x
open Array renaming length_toList → b3n
namespace Go.Fp
open Go
theorem a4H {p p' : HP} : ∀ {R : List HP} {i : Nat}, R[i]? = some p → (p' :: R.eraseIdx i).Perm (R.set i p')
  | [], i, h => by simp at h
  | x :: R, 0, _ => List.Perm.refl _
  | x :: R, i + 1, h => by simp at h; exact (List.Perm.swap _ _ _).trans ((a4H h).cons x)
theorem a4u {p : HP} : ∀ {R : List HP} {i : Nat}, R[i]? = some p → R.set i p = R
  | [], i, h => by simp at h
  | x :: R, 0, h => by simp at h; subst h; rfl
  | x :: R, i + 1, h => by simp at h; simp only [List.set_cons_succ, a4u h]
theorem Sl.cutA {α : Type} {es : Nat} {Rr : Rd α} {s : Sg} {a : Option Addr} {c : Nat} {l r : List α} {lo hi : Int} (q : Sl es Rr s a c l) (h : a2M l lo hi = some r) : Sl es Rr s (cutA a c lo.toNat es) (c - lo.toNat) r := by
  obtain ⟨a2, c2, e, q2⟩ := q.cut h
  rw [a3U] at e
  injection e with e1 e2 e3
  rw [e1, e3]; exact q2
section
variable {P : Program} {K : Kt} {a : Act} {w : World} {s : Sg} {R : List HP} {n : Nat} {E : Env} {ops : Array Oper} {rest : List Oper} {d : Option Tmp} {ty : TypeId} {pos : String} {aft : Array Edge} {g : Option (Nat × Bool)}
variable {α : Type} {Rr : Rd α}
theorem A6.cap {C : World → Prop} (hE : Rep a n E) {t e es : TypeId} {x : Operand} {sa : Option Addr} {m c : Nat}
    (hx : E.ev x = some (.slice sa m c)) (ht : a0q P t e es = true) : A6 P C a ⟨d, .call ⟨.builtin .cap, #[x], #[t]⟩, ty, pos, aft, g⟩ (.int .i64 c) := by
  intro w _
  have hu2 : P.underlying t = some (.slice (P.elem t)) := by unfold Program.elem; rw [a0q.und ht]
  simp [execOp, resolve, invoke, builtin, hE.ev hx, run_cap_slice w t ty sa m c hu2, goInt]
def a8R (P : Program) (t e es : Nat) : Bool :=
  match P.underlying t, P.info? e with
  | some (.slice e'), some i => Nat.beq e' e && Nat.beq i.size es && (match i.zero with | some z => Nat.beq z.cells.size es && z.cells.toList.all (fun v => v.oneCell') | none => false) && Nat.blt 0 es
  | _, _ => false
theorem a8R.get {P : Program} {t e es : Nat} (h : a8R P t e es = true) : P.underlying t = some (.slice e) ∧ ∃ i z, P.info? e = some i ∧ i.size = es ∧ i.zero = some z ∧ z.cells.size = es ∧ (∀ v ∈ z.cells.toList, v.oneCell' = true) ∧ 0 < es := by
  unfold a8R at h
  split at h
  · rename_i e' i hu hi
    simp only [Bool.and_eq_true] at h
    obtain ⟨⟨⟨h1, h2⟩, h4⟩, h5⟩ := h
    split at h4
    · rename_i z hz
      simp only [Bool.and_eq_true] at h4
      refine ⟨by rw [hu, b2r h1], i, z, hi, b2r h2, hz, b2r h4.1, fun v hv => List.all_eq_true.1 h4.2 v hv, by simp [Nat.blt] at h5; omega⟩
    · cases h4
  · cases h
theorem a2O {z : Array Value} {m : Nat} (hz : 0 < z.size) (h : ∀ v ∈ z.toList, v.oneCell' = true) : ∀ v ∈ (Builtin.zeroCells z m).toList, v.oneCell' = true := by
  intro v hv
  simp only [Builtin.zeroCells, Array.toList_map, List.mem_map] at hv
  obtain ⟨k, _, rfl⟩ := hv
  have hk : k % z.size < z.size := Nat.mod_lt _ hz
  rw [getElem!_pos z _ hk]
  exact h _ (Array.getElem_mem_toList hk)
theorem WL.clrS (hE : Rep a n E) (hS : St w s R) (i : Nat) {t e es c m lo hi : Nat} {sa : Option Addr} {cs : List Value} {x : Operand}
    (hg : Region.wanted ⟨d, .call ⟨.builtin .clear, #[x], #[t]⟩, ty, pos, aft, g⟩ (yielded ops a.tmps) = true) (ht : a8R P t e es = true)
    (hx : E.ev x = some (sliced sa lo hi c es)) (hr : R[i]? = some (B2 e es sa c m cs)) (h1 : m ≤ lo) (h2 : lo ≤ hi) (h3 : hi ≤ c) (hd : J5 d n = true)
    (q : ∀ a w, Rep a n (E.put d (.tuple #[])) → St w s R → WL P ops K rest a w) :
    WL P ops K (⟨d, .call ⟨.builtin .clear, #[x], #[t]⟩, ty, pos, aft, g⟩ :: rest) a w := by
  obtain ⟨hu, inf, z, hi', hsz, hz, hzs, hone, hes⟩ := a8R.get ht
  subst hsz
  unfold sliced at hx
  rcases Nat.eq_zero_or_pos (hi - lo) with h0 | h0
  · rw [h0] at hx
    refine WL.step hg ?_ (q _ w (hE.puts hd _) hS)
    have : ∀ (b : Option Addr) (k : Nat), (Builtin.clear_ #[t] ty #[.slice b 0 k]).run P w = .ok (.tuple #[]) w := by
      intro b k
      cases b <;> simp [Builtin.clear_, run_underlying hu]
    simp only [execOp, resolve, invoke, builtin]
    simp [hE.ev hx, this]
  · rcases hS.vec i hr with ⟨hcl, ⟨_, hn, hc⟩ | ⟨b, o, cur, e1, e2, e3, e4, e5, e6, h⟩⟩
    · omega
    · subst e1
      rw [if_neg (by omega)] at hx
      have hzl : (Builtin.zeroCells z.cells (hi - lo)).toList.length = (hi - lo) * inf.size := by rw [b3n, size_zeroCells, hzs]
      have hle : (hi - lo) * inf.size + lo * inf.size ≤ c * inf.size := by rw [← Nat.add_mul]; exact b2x _ (by omega)
      have hml : m * inf.size ≤ lo * inf.size := b2x _ h1
      have hst := run_storeCells_at P b (o + lo * inf.size) e (Builtin.zeroCells z.cells (hi - lo)).toList 0 cur w e2 (by omega) (a2O (by omega) hone)
      simp only [Nat.add_zero] at hst
      have hput := h.put (w' := w.setRow b (cur.toList.take (o + lo * inf.size) ++ (Builtin.zeroCells z.cells (hi - lo)).toList ++ cur.toList.drop (o + lo * inf.size + (Builtin.zeroCells z.cells (hi - lo)).toList.length)).toArray) (setRow_heap w b cur _ e _ e2)
        (fun k hk => by simp [World.setRow, Array.getElem?_modify, Ne.symm hk]) rfl rfl
      have hS2 : St (w.setRow b (cur.toList.take (o + lo * inf.size) ++ (Builtin.zeroCells z.cells (hi - lo)).toList ++ cur.toList.drop (o + lo * inf.size + (Builtin.zeroCells z.cells (hi - lo)).toList.length)).toArray) s (B2 e inf.size (some ⟨b, o, none⟩) c m cs :: R.eraseIdx i) := by
        refine hput.head fun hh q => ⟨hcl, .inr ⟨b, o, _, rfl, q, e3, e4, ?_, ?_⟩⟩
        · simp only [List.size_toArray, List.length_append, List.length_take, List.length_drop, b3n]
          rw [← b3n (xs := Builtin.zeroCells z.cells (hi - lo)), hzl]; omega
        · rw [List.toList_toArray, List.append_assoc, List.drop_append_of_le_length (by simp; omega), List.take_append_of_le_length (by simp; omega), List.drop_take, List.take_take, Nat.min_eq_left (by omega)]
          exact e6
      have hrun : (Builtin.clear_ #[t] ty #[.slice (some ⟨b, o + lo * inf.size, none⟩) (hi - lo) (c - lo)]).run P w = .ok (.tuple #[]) (w.setRow b (cur.toList.take (o + lo * inf.size) ++ (Builtin.zeroCells z.cells (hi - lo)).toList ++ cur.toList.drop (o + lo * inf.size + (Builtin.zeroCells z.cells (hi - lo)).toList.length)).toArray) := by
        have hzv : (zeroValue e).run P w = .ok z w := by simp [zeroValue, typeInfo, hi', hz]
        obtain ⟨k, hk⟩ : ∃ k, hi - lo = k + 1 := ⟨hi - lo - 1, by omega⟩
        rw [hk] at hst ⊢
        simp [Builtin.clear_, run_underlying hu, hzv, hst]
      have hback := hS2.perm (a4H hr)
      rw [a4u hr] at hback
      refine WL.step hg ?_ (q _ _ (hE.puts hd _) hback)
      simp only [execOp, resolve, invoke, builtin]
      simp [hE.ev hx, Addr.add_here, hrun]
end
end Go.Fp
