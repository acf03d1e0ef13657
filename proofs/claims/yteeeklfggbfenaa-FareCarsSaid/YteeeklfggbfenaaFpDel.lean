/- Delete: the upper part of a slice of the call's own moved down in its place, and what then lies behind its length cleared. No condition. -/
import Derived.Test.YteeeklfggbfenaaFpCopy
import Derived.IntWalk
namespace Go.Fp
open Go

theorem set_perm {p p' : HP} : ∀ {R : List HP} {i : Nat}, R[i]? = some p → (p' :: R.eraseIdx i).Perm (R.set i p')
  | [], i, h => by simp at h
  | x :: R, 0, _ => List.Perm.refl _
  | x :: R, i + 1, h => by simp at h; exact (List.Perm.swap _ _ _).trans ((set_perm h).cons x)
theorem set_same {p : HP} : ∀ {R : List HP} {i : Nat}, R[i]? = some p → R.set i p = R
  | [], i, h => by simp at h
  | x :: R, 0, h => by simp at h; subst h; rfl
  | x :: R, i + 1, h => by simp at h; simp only [List.set_cons_succ, set_same h]
/-- a cut of what stays, at its place -/
theorem Sl.cutA {α : Type} {es : Nat} {Rr : Rd α} {s : Sg} {a : Option Addr} {c : Nat} {l r : List α} {lo hi : Int} (q : Sl es Rr s a c l) (h : cutl l lo hi = some r) : Sl es Rr s (cutA a c lo.toNat es) (c - lo.toNat) r := by
  obtain ⟨a2, c2, e, q2⟩ := q.cut h
  rw [cutA_sliced] at e
  injection e with e1 e2 e3
  rw [e1, e3]; exact q2
theorem cutA_val {α : Type} {l r : List α} {lo hi : Int} (h : cutl l lo hi = some r) (a : Option Addr) (c es : Nat) : sliced a lo.toNat hi.toNat c es = .slice (cutA a c lo.toNat es) r.length (c - lo.toNat) := by
  obtain ⟨h0, h1, h2, rfl, h3, h4⟩ := cutl_some h
  rw [cutA_sliced]
  congr 1
  simp; omega
section
variable {P : Program} {K : Kt} {a : Act} {w : World} {s : Sg} {R : List HP} {n : Nat} {E : Env} {ops : Array Oper} {rest : List Oper} {d : Option Tmp} {ty : TypeId} {pos : String} {aft : Array Edge} {g : Option (Nat × Bool)}
variable {α : Type} {Rr : Rd α}

theorem Gives.slLHM {C : World → Prop} (hE : Rep a n E) {t e es : Nat} {x y z u : Operand} {sa : Option Addr} {m c : Nat} {kl kh km : IntKind} {lo hi mx : Int} {v : Value} (ht : slOk P t e es = true)
    (hx : E.ev x = some (.slice sa m c)) (hy : E.ev y = some (.int kl lo)) (hz : E.ev z = some (.int kh hi)) (hu : E.ev u = some (.int km mx)) (h0 : 0 ≤ lo) (h1 : lo ≤ hi) (h2 : hi ≤ mx) (h3 : mx ≤ c) (hv : sliced sa lo.toNat hi.toNat mx.toNat es = v) :
    Gives P C a ⟨d, .slice t x (some y) (some z) (some u), ty, pos, aft, g⟩ v := by
  intro w _
  subst hv
  have hu2 : P.underlying t = some (.slice (P.elem t)) := by unfold Program.elem; rw [slOk.und ht]
  have he : P.elem t = e := by unfold Program.elem; rw [slOk.und ht]
  simp [execOp, hE.ev hx, hE.ev hy, hE.ev hz, hE.ev hu, run_sliceAt_slice _ t _ _ _ _ hu2, run_slice_lhm w t sa m c hu2 kl kh km lo hi mx h0 h1 h2 h3, he, slOk.size ht]

theorem Gives.cap {C : World → Prop} (hE : Rep a n E) {t e es : TypeId} {x : Operand} {sa : Option Addr} {m c : Nat}
    (hx : E.ev x = some (.slice sa m c)) (ht : slOk P t e es = true) : Gives P C a ⟨d, .call ⟨.builtin .cap, #[x], #[t]⟩, ty, pos, aft, g⟩ (.int .i64 c) := by
  intro w _
  have hu2 : P.underlying t = some (.slice (P.elem t)) := by unfold Program.elem; rw [slOk.und ht]
  simp [execOp, resolve, invoke, builtin, hE.ev hx, run_cap_slice w t ty sa m c hu2, goInt]

/-- append(x[:lo], x[j:]...) -/
theorem WL.del (hE : Rep a n E) (hS : St w s R) (i : Nat) {t e es c m lo j : Nat} {sa : Option Addr} {cs : List Value} {l : List α} {x y : Operand}
    (hg : Region.wanted ⟨d, .call ⟨.builtin .append, #[x, y], #[t, t]⟩, ty, pos, aft, g⟩ (yielded ops a.tmps) = true) (ht : apOk P t e es = true)
    (hx : E.ev x = some (sliced sa 0 lo c es)) (hy : E.ev y = some (sliced sa j m c es)) (hr : R[i]? = some (vecC e es sa c m cs)) (h1 : lo ≤ j) (h2 : j ≤ m) (hv : Ev es Rr s cs l) (hn : l.length = m)
    (hR : Rone Rr) {r : List α} (hrr : l.take lo ++ l.drop j = r) (hd : dstOk d n = true)
    (q : ∀ cs2 a w, Ev es Rr s cs2 r → Rep a n (E.put d (.slice sa r.length c)) → St w s (R.set i (vecC e es sa c r.length cs2)) → WL P ops K rest a w) :
    WL P ops K (⟨d, .call ⟨.builtin .append, #[x, y], #[t, t]⟩, ty, pos, aft, g⟩ :: rest) a w := by
  subst hn
  subst hrr
  have hcap := hS.vecCap i hr
  have hlen : (l.take lo ++ l.drop j).length = lo + (l.length - j) := by simp; omega
  have hv2 := (hv.take lo).append (hv.drop j)
  rw [sliced_zero] at hx
  unfold sliced at hy
  rw [hlen] at q
  rcases Nat.lt_or_ge j l.length with hj | hj
  · obtain ⟨b, o, rfl⟩ : aok sa := hS.vecAok i hr hj
    rw [if_neg (by omega)] at hy
    have hone := hv.allOne hR
    have hnl : (cs.drop (j * es)).length = (l.length - j) * es := by rw [(hv.drop j).len, List.length_drop]
    rcases hS.vec i hr with ⟨hcl, ⟨h0, _, _⟩ | ⟨b', o', cur, e1, e2, e3, e4, e5, e6, h⟩⟩
    · cases h0
    · injection e1 with e1; injection e1 with e1 e1'; subst e1; subst e1'
      obtain ⟨hu, inf, z, hi, hsz, hby, hz, hzs, hes⟩ := apOk.get ht
      subst hsz
      have hnews : ∀ k v, (cs.drop (j * inf.size))[k]? = some v → w.cell? ((⟨b, o + j * inf.size, none⟩ : Addr).add k) = some v := by
        intro k v hk
        rw [Addr.add_here]
        have := hS.vecSees i hr (j * inf.size) (cs.drop (j * inf.size)) (fun k v hk => by rw [List.getElem?_drop] at hk; exact hk) k v hk
        simpa [ab, ao] using this
      have h1' : ∀ u ∈ cs.drop (j * inf.size), u.oneCell' = true := fun u hu => List.all_eq_true.1 hone u (List.mem_of_mem_drop hu)
      have hfit0 : lo * inf.size + (cs.drop (j * inf.size)).length ≤ l.length * inf.size := by
        rw [hnl, ← Nat.add_mul]; exact Nat.mul_le_mul_right _ (by omega)
      have hfit : o + lo * inf.size + (cs.drop (j * inf.size)).length ≤ cur.size := by
        have := Nat.mul_le_mul_right inf.size e3; omega
      have hrun := run_append_roomO (P := P) t ty e inf hu hi b o lo c cur _ e2 ⟨b, o + j * inf.size, none⟩ (l.length - j) (c - j) (cs.drop (j * inf.size)) hnl hnews h1' (by omega) hfit
      have hput := h.put (w' := w.setRow b (cur.toList.take (o + lo * inf.size) ++ cs.drop (j * inf.size) ++ cur.toList.drop (o + lo * inf.size + (cs.drop (j * inf.size)).length)).toArray) (setRow_heap w b cur _ e _ e2)
        (fun k hk => by simp [World.setRow, Array.getElem?_modify, Ne.symm hk]) rfl rfl
      have hcur : o + l.length * inf.size ≤ cur.toList.length := by
        have := Nat.mul_le_mul_right inf.size e3; have := Array.length_toList (xs := cur); omega
      have hS2 : St (w.setRow b (cur.toList.take (o + lo * inf.size) ++ cs.drop (j * inf.size) ++ cur.toList.drop (o + lo * inf.size + (cs.drop (j * inf.size)).length)).toArray) s (vecC e inf.size (some ⟨b, o, none⟩) c (lo + (l.length - j)) (cs.take (lo * inf.size) ++ cs.drop (j * inf.size)) :: R.eraseIdx i) := by
        refine hput.head fun hh q => ⟨?_, .inr ⟨b, o, _, rfl, q, by omega, e4, ?_, ?_⟩⟩
        · rw [← hlen]; exact hv2.len
        · simp only [List.size_toArray, List.length_append, List.length_take, Array.length_toList]
          rw [List.length_drop (l := cur.toList)]; have := Array.length_toList (xs := cur); omega
        · rw [List.toList_toArray]
          have := put_mid cur.toList o (lo * inf.size) (l.length * inf.size) (cs.drop (j * inf.size)) cs e6 hfit0 hcur
          have h3 := congrArg (List.take ((lo + (l.length - j)) * inf.size)) this
          have hle : (lo + (l.length - j)) * inf.size ≤ l.length * inf.size := Nat.mul_le_mul_right _ (by omega)
          rw [List.take_take, Nat.min_eq_left hle] at h3
          rw [h3, ← hlen, ← hv2.len]
          exact List.take_left
      refine WL.step hg ?_ (q _ _ _ hv2 (hE.puts hd _) (hS2.perm (set_perm hr)))
      simp only [execOp, resolve, invoke, builtin]
      simp [hE.ev hx, hE.ev hy, Addr.add_here, hrun]
  · have hjl : j = l.length := by omega
    subst hjl
    have hz : l.length - l.length = 0 := by omega
    rw [hz] at hy q
    have hrun := run_app0 (P := P) (w := w) (a := sa) (b := if c = l.length then sa else sa.map fun x => x.add (l.length * es)) (c' := c - l.length) (n := lo) (c := c) ty ht (by omega)
    have hS2 := hS.vecTake i hr (m := lo) (by omega)
    have e0 : List.drop (l.length * es) cs = [] := by rw [List.drop_eq_nil_iff, hv.len]; exact Nat.le_refl _
    rw [e0, List.append_nil] at hv2
    refine WL.step hg ?_ (q _ _ _ hv2 (hE.puts hd _) (by simpa using hS2))
    simp only [execOp, resolve, invoke, builtin]
    simp [hE.ev hx, hE.ev hy, hrun]

def clOk (P : Program) (t e es : Nat) : Bool :=
  match P.underlying t, P.info? e with
  | some (.slice e'), some i => Nat.beq e' e && Nat.beq i.size es && (match i.zero with | some z => Nat.beq z.cells.size es && z.cells.toList.all (fun v => v.oneCell') | none => false) && Nat.blt 0 es
  | _, _ => false
theorem clOk.get {P : Program} {t e es : Nat} (h : clOk P t e es = true) : P.underlying t = some (.slice e) ∧ ∃ i z, P.info? e = some i ∧ i.size = es ∧ i.zero = some z ∧ z.cells.size = es ∧ (∀ v ∈ z.cells.toList, v.oneCell' = true) ∧ 0 < es := by
  unfold clOk at h
  split at h
  · rename_i e' i hu hi
    simp only [Bool.and_eq_true] at h
    obtain ⟨⟨⟨h1, h2⟩, h4⟩, h5⟩ := h
    split at h4
    · rename_i z hz
      simp only [Bool.and_eq_true] at h4
      refine ⟨by rw [hu, Nat.eq_of_beq_eq_true h1], i, z, hi, Nat.eq_of_beq_eq_true h2, hz, Nat.eq_of_beq_eq_true h4.1, fun v hv => List.all_eq_true.1 h4.2 v hv, by simp [Nat.blt] at h5; omega⟩
    · cases h4
  · cases h

theorem zeroCells_one {z : Array Value} {m : Nat} (hz : 0 < z.size) (h : ∀ v ∈ z.toList, v.oneCell' = true) : ∀ v ∈ (Builtin.zeroCells z m).toList, v.oneCell' = true := by
  intro v hv
  simp only [Builtin.zeroCells, Array.toList_map, List.mem_map] at hv
  obtain ⟨k, _, rfl⟩ := hv
  have hk : k % z.size < z.size := Nat.mod_lt _ hz
  rw [getElem!_pos z _ hk]
  exact h _ (Array.getElem_mem_toList hk)

/-- clear(x[lo:hi]) behind the length of part i -/
theorem WL.clrS (hE : Rep a n E) (hS : St w s R) (i : Nat) {t e es c m lo hi : Nat} {sa : Option Addr} {cs : List Value} {x : Operand}
    (hg : Region.wanted ⟨d, .call ⟨.builtin .clear, #[x], #[t]⟩, ty, pos, aft, g⟩ (yielded ops a.tmps) = true) (ht : clOk P t e es = true)
    (hx : E.ev x = some (sliced sa lo hi c es)) (hr : R[i]? = some (vecC e es sa c m cs)) (h1 : m ≤ lo) (h2 : lo ≤ hi) (h3 : hi ≤ c) (hd : dstOk d n = true)
    (q : ∀ a w, Rep a n (E.put d (.tuple #[])) → St w s R → WL P ops K rest a w) :
    WL P ops K (⟨d, .call ⟨.builtin .clear, #[x], #[t]⟩, ty, pos, aft, g⟩ :: rest) a w := by
  obtain ⟨hu, inf, z, hi', hsz, hz, hzs, hone, hes⟩ := clOk.get ht
  subst hsz
  unfold sliced at hx
  rcases Nat.eq_zero_or_pos (hi - lo) with h0 | h0
  · rw [h0] at hx
    refine WL.step hg ?_ (q _ w (hE.puts hd _) hS)
    have : ∀ (b : Option Addr) (k : Nat), (Builtin.clear_ #[t] ty #[.slice b 0 k]).run P w = .ok (.tuple #[]) w := by
      intro b k
      cases b <;> simp [Builtin.clear_, run_underlying hu]
    simp only [execOp, resolve, invoke, builtin]
    simp [hE.ev hx, this]
  · rcases hS.vec i hr with ⟨hcl, ⟨_, hn, hc⟩ | ⟨b, o, cur, e1, e2, e3, e4, e5, e6, h⟩⟩
    · omega
    · subst e1
      rw [if_neg (by omega)] at hx
      have hzl : (Builtin.zeroCells z.cells (hi - lo)).toList.length = (hi - lo) * inf.size := by rw [Array.length_toList, size_zeroCells, hzs]
      have hle : (hi - lo) * inf.size + lo * inf.size ≤ c * inf.size := by rw [← Nat.add_mul]; exact Nat.mul_le_mul_right _ (by omega)
      have hml : m * inf.size ≤ lo * inf.size := Nat.mul_le_mul_right _ h1
      have hst := run_storeCells_at P b (o + lo * inf.size) e (Builtin.zeroCells z.cells (hi - lo)).toList 0 cur w e2 (by omega) (zeroCells_one (by omega) hone)
      simp only [Nat.add_zero] at hst
      have hput := h.put (w' := w.setRow b (cur.toList.take (o + lo * inf.size) ++ (Builtin.zeroCells z.cells (hi - lo)).toList ++ cur.toList.drop (o + lo * inf.size + (Builtin.zeroCells z.cells (hi - lo)).toList.length)).toArray) (setRow_heap w b cur _ e _ e2)
        (fun k hk => by simp [World.setRow, Array.getElem?_modify, Ne.symm hk]) rfl rfl
      have hS2 : St (w.setRow b (cur.toList.take (o + lo * inf.size) ++ (Builtin.zeroCells z.cells (hi - lo)).toList ++ cur.toList.drop (o + lo * inf.size + (Builtin.zeroCells z.cells (hi - lo)).toList.length)).toArray) s (vecC e inf.size (some ⟨b, o, none⟩) c m cs :: R.eraseIdx i) := by
        refine hput.head fun hh q => ⟨hcl, .inr ⟨b, o, _, rfl, q, e3, e4, ?_, ?_⟩⟩
        · simp only [List.size_toArray, List.length_append, List.length_take, List.length_drop, Array.length_toList]
          rw [← Array.length_toList (xs := Builtin.zeroCells z.cells (hi - lo)), hzl]; omega
        · rw [List.toList_toArray, List.append_assoc, List.drop_append_of_le_length (by simp; omega), List.take_append_of_le_length (by simp; omega), List.drop_take, List.take_take, Nat.min_eq_left (by omega)]
          exact e6
      have hrun : (Builtin.clear_ #[t] ty #[.slice (some ⟨b, o + lo * inf.size, none⟩) (hi - lo) (c - lo)]).run P w = .ok (.tuple #[]) (w.setRow b (cur.toList.take (o + lo * inf.size) ++ (Builtin.zeroCells z.cells (hi - lo)).toList ++ cur.toList.drop (o + lo * inf.size + (Builtin.zeroCells z.cells (hi - lo)).toList.length)).toArray) := by
        have hzv : (zeroValue e).run P w = .ok z w := by simp [zeroValue, typeInfo, hi', hz]
        obtain ⟨k, hk⟩ : ∃ k, hi - lo = k + 1 := ⟨hi - lo - 1, by omega⟩
        rw [hk] at hst ⊢
        simp [Builtin.clear_, run_underlying hu, hzv, hst]
      have hback := hS2.perm (set_perm hr)
      rw [set_same hr] at hback
      refine WL.step hg ?_ (q _ _ (hE.puts hd _) hback)
      simp only [execOp, resolve, invoke, builtin]
      simp [hE.ev hx, Addr.add_here, hrun]

/-- append(nil, make([]T, k)...) -/
theorem run_append_zeros (t u ty e : TypeId) {i : TypeInfo} {z : Value} (ht : P.underlying t = some (.slice e)) (hu : P.underlying u = some (.int .i64)) (hi : P.info? e = some i) (hz : i.zero = some z) {k : Int} (h0 : 0 < k) (hk : k < 4294967296) (hb : i.bytes ≤ 32768) (hs : 0 < i.size) :
    (Builtin.append_ #[t, u] ty #[.slice none 0 0, .int .i64 k]).run P w =
      .ok (.slice (some ⟨w.heap.size, 0, none⟩) k.toNat (grownCap w k.toNat 0 e)) (w.drew.alloc (.cells (Builtin.zeroCells z.cells k.toNat ++ Builtin.zeroCells z.cells (grownCap w k.toNat 0 e - k.toNat)) e)) := by
  have hn : k.toNat ≠ 0 := by omega
  have hbytes : k.toNat * i.bytes ≤ 140737488355328 := by
    have : k.toNat * i.bytes ≤ 4294967296 * 32768 := Nat.mul_le_mul (by omega) hb
    omega
  have hbi : ¬ (281474976710656 < k * (i.bytes : Int)) := by
    have e1 : ((k.toNat : Nat) : Int) = k := by omega
    have : ((k.toNat * i.bytes : Nat) : Int) ≤ 140737488355328 := by omega
    rw [Int.natCast_mul, e1] at this
    omega
  have hw : IntKind.i64.wrap k = k := IntWalk.i64_in k (by omega)
  have h48' : ¬ (281474976710656 < Builtin.nextslicecap k.toNat 0 * i.bytes) := by rw [nextslicecap_zero (by omega)]; omega
  have hneg : ¬ k < 0 := by omega
  have h1 : ¬ k ≤ 0 := by omega
  have h2 : ¬ 9223372036854775807 < max k 0 := by omega
  have h3 : k.toNat * i.size ≠ 0 := Nat.mul_ne_zero (by omega) (by omega)
  simp [Builtin.append_, run_underlying ht, run_underlying hu, sizeOf, typeInfo, zeroValue, hi, hz, h48', Question.forced, run_firstCells_none, newRow, grownCap, asInt, asIntOf, hw, hneg, hbi, h1, h2, h3]
theorem WL.appZ (hE : Rep a n E) (hS : St w s R) {t u e es : Nat} {x y : Operand} {k : Int}
    (hg : Region.wanted ⟨d, .call ⟨.builtin .append, #[x, y], #[t, u]⟩, ty, pos, aft, g⟩ (yielded ops a.tmps) = true) (ht : apOk P t e es = true) (hu : P.underlying u = some (.int .i64))
    (hx : E.ev x = some (.slice none 0 0)) (hy : E.ev y = some (.int .i64 k)) (h0 : 0 < k) (hk : k < 4294967296) (hd : dstOk d n = true)
    (q : ∀ b c a w, k.toNat ≤ c → Rep a n (E.put d (.slice (some ⟨b, 0, none⟩) k.toNat c)) → St w s (vecC e es (some ⟨b, 0, none⟩) c 0 [] :: R) → WL P ops K rest a w) :
    WL P ops K (⟨d, .call ⟨.builtin .append, #[x, y], #[t, u]⟩, ty, pos, aft, g⟩ :: rest) a w := by
  obtain ⟨hus, inf, z, hi, hsz, hby, hz, hzs, hes⟩ := apOk.get ht
  subst hsz
  have hrun := run_append_zeros (P := P) (w := w) t u ty e hus hu hi hz h0 hk hby (by omega)
  have hge := grownCap_ge w k.toNat 0 e
  have hcm : grownCap w k.toNat 0 e ≤ maxLen := grownCap_le_maxLen w k.toNat 0 e (by unfold maxLen; omega)
  have h2 := hS.drew.alloc (.cells (Builtin.zeroCells z.cells k.toNat ++ Builtin.zeroCells z.cells (grownCap w k.toNat 0 e - k.toNat)) e)
  refine WL.step hg ?_ (q _ _ _ _ hge (hE.puts hd _) (h2.head fun h q => ⟨by simp, .inr ⟨w.heap.size, 0, _, rfl, q, Nat.zero_le _, hcm, ?_, by simp⟩⟩))
  · simp only [execOp, resolve, invoke, builtin]
    simp [hE.ev hx, hE.ev hy, hrun]
  · simp only [Array.size_append, size_zeroCells, hzs, ← Nat.add_mul]
    rw [Nat.zero_add]; refine Nat.mul_le_mul_right _ ?_; omega
end
end Go.Fp
