/- A strings.Builder of the call's own, told by its bytes: written to, and read for the last time. No condition. -/
import Derived.Test.YtngamgkmhgmmjaaGreatDoorFpMore
import Derived.Lib.Builder
import Derived.Lib.UnsafeStr
import Derived.Laws.Externs
import Derived.Deep.AppendSrc
namespace Go.Fp
open Go

/-- the builder in block b holds the bytes y -/
def sbC (T e b : Nat) (y : ByteArray) : HP := fun h => ∃ (f a : Option Addr) (c : Nat), (f = none ∨ f = some ⟨b, 0, none⟩) ∧ (ao a = 0 ∧ (a = none ∨ 0 < c)) ∧
  Sat [pt b (.cells [.pointer f, .slice a y.size c].toArray T (0, 0)), vecC e 1 a c y.size (byteCells y)] h

/-- what may be written behind y -/
def sbw (y x : ByteArray) : Option ByteArray := if 0 < x.size ∧ y.size + x.size < 4294967296 then some (y ++ x) else none

theorem sbw_some {y x r : ByteArray} (h : sbw y x = some r) : 0 < x.size ∧ y.size + x.size < 4294967296 ∧ r = y ++ x := by
  unfold sbw at h
  split at h
  · rename_i h1; simp at h; exact ⟨h1.1, h1.2, h.symm⟩
  · cases h

theorem byteCells_app (y x : ByteArray) : byteCells (y ++ x) = byteCells y ++ byteCells x := by
  unfold byteCells
  rw [ByteArray.data_append, Array.toList_append, List.map_append]

section
variable {w : World} {s : Sg} {R : List HP} {T e b : Nat} {y : ByteArray}

theorem St.sbNew (e : Nat) (hS : St w s (pt b (.cells [.pointer none, .slice none 0 0].toArray T (0, 0)) :: R)) : St w s (sbC T e b .empty :: R) := by
  have h := (hS.vecNil e 1).swap
  refine h.map fun hh q => ?_
  have := Sat.unflat q
  exact Sat.head (fun _ hk => ⟨none, none, 0, .inl rfl, ⟨rfl, .inl rfl⟩, hk⟩) this

theorem St.sbOpen (hS : St w s (sbC T e b y :: R)) : ∃ (f a : Option Addr) (c : Nat), (f = none ∨ f = some ⟨b, 0, none⟩) ∧ (ao a = 0 ∧ (a = none ∨ 0 < c)) ∧
    St w s (pt b (.cells [.pointer f, .slice a y.size c].toArray T (0, 0)) :: vecC e 1 a c y.size (byteCells y) :: R) := by
  obtain ⟨h, ⟨h1, h2, ⟨f, a, c, hf, ha, hh⟩, a2, a3, a4⟩, e1⟩ := hS.own
  exact ⟨f, a, c, hf, ha, hS.sub, ⟨h, Sat.flat ⟨h1, h2, hh, a2, a3, a4⟩, e1⟩, hS.os, hS.out⟩

theorem St.sbClose {f a : Option Addr} {c : Nat} (hf : f = none ∨ f = some ⟨b, 0, none⟩) (ha : ao a = 0 ∧ (a = none ∨ 0 < c))
    (hS : St w s (pt b (.cells [.pointer f, .slice a y.size c].toArray T (0, 0)) :: vecC e 1 a c y.size (byteCells y) :: R)) : St w s (sbC T e b y :: R) :=
  hS.map fun _ q => Sat.head (fun _ hk => ⟨f, a, c, hf, ha, hk⟩) (Sat.unflat q)

theorem run_appStr {P : Program} {a : Option Addr} {c n : Nat} {cs : List Value} (hS : St w s R) (i : Nat) {t tx : Nat} (x : ByteArray) (ty : TypeId)
    (hr : R[i]? = some (vecC e 1 a c n cs)) (ht : apOk P t e 1 = true) (hx : P.underlying tx = some .string) (hm : 0 < x.size) (hb : n + x.size < 4294967296) (h0 : ao a = 0) :
    ∃ a2 c2 w2, (Builtin.append_ #[t, tx] ty #[.slice a n c, .string x]).run P w = .ok (.slice a2 (n + x.size) c2) w2 ∧ (ao a2 = 0 ∧ (a2 = none ∨ 0 < c2)) ∧ St w2 s (R.set i (vecC e 1 a2 c2 (n + x.size) (cs ++ byteCells x))) := by
  obtain ⟨hu, inf, z, hi, hsz, hby, hz, hzs, hes⟩ := apOk.get ht
  have hsrc : Src P inf.size tx (.string x) x.size (byteCells x) w := by rw [hsz]; exact Src.ofString w hx x
  generalize hnews : byteCells x = news at hsrc ⊢
  generalize hm' : x.size = m at hsrc hm hb ⊢
  have hl : news.length = m := by have := hsrc.newsLen; rw [hsz] at this; omega
  have hbytes : (n + m) * inf.bytes ≤ 140737488355328 := by
    have : (n + m) * inf.bytes ≤ 4294967296 * 32768 := Nat.mul_le_mul (by omega) hby
    omega
  have setP : ∀ {w2 : World} {p : HP}, St w2 s (p :: R.eraseIdx i) → St w2 s (R.set i p) := by
    intro w2 p h
    obtain ⟨e1, e2⟩ := set_at (r' := p) hr
    rw [← e2] at h
    exact St.unfront i e1 h
  have fresh : ∀ (old : Nat), old < n + m → cs.length = n → St (w.drew.alloc (.cells ((cs ++ news).toArray ++ Builtin.zeroCells z.cells (grownCap w (n + m) old e - (n + m))) e)) s
      (R.set i (vecC e 1 (some ⟨w.heap.size, 0, none⟩) (grownCap w (n + m) old e) (n + m) (cs ++ news))) := by
    intro old ho hcl
    have hge := grownCap_ge w (n + m) old e
    have hcm : grownCap w (n + m) old e ≤ maxLen := grownCap_le_maxLen w (n + m) old e (by unfold maxLen; omega)
    refine setP ?_
    have h2 := ((hS.dropAt i).drew.alloc (.cells ((cs ++ news).toArray ++ Builtin.zeroCells z.cells (grownCap w (n + m) old e - (n + m))) e))
    refine h2.head fun h q => ⟨by simp [hcl, hl], .inr ⟨w.heap.size, 0, _, rfl, q, hge, hcm, ?_, ?_⟩⟩
    · simp only [Array.size_append, List.size_toArray, size_zeroCells, hzs, List.length_append, hcl, hl]
      omega
    · simp only [Array.toList_append, List.drop_zero]
      have : (n + m) * 1 = (cs ++ news).length := by simp [hcl, hl]
      rw [this]
      exact List.take_left
  rcases hS.vec i hr with ⟨hcl, ⟨hz0, hn, hc⟩ | ⟨b', o, cur, e1, e2, e3, e4, e5, e6, h⟩⟩
  · subst hz0; subst hn; subst hc
    have hcs : cs = [] := List.eq_nil_of_length_eq_zero (by simpa using hcl)
    subst hcs
    have hold : (Builtin.firstCells inf.size 0 (.slice none 0 0)).run P w.drew = .ok (([] : List Value)).toArray w.drew := run_firstCells_none w.drew inf.size 0 0 0
    have hrun := run_append_grow_src (P := P) w t tx ty e inf z hu hi hz none 0 0 [] hold (.string x) m news hsrc (by omega) (by omega) (growslice_fits (by omega) (by simpa using hbytes))
    refine ⟨_, _, _, hrun, ⟨rfl, .inr ?_⟩, fresh 0 (by omega) (by simp)⟩
    have := grownCap_ge w (0 + m) 0 e; omega
  · subst e1
    rw [Nat.mul_one] at hcl
    by_cases hroom : n + m ≤ c
    · have hfit : o + n * inf.size + 0 + news.length ≤ cur.size := by
        rw [hl, hsz]; omega
      have hst := run_storeCells_at P b' (o + n * inf.size) e news 0 cur w e2 hfit hsrc.one
      simp only [Nat.add_zero] at hst
      have hrun : (Builtin.append_ #[t, tx] ty #[.slice (some ⟨b', o, none⟩) n c, .string x]).run P w = .ok (.slice (some ⟨b', o, none⟩) (n + m) c) (w.setRow b' (cur.toList.take (o + n * inf.size) ++ news ++ cur.toList.drop (o + n * inf.size + news.length)).toArray) := by
        simp [Builtin.append_, run_underlying hu, run_underlying hx, sizeOf, typeInfo, hi, hsrc.len, hroom, hsrc.cells, Addr.add_lit, hst]
      refine ⟨_, _, _, hrun, ⟨h0, .inr (by omega)⟩, setP ?_⟩
      have h2 := h.put (w' := w.setRow b' (cur.toList.take (o + n * inf.size) ++ news ++ cur.toList.drop (o + n * inf.size + news.length)).toArray) (setRow_heap w b' cur _ e _ e2)
        (fun _ hk => by simp [World.setRow, Array.getElem?_modify, Ne.symm hk]) rfl rfl
      refine h2.head fun hh q => ⟨by simp [hcl, hl], .inr ⟨b', o, _, rfl, q, hroom, e4, ?_, ?_⟩⟩
      · simp only [List.size_toArray, List.length_append, List.length_take, List.length_drop, Array.length_toList]
        rw [hsz] at hfit ⊢
        omega
      · have : (n + m) * 1 = (cs ++ news).length := by simp [hcl, hl]
        rw [hsz]
        have t1 : (cur.toList.take (o + n * 1)).drop o = cs := by rw [List.drop_take, Nat.add_sub_cancel_left, e6]
        rw [List.toList_toArray, List.append_assoc, List.drop_append_of_le_length (by simp; omega), t1, ← List.append_assoc, this]
        exact List.take_left
    · have holds : ∀ j u, cs[j]? = some u → w.drew.cell? ((⟨b', o, none⟩ : Addr).add j) = some u := by
        intro j u hj
        rw [Addr.add_here]
        have := hS.drew.vecSees i hr 0 cs (fun j v hj => by simpa using hj) j u hj
        simpa [ab, ao] using this
      have hold : (Builtin.firstCells inf.size n (.slice (some ⟨b', o, none⟩) n c)).run P w.drew = .ok cs.toArray w.drew :=
        run_firstCells_some w.drew inf.size n ⟨b', o, none⟩ n c cs (by rw [hsz]; omega) holds
      have hrun := run_append_grow_src (P := P) w t tx ty e inf z hu hi hz (some ⟨b', o, none⟩) n c cs hold (.string x) m news hsrc (by omega) (by omega) (growslice_fits (by omega) hbytes)
      refine ⟨_, _, _, hrun, ⟨rfl, .inr ?_⟩, fresh c (by omega) hcl⟩
      have := grownCap_ge w (n + m) c e; omega
end

section
variable {P : Program} {K : Kt} {a : Act} {w : World} {s : Sg} {R : List HP} {n : Nat} {E : Env} {ops : Array Oper} {rest : List Oper} {d : Option Tmp} {ty : TypeId} {pos : String} {aft : Array Edge} {g : Option (Nat × Bool)}

/-- append of a string's bytes onto part i -/
theorem WL.appStr (hE : Rep a n E) (hS : St w s R) (i : Nat) {t tx e : Nat} {x y : Operand} {sa : Option Addr} {c k : Nat} {cs : List Value} {v : ByteArray}
    (hg : Region.wanted ⟨d, .call ⟨.builtin .append, #[x, y], #[t, tx]⟩, ty, pos, aft, g⟩ (yielded ops a.tmps) = true)
    (hx : E.ev x = some (.slice sa k c)) (hy : E.ev y = some (.string v)) (hr : R[i]? = some (vecC e 1 sa c k cs)) (ht : apOk P t e 1 = true) (hs : P.underlying tx = some .string)
    (hm : 0 < v.size) (hb : k + v.size < 4294967296) (h0 : ao sa = 0) (hd : dstOk d n = true)
    (q : ∀ a2 c2 a w, (ao a2 = 0 ∧ (a2 = none ∨ 0 < c2)) → Rep a n (E.put d (.slice a2 (k + v.size) c2)) → St w s (R.set i (vecC e 1 a2 c2 (k + v.size) (cs ++ byteCells v))) → WL P ops K rest a w) : WL P ops K (⟨d, .call ⟨.builtin .append, #[x, y], #[t, tx]⟩, ty, pos, aft, g⟩ :: rest) a w := by
  obtain ⟨a2, c2, w2, hrun, hc2, hS2⟩ := run_appStr hS i v ty hr ht hs hm hb h0
  refine WL.step hg ?_ (q a2 c2 _ w2 hc2 (hE.puts hd _) hS2)
  simp [execOp, resolve, invoke, builtin, hE.ev hx, hE.ev hy, hrun]

/-- a call of a function that the machine has of its own and that hands back what it got -/
def sameOk (P : Program) (f : FuncId) : Prop := ∃ fn, P.funcs[f]? = some fn ∧ (fn.name == "runtime.NumGoroutine") = false ∧ fn.body.isNone = true ∧ Extern.findNext fn = none ∧ Extern.find fn = some Extern.AbiNoEscape.same
theorem WL.same (hE : Rep a n E) {f : FuncId} {x : Operand} {v : Value} {ts : Array TypeId} (hf : sameOk P f)
    (hg : Region.wanted ⟨d, .call ⟨.value (.func f), #[x], ts⟩, ty, pos, aft, g⟩ (yielded ops a.tmps) = true) (hx : E.ev x = some v) (hd : dstOk d n = true)
    (q : ∀ a, Rep a n (E.put d v) → WL P ops K rest a w) : WL P ops K (⟨d, .call ⟨.value (.func f), #[x], ts⟩, ty, pos, aft, g⟩ :: rest) a w := by
  obtain ⟨fn, h1, h2, h3, h4, h5⟩ := hf
  refine WL.step hg ?_ (q _ (hE.puts hd _))
  have hrun := run_callFunc_extern (P := P) h1 h2 h3 h4 h5 #[v] w
  have hs : (Extern.AbiNoEscape.same #[v]).run P w = .ok v w := rfl
  rw [hs] at hrun
  simp only [execOp, resolve, Sem.run_bind, Act.eval, Deferred.ofValue, Sem.run_pure, Result.andThen_ok, invoke]
  simp [hE.ev hx, hrun, Result.andThen]

/-- a pointer held against itself -/
theorem Gives.neqSame {C : World → Prop} (hE : Rep a n E) {t t' e : Nat} {j : TypeInfo} {x y : Operand} {p : Addr} (hx : E.ev x = some (.pointer (some p))) (hy : E.ev y = some (.pointer (some p))) (h : P.underlying t = some (.pointer e)) (hi : P.info? e = some j) :
    Gives P C a ⟨d, .binOp .neq t x y t', ty, pos, aft, g⟩ (.bool false) := by
  intro w _
  have := Lib.run_neq_ptr_same (P := P) w p h hi
  simp [execOp, hE.ev hx, hE.ev hy, eqGuard, this]

theorem liesAt_self {T : TypeId} {m : Nat} (hm : P.cellsOf T = m) (h0 : m ≠ 0) : liesAt P P.depth T (m / P.cellsOf T) 0 T 1 = true := by
  rw [hm, Nat.div_self (Nat.pos_of_ne_zero h0)]
  have hd : P.depth = (2 * (P.types.size + Made.depth) + 1) + 1 := rfl
  rw [hd]
  simp only [liesAt, Bool.or_eq_true]
  left
  rw [hd]
  simp [rowAt, hm, h0, sameLayout]

theorem St.shapeAt {s : Sg} {R : List HP} {i b : Nat} {c : List Value} {T : TypeId} (hr : R[i]? = some (pt b (.cells c.toArray T (0, 0)))) (hS : St w s R) : w.shape? b = some (T, c.length) := by
  have := (hS.front i hr).at
  simp [World.shape?, this]

/-- a pointer to a variable of the call's own, of no kind, and back -/
theorem Gives.toUnsafe (hE : Rep a n E) (i : Nat) {t t' e : Nat} {j : TypeInfo} {x : Operand} {b : Nat} {c : List Value} {T : TypeId} (hx : E.ev x = some (.pointer (some ⟨b, 0, none⟩))) (hr : R[i]? = some (pt b (.cells c.toArray T (0, 0)))) (hc : Nat.blt 0 c.length = true)
    (hs : P.underlying t = some (.pointer e)) (ht : P.underlying t' = some .unsafePointer) (hi : P.info? e = some j) (hj : j.size ≠ 0) : Gives P (fun w => St w s R) a ⟨d, .convert t t' x, ty, pos, aft, g⟩ (.pointer (some ⟨b, 0, none⟩)) := by
  intro w hS
  have := Lib.run_to_unsafe (P := P) w ⟨b, 0, none⟩ hs ht hi hj (St.shapeAt hr hS) (by simpa using hc)
  simp [execOp, hE.ev hx, this]
theorem Gives.fromUnsafe (hE : Rep a n E) (i : Nat) {t t' T : Nat} {j : TypeInfo} {x : Operand} {b : Nat} {c : List Value} (hx : E.ev x = some (.pointer (some ⟨b, 0, none⟩))) (hr : R[i]? = some (pt b (.cells c.toArray T (0, 0))))
    (hs : P.underlying t = some .unsafePointer) (ht : P.underlying t' = some (.pointer T)) (hi : P.info? T = some j) (hl : P.cellsOf T = c.length) (hc : Nat.blt 0 c.length = true) : Gives P (fun w => St w s R) a ⟨d, .convert t t' x, ty, pos, aft, g⟩ (.pointer (some ⟨b, 0, none⟩)) := by
  intro w hS
  have hn : c.length ≠ 0 := by
    intro k; rw [k] at hc; simp at hc
  have := Lib.run_from_unsafe (P := P) w ⟨b, 0, none⟩ hs ht hi (St.shapeAt hr hS) (liesAt_self hl hn)
  simp [execOp, hE.ev hx, this]

theorem Gives.sliceData {C : World → Prop} (hE : Rep a n E) {ts : Array TypeId} {x : Operand} {sa : Option Addr} {m c : Nat} (hx : E.ev x = some (.slice sa m c)) (hc : sa = none ∨ 0 < c) :
    Gives P C a ⟨d, .call ⟨.builtin .unsafeSliceData, #[x], ts⟩, ty, pos, aft, g⟩ (.pointer sa) := by
  intro w _
  rcases hc with rfl | hc
  · simp [execOp, resolve, invoke, builtin, hE.ev hx, Lib.run_unsafeSliceData_nil]
  · cases sa with
    | none => simp [execOp, resolve, invoke, builtin, hE.ev hx, Lib.run_unsafeSliceData_nil]
    | some p => simp [execOp, resolve, invoke, builtin, hE.ev hx, Lib.run_unsafeSliceData_row w ts ty p m c (by omega)]

theorem run_sbString {P : Program} {w : World} {s : Sg} {R : List HP} {e : Nat} {sa : Option Addr} {c : Nat} {y : ByteArray} (hS : St w s R) (i : Nat) (hr : R[i]? = some (vecC e 1 sa c y.size (byteCells y))) (h0 : ao sa = 0) (pt it ty : TypeId) (hp : P.underlying pt = some (.pointer e)) (hc : P.cellsOf e = 1) :
    ∃ w2, (Builtin.unsafeString_ #[pt, it] ty #[.pointer sa, .int .i64 y.size]).run P w = .ok (.string y) w2 ∧ St w2 s (R.eraseIdx i) := by
  by_cases hy : y.size = 0
  · have hy' : y = .empty := by
      apply ByteArray.ext
      have : y.data.size = 0 := hy
      simpa using Array.eq_empty_of_size_eq_zero this
    subst hy'
    exact ⟨w, Lib.run_unsafeString_none (P := P) w pt it ty sa, hS.dropAt i⟩
  · rcases hS.vec i hr with ⟨hcl, ⟨_, hn, _⟩ | ⟨b, o, cur, e1, e2, e3, e4, e5, e6, h⟩⟩
    · exact absurd hn hy
    · subst e1
      have ho : o = 0 := h0
      subst ho
      have hlen : y.data.toList.length = y.size := by rw [Array.length_toList]; rfl
      have h1 := Lib.run_unsafeString_row (P := P) w pt it ty e hp hc b cur.size (by simp [World.shape?, e2]) y.data.toList (by intro k; rw [k] at hlen; simp at hlen; omega) (by rw [hlen]; omega) (by rw [hlen]; unfold maxLen at e4; omega) ?_
      · rw [hlen] at h1
        refine ⟨_, by simpa using h1, ?_⟩
        refine (St.put h (o' := .cells cur e (0, 0 + y.size)) ?_ ?_ ?_ ?_).tail
        · rw [World.freeze, if_neg hy]; simp [Array.getElem?_modify, e2]
        · intro k hk
          rw [World.freeze, if_neg hy]; simp [Array.getElem?_modify, Ne.symm hk]
        · rw [World.freeze, if_neg hy]
        · rw [World.freeze, if_neg hy]
      · intro j x hj
        rw [Addr.add_here]
        have hv : (byteCells y)[j]? = some (.int .u8 x.toNat) := by unfold byteCells; rw [List.getElem?_map, hj]; rfl
        have := hS.vecSees i hr 0 (byteCells y) (fun j v hj => by simpa using hj) j _ hv
        simpa [ab, ao] using this

theorem WL.sbString (hE : Rep a n E) (hS : St w s R) (i : Nat) {pt it e : Nat} {x z : Operand} {sa : Option Addr} {c : Nat} {y : ByteArray}
    (hg : Region.wanted ⟨d, .call ⟨.builtin .unsafeString, #[x, z], #[pt, it]⟩, ty, pos, aft, g⟩ (yielded ops a.tmps) = true) (hx : E.ev x = some (.pointer sa)) (hz : E.ev z = some (.int .i64 y.size)) (hr : R[i]? = some (vecC e 1 sa c y.size (byteCells y))) (h0 : ao sa = 0)
    (hp : P.underlying pt = some (.pointer e)) (hc : P.cellsOf e = 1) (hd : dstOk d n = true)
    (q : ∀ a w, Rep a n (E.put d (.string y)) → St w s (R.eraseIdx i) → WL P ops K rest a w) : WL P ops K (⟨d, .call ⟨.builtin .unsafeString, #[x, z], #[pt, it]⟩, ty, pos, aft, g⟩ :: rest) a w := by
  obtain ⟨w2, hrun, hS2⟩ := run_sbString hS i hr h0 pt it ty hp hc
  refine WL.step hg ?_ (q _ w2 (hE.puts hd _) hS2)
  simp [execOp, resolve, invoke, builtin, hE.ev hx, hE.ev hz, hrun]

end
end Go.Fp
