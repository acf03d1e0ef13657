/- The walks of the functions that FareCars reaches: each call comes to what its mirror says. The conditions are those of each contract. -/
import Derived.Test.YteeeklfggbfenaaProg
import Derived.Test.YteeeklfggbfenaaFareCarsM
import Derived.Test.YteeeklfggbfenaaFpAllS
import Derived.Test.YteeeklfggbfenaaFareCarsS
import Derived.Test.YteeeklfggbfenaaFpCut
import Derived.Test.YteeeklfggbfenaaFpRgn
set_option maxRecDepth 10000
namespace Go.Proofs.Yteeeklfggbfenaa
open Go Go.Fp
theorem ap22 : apOk Try.prog 22 3 1 = true := by kernel_rfl
theorem ap30 : apOk Try.prog 30 39 4 = true := by kernel_rfl
theorem aw30 : apOkW Try.prog 30 39 4 48 = true := by kernel_rfl
theorem ap31 : apOk Try.prog 31 4 1 = true := by kernel_rfl
theorem aw31 : apOkW Try.prog 31 4 1 1 = true := by kernel_rfl
theorem ap61 : apOk Try.prog 61 22 1 = true := by kernel_rfl
theorem bd10 : bodied Try.prog 10 = true := by kernel_rfl
theorem bd11 : bodied Try.prog 11 = true := by kernel_rfl
theorem bd12 : bodied Try.prog 12 = true := by kernel_rfl
theorem bd13 : bodied Try.prog 13 = true := by kernel_rfl
theorem bd14 : bodied Try.prog 14 = true := by kernel_rfl
theorem bd15 : bodied Try.prog 15 = true := by kernel_rfl
theorem bd16 : bodied Try.prog 16 = true := by kernel_rfl
theorem bd17 : bodied Try.prog 17 = true := by kernel_rfl
theorem bd18 : bodied Try.prog 18 = true := by kernel_rfl
theorem bd19 : bodied Try.prog 19 = true := by kernel_rfl
theorem bd20 : bodied Try.prog 20 = true := by kernel_rfl
theorem bd21 : bodied Try.prog 21 = true := by kernel_rfl
theorem bd22 : bodied Try.prog 22 = true := by kernel_rfl
theorem bd23 : bodied Try.prog 23 = true := by kernel_rfl
theorem bd24 : bodied Try.prog 24 = true := by kernel_rfl
theorem bd25 : bodied Try.prog 25 = true := by kernel_rfl
theorem bd26 : bodied Try.prog 26 = true := by kernel_rfl
theorem bd27 : bodied Try.prog 27 = true := by kernel_rfl
theorem bd28 : bodied Try.prog 28 = true := by kernel_rfl
theorem bd29 : bodied Try.prog 29 = true := by kernel_rfl
theorem bd30 : bodied Try.prog 30 = true := by kernel_rfl
theorem bd31 : bodied Try.prog 31 = true := by kernel_rfl
theorem bd32 : bodied Try.prog 32 = true := by kernel_rfl
theorem bd33 : bodied Try.prog 33 = true := by kernel_rfl
theorem bd34 : bodied Try.prog 34 = true := by kernel_rfl
theorem bd35 : bodied Try.prog 35 = true := by kernel_rfl
theorem bd36 : bodied Try.prog 36 = true := by kernel_rfl
theorem bd37 : bodied Try.prog 37 = true := by kernel_rfl
theorem bd39 : bodied Try.prog 39 = true := by kernel_rfl
theorem bd4 : bodied Try.prog 4 = true := by kernel_rfl
theorem bd40 : bodied Try.prog 40 = true := by kernel_rfl
theorem bd41 : bodied Try.prog 41 = true := by kernel_rfl
theorem bd42 : bodied Try.prog 42 = true := by kernel_rfl
theorem bd45 : bodied Try.prog 45 = true := by kernel_rfl
theorem bd46 : bodied Try.prog 46 = true := by kernel_rfl
theorem bd47 : bodied Try.prog 47 = true := by kernel_rfl
theorem bd5 : bodied Try.prog 5 = true := by kernel_rfl
theorem bd59 : bodied Try.prog 59 = true := by kernel_rfl
theorem bd6 : bodied Try.prog 6 = true := by kernel_rfl
theorem bd65 : bodied Try.prog 65 = true := by kernel_rfl
theorem bd7 : bodied Try.prog 7 = true := by kernel_rfl
theorem bd8 : bodied Try.prog 8 = true := by kernel_rfl
theorem bd9 : bodied Try.prog 9 = true := by kernel_rfl
theorem fl33_0 : fldOk Try.prog 33 0 0 = true := by kernel_rfl
theorem fl33_1 : fldOk Try.prog 33 1 1 = true := by kernel_rfl
theorem fl33_2 : fldOk Try.prog 33 2 2 = true := by kernel_rfl
theorem fl33_3 : fldOk Try.prog 33 3 3 = true := by kernel_rfl
theorem fl33_4 : fldOk Try.prog 33 4 4 = true := by kernel_rfl
theorem fl39_0 : fldOk Try.prog 39 0 0 = true := by kernel_rfl
theorem fl39_1 : fldOk Try.prog 39 1 1 = true := by kernel_rfl
theorem fl39_2 : fldOk Try.prog 39 2 2 = true := by kernel_rfl
theorem fl39_3 : fldOk Try.prog 39 3 3 = true := by kernel_rfl
theorem fl48_0 : fldOk Try.prog 48 0 0 = true := by kernel_rfl
theorem fl48_1 : fldOk Try.prog 48 1 1 = true := by kernel_rfl
theorem fl48_2 : fldOk Try.prog 48 2 2 = true := by kernel_rfl
theorem fl48_3 : fldOk Try.prog 48 3 3 = true := by kernel_rfl
theorem fl48_4 : fldOk Try.prog 48 4 4 = true := by kernel_rfl
theorem hu3 : (Try.prog.underlying 3).isSome = true := by kernel_rfl
theorem hu71 : (Try.prog.underlying 71).isSome = true := by kernel_rfl
theorem isl22 : isSl Try.prog 22 = true := by kernel_rfl
theorem mixed : Try.prog.follows .mixedOrders = true := by kernel_rfl
theorem pk23 : ptOk Try.prog 23 48 = true := by kernel_rfl
theorem sl22 : slOk Try.prog 22 3 1 = true := by kernel_rfl
theorem sl30 : slOk Try.prog 30 39 4 = true := by kernel_rfl
theorem sl31 : slOk Try.prog 31 4 1 = true := by kernel_rfl
theorem sl61 : slOk Try.prog 61 22 1 = true := by kernel_rfl
theorem ty22 : tyOk Try.prog 22 false 1 = true := by kernel_rfl
theorem ty23 : tyOk Try.prog 23 false 1 = true := by kernel_rfl
theorem ty3 : tyOk Try.prog 3 false 1 = true := by kernel_rfl
theorem ty30 : tyOk Try.prog 30 false 1 = true := by kernel_rfl
theorem ty31 : tyOk Try.prog 31 false 1 = true := by kernel_rfl
theorem ty39 : tyOk Try.prog 39 true 4 = true := by kernel_rfl
theorem ty4 : tyOk Try.prog 4 false 1 = true := by kernel_rfl
theorem ui3 : Try.prog.underlying 3 = some (.int .i64) := by kernel_rfl
theorem ui71 : Try.prog.underlying 71 = some (.int .u64) := by kernel_rfl
theorem zr22 : (Try.prog.info? 22).bind (fun i => i.zero.map fun z => z.cells.toList) = some [.slice none 0 0] := by kernel_rfl
theorem zr39 : (Try.prog.info? 39).bind (fun i => i.zero.map fun z => z.cells.toList) = some [.int .i64 0, .int .i64 0, .int .i64 0, .slice none 0 0] := by kernel_rfl
section
open Go.RowKit Go.Shelf
attribute [local go_sem] Oper.semAt_some
def itUpto {α : Type} (f : Nat → α) (k : Nat) : List α := (List.range k).map f
theorem itUpto_succ {α : Type} (f : Nat → α) (k : Nat) : itUpto f (k + 1) = itUpto f k ++ [f k] := by simp [itUpto, List.range_succ]
theorem itUpto_length {α : Type} (f : Nat → α) (k : Nat) : (itUpto f k).length = k := by simp [itUpto]
theorem itUpto_all (zs : List Int) : itUpto (fun j => zs[j]?.getD 0) zs.length = zs := by
  apply List.ext_getElem
  · simp [itUpto]
  · intro i h1 h2
    simp [itUpto, h2]

set_option maxRecDepth 100000 in
set_option maxHeartbeats 2000000 in
theorem itVals1_in (F : Fence) (n : Nat) (h7 : F.fn 38) (hro : F.round = none) (hn : 1 ≤ n) (l Bs n₀ b off len cap : Nat) (zs : List Int) (hreach : len * 8 ≤ 140737488351232) (hb : b < n₀) (J Jx : List Int → World → Prop)
    (hY : ∀ pre x W, J pre W → pre.length < len → YieldAt F (n - 1) Try.prog l #[.int .i64 x] W fun e W' =>
      (e = .returned (.bool true) ∧ J (pre ++ [x]) W' ∧ Below n₀ W W') ∨ (e = .returned (.bool false) ∧ Jx (pre ++ [x]) W'))
    (W : World) (hBs : W.cell? ⟨Bs, 0, none⟩ = some (.slice (some ⟨b, off, none⟩) len cap)) (hc : ∀ j, j < len → W.cell? ⟨b, off + j, none⟩ = some (.int .i64 (zs[j]?.getD 0))) (h0 : J [] W) :
    CallsIn F n Try.prog 38 #[.func (.yield l) #[] #[], .pointer (some ⟨Bs, 0, none⟩)] W fun e W' => (∃ v, e = .returned v) ∧
      ((∃ ys, ys = itUpto (fun j => zs[j]?.getD 0) len ∧ J ys W') ∨ (∃ pre, (∃ k, k ≤ len ∧ pre = itUpto (fun j => zs[j]?.getD 0) k) ∧ Jx pre W')) := by
  refine callsIn_of_wp Try.func38 rfl h7 ?_ hro
  simp only [Try.ntmps38, List.size_toArray, List.length_cons, List.length_nil, Nat.reduceAdd, Nat.reduceSub, Array.replicate_succ, Array.replicate_zero, List.push_toArray, List.append_toArray, List.nil_append, List.cons_append]
  gi_wp2
  gi_loopw [7] (fun i wr => ∃ k : Nat, k ≤ len ∧ i = .int .i64 k ∧ J (itUpto (fun j => zs[j]?.getD 0) k) wr ∧ Below n₀ W wr)
    (fun i _ => len - (intOf i).toNat)
  case atStart => exact ⟨0, Nat.zero_le _, rfl, h0, Below.refl _ _⟩
  case round =>
    obtain ⟨k, hk, rfl, hJs, hnx⟩ := hrel
    have hcx : k < len → wr.cell? ⟨b, off + k, none⟩ = some (.int .i64 (zs[k]?.getD 0)) := fun h => (hnx.cell (p := ⟨b, off + k, none⟩) hb).trans (hc k h)
    by_cases hlt : k < len
    · obtain ⟨fn, tmps, assign, body, hy, hR⟩ := hY _ (zs[k]?.getD 0) wr hJs (by rw [itUpto_length]; exact hlt)
      have hcx' := hcx hlt
      gi_wp2
      refine hR.mono ?_
      rintro e W3 (⟨rfl, hJ3, hk3⟩ | ⟨rfl, hJx3⟩)
      · -- THE ROUND GOES ON
        gi_wp2
        go_roundw
        case rel => exact ⟨k + 1, by omega, by simp, by rw [itUpto_succ]; exact hJ3, hnx.trans hk3⟩
        case measure => simp [intOf]; omega
      · gi_wp2
        refine bodyPost_ret (results_none rfl _ _ _) rfl ?_
        exact ⟨⟨_, rfl⟩, .inr ⟨_, ⟨k + 1, by omega, (itUpto_succ _ _).symm⟩, hJx3⟩⟩
    · obtain rfl : k = len := by omega
      gi_wp2
      go_end0
      exact ⟨⟨_, rfl⟩, .inl ⟨_, rfl, hJs⟩⟩

theorem itUpto_take (zs : List Int) {k : Nat} (hk : k ≤ zs.length) : itUpto (fun j => zs[j]?.getD 0) k = zs.take k := by
  apply List.ext_getElem
  · simp [itUpto, hk]
  · intro i h1 h2
    have : i < zs.length := by simp [itUpto] at h1; omega
    simp [itUpto, this]

def ItInts (n₀ : Nat) (W : World) (sv : Value) (zs : List Int) : Prop :=
  (∃ sa cap, sv = .slice sa 0 cap ∧ zs = []) ∨ ∃ b off cap, sv = .slice (some ⟨b, off, none⟩) zs.length cap ∧ b < n₀ ∧ ∀ j, j < zs.length → W.cell? ⟨b, off + j, none⟩ = some (.int .i64 (zs[j]?.getD 0))
theorem ItInts.below {n₀ : Nat} {A B : World} (h : Below n₀ A B) {sv : Value} {zs : List Int} : ItInts n₀ A sv zs → ItInts n₀ B sv zs
  | .inl e => .inl e
  | .inr ⟨b, off, cap, e, hb, hc⟩ => .inr ⟨b, off, cap, e, hb, fun j hj => (h.cell (p := ⟨b, off + j, none⟩) hb).trans (hc j hj)⟩

set_option maxRecDepth 100000 in
set_option maxHeartbeats 1000000 in
theorem itNil_in (F : Fence) (n : Nat) (h7 : F.fn 38) (hro : F.round = none) (l Bs cap : Nat) (sa : Option Addr) (J : List Int → World → Prop) (W : World) (hBs : W.cell? ⟨Bs, 0, none⟩ = some (.slice sa 0 cap)) (h0 : J [] W) :
    CallsIn F n Try.prog 38 #[.func (.yield l) #[] #[], .pointer (some ⟨Bs, 0, none⟩)] W fun e W' => (∃ v, e = .returned v) ∧ J [] W' := by
  refine callsIn_of_wp Try.func38 rfl h7 ?_ hro
  simp only [Try.ntmps38, List.size_toArray, List.length_cons, List.length_nil, Nat.reduceAdd, Nat.reduceSub, Array.replicate_succ, Array.replicate_zero, List.push_toArray, List.append_toArray, List.nil_append, List.cons_append]
  gi_wp2
  gi_loopw [7] (fun i wr => i = .int .i64 0 ∧ J [] wr) (fun _ _ => 0)
  case atStart => exact ⟨rfl, h0⟩
  case round =>
    obtain ⟨rfl, hJs⟩ := hrel
    gi_wp2
    go_end0
    exact ⟨⟨_, rfl⟩, hJs⟩

set_option maxRecDepth 100000 in
set_option maxHeartbeats 1000000 in
theorem itStops (F : Fence) (n : Nat) (h7 : F.fn 38) (hro : F.round = none) (hn : 1 ≤ n) (Bs n₀ : Nat) (sv : Value) (zs : List Int) (hreach : zs.length * 8 ≤ 140737488351232) (w : World) (hBs : Bs < w.heap.size) (hn₀ : n₀ ≤ w.heap.size)
    (hc : w.cell? ⟨Bs, 0, none⟩ = some sv) (hI : ItInts n₀ w sv zs) :
    SeqStopsK F n Try.prog 38 #[.pointer (some ⟨Bs, 0, none⟩)] (fun x : Int => #[Value.int .i64 x]) (Below n₀) (fun ys => ys = zs) (fun pre => pre <+: zs) zs.length w := fun l J Jx W hW _ _ hY h0 => by
  have hc' := (hW.cell (p := ⟨Bs, 0, none⟩) hBs).trans hc
  rcases hI.below (hW.mono hn₀) with ⟨sa, cap, rfl, rfl⟩ | ⟨b, off, cap, rfl, hb, hcs⟩
  · exact (itNil_in F n h7 hro l Bs cap sa J W hc' h0).mono fun e W' ⟨he, hj⟩ => ⟨he, .inl ⟨_, rfl, hj⟩⟩
  · refine (itVals1_in F n h7 hro hn l Bs n₀ b off zs.length cap zs hreach hb J Jx hY W hc' hcs h0).mono ?_
    rintro e W' ⟨he, ⟨ys, rfl, hj⟩ | ⟨pre, ⟨k, hk, rfl⟩, hj⟩⟩
    · exact ⟨he, .inl ⟨_, itUpto_all zs, hj⟩⟩
    · exact ⟨he, .inr ⟨_, by rw [itUpto_take zs hk]; exact List.take_prefix _ _, hj⟩⟩

theorem itInfo : (Try.prog.info? 3).map (fun i => (i.zero, i.size, i.bytes)) = some (some (.int .i64 0), 1, 8) := by kernel_rfl

set_option maxRecDepth 100000 in
set_option maxHeartbeats 2000000 in
theorem itSeq_in (F : Fence) (n : Nat) (h3 : F.fn 45) (h5 : F.fn 38) (hro : F.round = none) (hn : 3 ≤ n) (Bs : Nat) (sv : Value) (xs : List Int) (hlen : xs.length ≤ maxLen) (hbytes : xs.length * 8 ≤ 140737488351232) (w : World) (hBs : Bs < w.heap.size) (hcs : w.cell? ⟨Bs, 0, none⟩ = some sv) (hI : ItInts w.heap.size w sv xs) :
    CallsIn F n Try.prog 45 #[.slice none 0 0, .func (.func 38) #[] #[.pointer (some ⟨Bs, 0, none⟩)]] w fun e W' => ∃ v, e = .returned v ∧ W'.ownsRow w.heap.size 3 1 v xs.length (xs.map (Value.int .i64)) ∧ Below w.heap.size w W' := by
  have h1 : 1 ≤ n := by omega
  obtain ⟨i0, hi, hz0, hz1, hz2⟩ := info_parts itInfo
  refine callsIn_of_wp_marks Try.func45 rfl h3 ?_ hro
  simp only [Try.ntmps45, List.size_toArray, List.length_cons, List.length_nil, Nat.reduceAdd, Nat.reduceSub, Array.replicate_succ, Array.replicate_zero, List.push_toArray, List.append_toArray, List.nil_append, List.cons_append]
  gi_wp2
  have bO := Boxed.new w 22 (.slice none 0 0)
  have hB0 : Below w.heap.size w (w.alloc (.cells #[.slice none 0 0] 22)) := (Below.refl _ w).alloc (Nat.le_refl _) _
  refine wpIn_rangeFunc_ownG hro h1 (gf := 38) (lb := #[.pointer (some ⟨Bs, 0, none⟩)]) rfl h5 (enters_of Try.func38 (by kernel_rfl) rfl)
    (itStops F (n - 1) h5 hro (by omega) Bs w.heap.size _ xs hbytes _ (by simp; omega) (by simp) ((hB0.cell (p := ⟨Bs, 0, none⟩) hBs).trans hcs) (hI.below hB0)) belowK_t (belowK_b (by simp)) (Below.refl _ _) (fun _ => rfl)
    (fun pre W => (∃ v, Boxed W w.heap.size 22 v ∧ W.ownsRow w.heap.size 3 1 v pre.length (pre.map (Value.int .i64)) ∧ True) ∧ Below w.heap.size w W)
    (fun _ _ _ => False)
    (OwnFrom.and (Own.from (holdsRow_own w.heap.size w.heap.size 22 3 1 (fun pre : List Int => pre.length) (fun pre => pre.map (Value.int .i64)) (fun _ _ => True)) _) (ownFrom_below (Nat.le_refl _) (by simp)))
    (fun _ _ _ _ _ hs _ _ => hs)
    ⟨⟨_, bO, World.ownsRow_nil _ _ _ _, trivial⟩, hB0⟩
    (fun x => { tmps := #[.slice none 0 0, .func (.func 38) #[] #[.pointer (some ⟨Bs, 0, none⟩)], .pointer (some ⟨w.heap.size, 0, none⟩), undef, .slice none 0 0, .int .i64 x, .func (.func 38) #[] #[.pointer (some ⟨Bs, 0, none⟩)], .int .i64 x, undef, undef, undef, undef, undef], defers := [] }) ?assign ?body ?done ?stop
  case assign =>
    intro l x W K hK
    gi_wp2
    exact hK
  case body =>
    rintro l pre x W ⟨⟨v, hv, hrow, _⟩, hB⟩ hlt
    have hc := hv.cell
    gi_wp2_with (gi_at_builtin; refine wpListIn_append_own _ rfl _ _ 22 rfl w.heap.size 3 i0 (.int .i64 0) 1 8 Try.underlying22 hi hz0 hz1 hz2 rfl (by decide) _ _ _ rfl (hrow.alloc _) ⟨W.heap.size, 0, none⟩ 1 1 [.int .i64 x] rfl rfl (cell_one_new _ _ _) (by simp [Value.oneCell']) (by omega) (by omega) (by have := hB.size; simp; omega) ?_; intro v' w1 hown' hgrow _; obtain ⟨g', cap', rfl⟩ := ownsRow_succ hown'; obtain ⟨hv1, hv2, hr2, hk2, hb2⟩ := hv.appended (by decide) hrow hB.size (Nat.le_refl _) hown' hgrow; have hc1 := hv1.cell; have hf1 := hv1.frozen)
    exact ⟨hk2.from _, hb2, ⟨_, hv2, by simpa using hr2, trivial⟩, hB.trans hb2⟩
  case done =>
    rintro D ys W hD rfl ⟨⟨v, hv, hrow, _⟩, hB⟩ hK
    have hc := hv.cell
    gi_wp2
    refine ⟨by simp, .inl ⟨_, _, rfl, run_takeDeferred hK, ?_⟩⟩
    exact ⟨_, results_tmp rfl _ _ _, v, rfl, ownsRow_putObj hrow _ hK rfl, hB.trans (belowK_b (w := w) (Nat.le_refl _) W D _ _ (by simp at hD; omega) hK rfl rfl)⟩
  case stop =>
    rintro D c pre W _ _ h _
    exact h.elim

theorem itSeq_ok {w : World} {s : Sg} {R : List HP} {b : Nat} {a : Option Addr} {c : Nat} {l r : List Int} (hS : St w s (pt b (.cells [.slice a l.length c].toArray 22 (0, 0)) :: R)) (h : Sl 1 (RI .i64) s a c l) (hr : apd [] l = some r) :
    Calls Try.prog 45 [.slice none 0 0, .func (.func 38) #[] #[.pointer (some ⟨b, 0, none⟩)]].toArray w (fun e w => ∃ (a0 : Option Addr) (c0 n0 : Nat) (cs0 : List Value), e = .returned (.slice a0 n0 c0) ∧ Ev 1 (RI .i64) s cs0 r ∧ r.length = n0 ∧ St w s (vecC 3 1 a0 c0 n0 cs0 :: pt b (.cells [.slice a l.length c].toArray 22 (0, 0)) :: R)) := by
  obtain ⟨h1, h2⟩ := apd_some hr
  rw [List.nil_append] at h2
  subst r
  simp only [List.length_nil, Nat.zero_add] at h1
  have hb := hS.at
  have hI : ItInts w.heap.size w (.slice a l.length c) l := by
    rcases Nat.eq_zero_or_pos l.length with hz | hz
    · have : l = [] := List.eq_nil_of_length_eq_zero hz
      subst this
      exact .inl ⟨a, c, rfl, rfl⟩
    · obtain ⟨b0, o0, rfl⟩ := h.aok hz
      have hcell : ∀ j, j < l.length → w.cell? ⟨b0, o0 + j, none⟩ = some (.int .i64 (l[j]?.getD 0)) := by
        intro j hj
        obtain ⟨cs, e1, e2, e3⟩ := h.el j l[j] (List.getElem?_eq_getElem hj)
        have e3' : cs = [.int .i64 l[j]] := e3
        subst e3'
        have := hS.sees e2 0 _ rfl
        simpa [ab, ao, hj] using this
      refine .inr ⟨b0, o0, c, rfl, ?_, hcell⟩
      have := hcell 0 hz
      rcases Nat.lt_or_ge b0 w.heap.size with hlt | hge
      · exact hlt
      · simp [World.cell?, Array.getElem?_eq_none hge] at this
  have hlt : b < w.heap.size := by
    rcases Nat.lt_or_ge b w.heap.size with hlt | hge
    · exact hlt
    · rw [Array.getElem?_eq_none hge] at hb; cases hb
  refine ((callsIn_wide (n := 3)).1 (itSeq_in Fence.wide 3 trivial trivial rfl (by decide) b (.slice a l.length c) l (by unfold maxLen; omega) (by omega) w hlt (by simp [World.cell?, hb]) hI)).mono ?_
  rintro e w' ⟨v, rfl, hrow, hB⟩
  obtain ⟨a0, c0, rfl, hS'⟩ := hS.rowC hB hrow
  exact ⟨a0, c0, l.length, _, rfl, Ev.ofMap l, rfl, hS'⟩

theorem itVals_ok {w : World} {s : Sg} {R : List HP} {sa : Option Addr} {m c : Nat} (hS : St w s R) : Calls Try.prog 27 [.slice sa m c].toArray w (fun e w => ∃ (b : Nat), e = .returned (.func (.func 38) #[] #[.pointer (some ⟨b, 0, none⟩)]) ∧ St w s (pt b (.cells [.slice sa m c].toArray 22 (0, 0)) :: R)) := by
  refine enter Try.func27 rfl rfl rfl fun a hE => ?_
  refine W.seq ?_
  refine W.region ?_
  refine WL.box hE hS (runs_plain rfl) rfl rfl rfl ?_; clear hE hS a w; intro b a w hE hS
  refine WL.vS hS hE (runs_plain rfl) (Gives.p hE rfl) rfl ?_; clear hE a; intro a hE
  refine WL.nil ?_
  refine W.seq ?_
  refine W.region ?_
  refine WL.vS hS hE (runs_plain rfl) (Gives.mkfn hE (vs := [.pointer (some ⟨b, 0, none⟩)]) rfl) rfl ?_; clear hE a; intro a hE
  refine WL.vS hS hE (runs_plain rfl) (Gives.p hE rfl) rfl ?_; clear hE a; intro a hE
  refine WL.nil ?_
  refine W.ret ?_
  refine finG (fn := Try.f27) (rs := [.tmp 2]) (vs := [_]) hE rfl ⟨rfl, trivial⟩ ?_
  exact ⟨b, rfl, hS⟩
end
theorem itSort_ok {w : World} {s : Sg} {R : List HP} {a : Option Addr} {c n : Nat} {cs : List Value} {l r : List Int} (hS : St w s (vecC 3 1 a c n cs :: R)) (h : Ev 1 (RI .i64) s cs l) (hn : l.length = n) (hr : srt l = some r) :
    Calls Try.prog 36 [.slice a n c].toArray w (fun e w => ∃ (cs0 : List Value), e = .returned (.tuple #[]) ∧ Ev 1 (RI .i64) s cs0 r ∧ r.length = n ∧ St w s (vecC 3 1 a c n cs0 :: R)) := by
  obtain ⟨h1, rfl⟩ := srt_some hr
  rcases Nat.eq_zero_or_pos n with hz | hz
  · subst hz
    have : l = [] := List.eq_nil_of_length_eq_zero hn
    subst this
    refine (Try.slices_Sort_int_none a c w).mono ?_
    rintro e w' ⟨rfl, rfl⟩
    exact ⟨cs, rfl, by simpa [isort] using h, by simp [isort], hS⟩
  · obtain ⟨b, o, rfl⟩ := hS.vecAok 0 rfl hz
    have hb : b < w.heap.size := by
      rcases hS.vec 0 rfl with ⟨_, ⟨h0, _⟩ | ⟨b', o', cur, e1, e2, _⟩⟩
      · cases h0
      · cases e1
        rcases Nat.lt_or_ge b w.heap.size with hl | hg
        · exact hl
        · rw [Array.getElem?_eq_none hg] at e2; cases e2
    have hc := Try.slices_Sort_int b o c l w (hS.holds h) hb (by omega)
    rw [hn] at hc
    refine hc.mono ?_
    rintro e w' ⟨rfl, q, os, rfl⟩
    exact ⟨_, rfl, Ev.ofMap (isort l), by rw [isort_length, hn], hS.putRow (r := isort l) (by rw [isort_length, hn])⟩
set_option maxHeartbeats 8000000 in
theorem Farewithin_ok  {w : World} {s : Sg} {R : List HP} {x0 : Int} {x1 : Int} {x2 : Int} (hS : St w s (R))  {r : Bool} (hr : Farewithin x0 x1 x2 = r) :
    Calls Try.prog 18 [.int .i64 x0, .int .i64 x1, .int .i64 x2].toArray w (fun e w => e = .returned (.bool r) ∧ St w s (R)) := by
  refine enter Try.func18 rfl rfl rfl fun a hE => ?_
  rw [Farewithin] at hr
  refine W.seq ?_
  refine W.region ?_
  refine WL.vS hS hE (runs_plain rfl) (Gives.p hE rfl) rfl ?_; clear hE a; intro a hE
  refine WL.nil ?_
  refine W.seq ?_
  obtain ⟨q52, hq51, hr⟩ := bndS hr
  refine W.cut (fun a w => ∃ (q55 : Bool), q55 = q52 ∧ Rep a 15 [(6, .bool q55)] ∧ St w s (R)) ?_ ?_
  · refine W.gen fun K56 hK56 => ?_
    refine W.region ?_
    refine WL.vS hS hE (runs_plain rfl) (Gives.p hE rfl) rfl ?_; clear hE a; intro a hE
    refine WL.vS hS hE (runs_plain rfl) (Gives.p hE rfl) rfl ?_; clear hE a; intro a hE
    refine WL.vS hS hE (runs_plain rfl) (Gives.p hE rfl) rfl ?_; clear hE a; intro a hE
    refine WL.vS hS hE (runs_plain rfl) (Gives.p hE rfl) rfl ?_; clear hE a; intro a hE
    rcases Bool.eq_false_or_eq_true (decide (x0 ≥ x1)) with hg57 | hg57
    · replace hq51 := iteT hg57 hq51
      refine WL.vS hS hE (runs_if hE rfl rfl rfl hg57) (Gives.p hE rfl) rfl ?_; clear hE a; intro a hE
      refine WL.vS hS hE (runs_if hE rfl rfl rfl hg57) (Gives.p hE rfl) rfl ?_; clear hE a; intro a hE
      refine WL.vS hS hE (runs_if hE rfl rfl rfl hg57) (Gives.p hE rfl) rfl ?_; clear hE a; intro a hE
      refine WL.vS hS hE (runs_plain rfl) (Gives.pickT hE rfl hg57 rfl) rfl ?_; clear hE a; intro a hE
      refine WL.vS hS hE (runs_plain rfl) (Gives.p hE rfl) rfl ?_; clear hE a; intro a hE
      refine WL.nil ?_
      subst hK56
      exact ⟨decide (x0 ≤ x2), hq51, hE.pick _ ⟨rfl, trivial⟩, hS⟩
    · replace hq51 := iteF hg57 hq51
      refine WL.no hE (runs_not hE rfl rfl rfl (by rw [hg57]; decide)) rfl ?_; clear hE a; intro a hE
      refine WL.no hE (runs_not hE rfl rfl rfl (by rw [hg57]; decide)) rfl ?_; clear hE a; intro a hE
      refine WL.no hE (runs_not hE rfl rfl rfl (by rw [hg57]; decide)) rfl ?_; clear hE a; intro a hE
      refine WL.vS hS hE (runs_plain rfl) (Gives.pickF hE rfl hg57 rfl) rfl ?_; clear hE a; intro a hE
      refine WL.vS hS hE (runs_plain rfl) (Gives.p hE rfl) rfl ?_; clear hE a; intro a hE
      refine WL.nil ?_
      subst hK56
      exact ⟨false, hq51, hE.pick _ ⟨rfl, trivial⟩, hS⟩
  · clear hE hS a w; rintro a w ⟨q55, rfl, hE, hS⟩
    refine W.ret ?_
    refine finG (fn := Try.f18) (rs := [.tmp 6]) (vs := [_]) hE rfl ⟨rfl, trivial⟩ ?_
    subst hr
    exact ⟨rfl, hS⟩
set_option maxHeartbeats 8000000 in
theorem FareNewCar_ok  {w : World} {s : Sg} {R : List HP} {x0 : Int} {x1 : Int} {x2 : Int} (hS : St w s (R))  {r : (Option (Int × Int × Int × (List FareBooking) × (List Bool))) × Int} (hr : FareNewCar x0 x1 x2 = r) :
    Calls Try.prog 4 [.int .i64 x0, .int .i64 x1, .int .i64 x2].toArray w (fun e w => (∃ (t : Sg), r.1 = none ∧ e = .returned (.tuple #[.pointer none, .int .i64 r.2]) ∧ s.Le t ∧ St w t (R)) ∨ (∃ (d0 : Int × Int × Int × (List FareBooking) × (List Bool)) (b0 : Nat) (a0_3 : Option Addr) (c0_3 n0_3 : Nat) (cs0_3 : List Value) (a0_4 : Option Addr) (c0_4 n0_4 : Nat) (cs0_4 : List Value) (t : Sg), r.1 = some d0 ∧ e = .returned (.tuple #[.pointer (some ⟨b0, 0, none⟩), .int .i64 r.2]) ∧ s.Le t ∧ Ev 4 RFareBooking t cs0_3 d0.2.2.2.1 ∧ (d0.2.2.2.1).length = n0_3 ∧ Ev 1 RB t cs0_4 d0.2.2.2.2 ∧ (d0.2.2.2.2).length = n0_4 ∧ St w t (pt b0 (.cells #[.int .i64 d0.1, .int .i64 d0.2.1, .int .i64 d0.2.2.1, .slice a0_3 n0_3 c0_3, .slice a0_4 n0_4 c0_4] 48 (0, 0)) :: vecC 39 4 a0_3 c0_3 n0_3 cs0_3 :: vecC 4 1 a0_4 c0_4 n0_4 cs0_4 :: R))) := by
  refine enter Try.func4 rfl rfl rfl fun a hE => ?_
  rw [FareNewCar] at hr
  refine W.seq ?_
  refine W.region ?_
  refine WL.vS hS hE (runs_plain rfl) (Gives.p hE rfl) rfl ?_; clear hE a; intro a hE
  refine WL.vS hS hE (runs_plain rfl) (Gives.p hE rfl) rfl ?_; clear hE a; intro a hE
  refine WL.nil ?_
  refine W.seq ?_
  refine W.seq ?_
  obtain ⟨q52, hq51, hr⟩ := bndS hr
  refine W.cut (fun a w => ∃ (q55 : Bool), q55 = q52 ∧ Rep a 26 [(0, .int .i64 x0), (1, .int .i64 x1), (2, .int .i64 x2), (20, .bool q55)] ∧ St w s (R)) ?_ ?_
  · refine W.gen fun K56 hK56 => ?_
    refine W.region ?_
    refine WL.vS hS hE (runs_plain rfl) (Gives.p hE rfl) rfl ?_; clear hE a; intro a hE
    refine WL.fnq hE (Farewithin_ok hS  rfl (r := Farewithin x0 1 20)) (runs_plain rfl) bd18 rfl rfl rfl ?_
    clear hE hS; rintro e w ⟨rfl, hS⟩; refine ⟨_, rfl, ?_⟩; clear a; intro a hE
    refine WL.vS hS hE (runs_plain rfl) (Gives.p hE rfl) rfl ?_; clear hE a; intro a hE
    refine WL.vS hS hE (runs_plain rfl) (Gives.p hE rfl) rfl ?_; clear hE a; intro a hE
    rcases Bool.eq_false_or_eq_true (!(Farewithin x0 1 20)) with hg57 | hg57
    · replace hq51 := iteT hg57 hq51
      refine WL.no hE (runs_not hE rfl rfl rfl (by rw [hg57]; decide)) rfl ?_; clear hE a; intro a hE
      refine WL.no hE (runs_not hE rfl rfl rfl (by rw [hg57]; decide)) rfl ?_; clear hE a; intro a hE
      refine WL.no hE (runs_not hE rfl rfl rfl (by rw [hg57]; decide)) rfl ?_; clear hE a; intro a hE
      refine WL.vS hS hE (runs_plain rfl) (Gives.pickT hE rfl hg57 rfl) rfl ?_; clear hE a; intro a hE
      refine WL.vS hS hE (runs_plain rfl) (Gives.p hE rfl) rfl ?_; clear hE a; intro a hE
      refine WL.no hE (runs_not hE rfl rfl rfl (by decide)) rfl ?_; clear hE a; intro a hE
      refine WL.no hE (runs_not hE rfl rfl rfl (by decide)) rfl ?_; clear hE a; intro a hE
      refine WL.no hE (runs_not hE rfl rfl rfl (by decide)) rfl ?_; clear hE a; intro a hE
      refine WL.vS hS hE (runs_plain rfl) (Gives.pickT hE rfl rfl rfl) rfl ?_; clear hE a; intro a hE
      refine WL.nil ?_
      subst hK56
      exact ⟨true, hq51, hE.pick _ ⟨rfl, rfl, rfl, rfl, trivial⟩, hS⟩
    · replace hq51 := iteF hg57 hq51
      refine WL.vS hS hE (runs_if hE rfl rfl rfl hg57) (Gives.p hE rfl) rfl ?_; clear hE a; intro a hE
      refine WL.fnq hE (Farewithin_ok hS  rfl (r := Farewithin x1 1 4)) (runs_if hE rfl rfl rfl hg57) bd18 rfl rfl rfl ?_
      clear hE hS; rintro e w ⟨rfl, hS⟩; refine ⟨_, rfl, ?_⟩; clear a; intro a hE
      refine WL.vS hS hE (runs_if hE rfl rfl rfl hg57) (Gives.p hE rfl) rfl ?_; clear hE a; intro a hE
      refine WL.vS hS hE (runs_plain rfl) (Gives.pickF hE rfl hg57 rfl) rfl ?_; clear hE a; intro a hE
      refine WL.vS hS hE (runs_plain rfl) (Gives.p hE rfl) rfl ?_; clear hE a; intro a hE
      rcases Bool.eq_false_or_eq_true (!(Farewithin x1 1 4)) with hg58 | hg58
      · replace hq51 := iteT hg58 hq51
        refine WL.no hE (runs_not hE rfl rfl rfl (by rw [hg58]; decide)) rfl ?_; clear hE a; intro a hE
        refine WL.no hE (runs_not hE rfl rfl rfl (by rw [hg58]; decide)) rfl ?_; clear hE a; intro a hE
        refine WL.no hE (runs_not hE rfl rfl rfl (by rw [hg58]; decide)) rfl ?_; clear hE a; intro a hE
        refine WL.vS hS hE (runs_plain rfl) (Gives.pickT hE rfl hg58 rfl) rfl ?_; clear hE a; intro a hE
        refine WL.nil ?_
        subst hK56
        exact ⟨true, hq51, hE.pick _ ⟨rfl, rfl, rfl, rfl, trivial⟩, hS⟩
      · replace hq51 := iteF hg58 hq51
        refine WL.vS hS hE (runs_if hE rfl rfl rfl hg58) (Gives.p hE rfl) rfl ?_; clear hE a; intro a hE
        refine WL.fnq hE (Farewithin_ok hS  rfl (r := Farewithin x2 2 12)) (runs_if hE rfl rfl rfl hg58) bd18 rfl rfl rfl ?_
        clear hE hS; rintro e w ⟨rfl, hS⟩; refine ⟨_, rfl, ?_⟩; clear a; intro a hE
        refine WL.vS hS hE (runs_if hE rfl rfl rfl hg58) (Gives.p hE rfl) rfl ?_; clear hE a; intro a hE
        refine WL.vS hS hE (runs_plain rfl) (Gives.pickF hE rfl hg58 rfl) rfl ?_; clear hE a; intro a hE
        refine WL.nil ?_
        subst hK56
        exact ⟨!(Farewithin x2 2 12), hq51, hE.pick _ ⟨rfl, rfl, rfl, rfl, trivial⟩, hS⟩
  · clear hE hS a w; rintro a w ⟨q55, rfl, hE, hS⟩
    refine W.cond hE rfl (fun hc59 => ?_) (fun hc59 => ?_)
    · replace hr := iteT hc59 hr
      refine W.seq ?_
      refine W.region ?_
      refine WL.vS hS hE (runs_plain rfl) (Gives.p hE rfl) rfl ?_; clear hE a; intro a hE
      refine WL.vS hS hE (runs_plain rfl) (Gives.p hE rfl) rfl ?_; clear hE a; intro a hE
      refine WL.nil ?_
      refine W.ret ?_
      refine finG (fn := Try.f4) (rs := [.tmp 6, .tmp 7]) (vs := [_, _]) hE rfl ⟨rfl, rfl, trivial⟩ ?_
      subst hr
      exact .inl ⟨s, rfl, rfl, (Sg.Le.refl _), hS⟩
    · replace hr := iteF hc59 hr
      refine W.skip ?_
      refine W.seq ?_
      refine W.region ?_
      refine WL.vS hS hE (runs_plain rfl) (Gives.p hE rfl) rfl ?_; clear hE a; intro a hE
      refine WL.vS hS hE (runs_plain rfl) (Gives.p hE rfl) rfl ?_; clear hE a; intro a hE
      refine WL.vS hS hE (runs_plain rfl) (Gives.p hE rfl) rfl ?_; clear hE a; intro a hE
      refine WL.vS hS hE (runs_plain rfl) (Gives.build hE (vs := [(0, .int .i64 x0), (1, .int .i64 x1), (2, .int .i64 x2)]) [.int .i64 x0, .int .i64 x1, .int .i64 x2, .slice none 0 0, .slice none 0 0] rfl (by kernel_rfl)) rfl ?_; clear hE a; intro a hE
      refine WL.box hE hS (runs_plain rfl) rfl rfl rfl ?_; clear hE hS a w; intro b60 a w hE hS
      refine WL.vS hS hE (runs_plain rfl) (Gives.p hE rfl) rfl ?_; clear hE a; intro a hE
      refine WL.vS hS hE (runs_plain rfl) (Gives.p hE rfl) rfl ?_; clear hE a; intro a hE
      refine WL.nil ?_
      refine W.ret ?_
      replace hS := hS.vecNil 39 4
      replace hS := hS.vecNil 4 1
      refine finG (fn := Try.f4) (rs := [.tmp 6, .tmp 7]) (vs := [_, _]) hE rfl ⟨rfl, rfl, trivial⟩ ?_
      subst hr
      replace hS := hS.front 1 rfl
      replace hS := hS.front 2 rfl
      exact .inr ⟨_, b60, none, 0, 0, [], none, 0, 0, [], s, rfl, rfl, (Sg.Le.refl _), (Ev.nil), (rfl), (Ev.nil), (rfl), hS⟩
set_option maxHeartbeats 8000000 in
theorem Fishref2within_ok  {w : World} {s : Sg} {R : List HP} {x0 : Int} {x1 : Int} {x2 : Int} (hS : St w s (R))  {r : Bool} (hr : Fishref2within x0 x1 x2 = r) :
    Calls Try.prog 19 [.int .i64 x0, .int .i64 x1, .int .i64 x2].toArray w (fun e w => e = .returned (.bool r) ∧ St w s (R)) := by
  refine enter Try.func19 rfl rfl rfl fun a hE => ?_
  rw [Fishref2within] at hr
  refine W.seq ?_
  refine W.region ?_
  refine WL.vS hS hE (runs_plain rfl) (Gives.p hE rfl) rfl ?_; clear hE a; intro a hE
  refine WL.nil ?_
  refine W.seq ?_
  obtain ⟨q52, hq51, hr⟩ := bndS hr
  refine W.cut (fun a w => ∃ (q55 : Bool), q55 = q52 ∧ Rep a 15 [(6, .bool q55)] ∧ St w s (R)) ?_ ?_
  · refine W.gen fun K56 hK56 => ?_
    refine W.region ?_
    refine WL.vS hS hE (runs_plain rfl) (Gives.p hE rfl) rfl ?_; clear hE a; intro a hE
    refine WL.vS hS hE (runs_plain rfl) (Gives.p hE rfl) rfl ?_; clear hE a; intro a hE
    refine WL.vS hS hE (runs_plain rfl) (Gives.p hE rfl) rfl ?_; clear hE a; intro a hE
    refine WL.vS hS hE (runs_plain rfl) (Gives.p hE rfl) rfl ?_; clear hE a; intro a hE
    rcases Bool.eq_false_or_eq_true (decide (x0 ≥ x1)) with hg57 | hg57
    · replace hq51 := iteT hg57 hq51
      refine WL.vS hS hE (runs_if hE rfl rfl rfl hg57) (Gives.p hE rfl) rfl ?_; clear hE a; intro a hE
      refine WL.vS hS hE (runs_if hE rfl rfl rfl hg57) (Gives.p hE rfl) rfl ?_; clear hE a; intro a hE
      refine WL.vS hS hE (runs_if hE rfl rfl rfl hg57) (Gives.p hE rfl) rfl ?_; clear hE a; intro a hE
      refine WL.vS hS hE (runs_plain rfl) (Gives.pickT hE rfl hg57 rfl) rfl ?_; clear hE a; intro a hE
      refine WL.vS hS hE (runs_plain rfl) (Gives.p hE rfl) rfl ?_; clear hE a; intro a hE
      refine WL.nil ?_
      subst hK56
      exact ⟨decide (x0 ≤ x2), hq51, hE.pick _ ⟨rfl, trivial⟩, hS⟩
    · replace hq51 := iteF hg57 hq51
      refine WL.no hE (runs_not hE rfl rfl rfl (by rw [hg57]; decide)) rfl ?_; clear hE a; intro a hE
      refine WL.no hE (runs_not hE rfl rfl rfl (by rw [hg57]; decide)) rfl ?_; clear hE a; intro a hE
      refine WL.no hE (runs_not hE rfl rfl rfl (by rw [hg57]; decide)) rfl ?_; clear hE a; intro a hE
      refine WL.vS hS hE (runs_plain rfl) (Gives.pickF hE rfl hg57 rfl) rfl ?_; clear hE a; intro a hE
      refine WL.vS hS hE (runs_plain rfl) (Gives.p hE rfl) rfl ?_; clear hE a; intro a hE
      refine WL.nil ?_
      subst hK56
      exact ⟨false, hq51, hE.pick _ ⟨rfl, trivial⟩, hS⟩
  · clear hE hS a w; rintro a w ⟨q55, rfl, hE, hS⟩
    refine W.ret ?_
    refine finG (fn := Try.f19) (rs := [.tmp 6]) (vs := [_]) hE rfl ⟨rfl, trivial⟩ ?_
    subst hr
    exact ⟨rfl, hS⟩
set_option maxHeartbeats 8000000 in
theorem Fishref2CarFault_ok  {w : World} {s : Sg} {R : List HP} {x0 : Int} {x1 : Int} {x2 : Int} (hS : St w s (R))  {r : Int} (hr : Fishref2CarFault x0 x1 x2 = r) :
    Calls Try.prog 5 [.int .i64 x0, .int .i64 x1, .int .i64 x2].toArray w (fun e w => e = .returned (.int .i64 r) ∧ St w s (R)) := by
  refine enter Try.func5 rfl rfl rfl fun a hE => ?_
  rw [Fishref2CarFault] at hr
  refine W.seq ?_
  refine W.region ?_
  refine WL.vS hS hE (runs_plain rfl) (Gives.p hE rfl) rfl ?_; clear hE a; intro a hE
  refine WL.nil ?_
  refine W.seq ?_
  refine W.seq ?_
  obtain ⟨q52, hq51, hr⟩ := bndS hr
  refine W.cut (fun a w => ∃ (q55 : Bool), q55 = q52 ∧ Rep a 20 [(19, .bool q55)] ∧ St w s (R)) ?_ ?_
  · refine W.gen fun K56 hK56 => ?_
    refine W.region ?_
    refine WL.vS hS hE (runs_plain rfl) (Gives.p hE rfl) rfl ?_; clear hE a; intro a hE
    refine WL.fnq hE (Fishref2within_ok hS  rfl (r := Fishref2within x0 1 20)) (runs_plain rfl) bd19 rfl rfl rfl ?_
    clear hE hS; rintro e w ⟨rfl, hS⟩; refine ⟨_, rfl, ?_⟩; clear a; intro a hE
    refine WL.vS hS hE (runs_plain rfl) (Gives.p hE rfl) rfl ?_; clear hE a; intro a hE
    refine WL.vS hS hE (runs_plain rfl) (Gives.p hE rfl) rfl ?_; clear hE a; intro a hE
    rcases Bool.eq_false_or_eq_true (!(Fishref2within x0 1 20)) with hg57 | hg57
    · replace hq51 := iteT hg57 hq51
      refine WL.no hE (runs_not hE rfl rfl rfl (by rw [hg57]; decide)) rfl ?_; clear hE a; intro a hE
      refine WL.no hE (runs_not hE rfl rfl rfl (by rw [hg57]; decide)) rfl ?_; clear hE a; intro a hE
      refine WL.no hE (runs_not hE rfl rfl rfl (by rw [hg57]; decide)) rfl ?_; clear hE a; intro a hE
      refine WL.vS hS hE (runs_plain rfl) (Gives.pickT hE rfl hg57 rfl) rfl ?_; clear hE a; intro a hE
      refine WL.vS hS hE (runs_plain rfl) (Gives.p hE rfl) rfl ?_; clear hE a; intro a hE
      refine WL.no hE (runs_not hE rfl rfl rfl (by decide)) rfl ?_; clear hE a; intro a hE
      refine WL.no hE (runs_not hE rfl rfl rfl (by decide)) rfl ?_; clear hE a; intro a hE
      refine WL.no hE (runs_not hE rfl rfl rfl (by decide)) rfl ?_; clear hE a; intro a hE
      refine WL.vS hS hE (runs_plain rfl) (Gives.pickT hE rfl rfl rfl) rfl ?_; clear hE a; intro a hE
      refine WL.nil ?_
      subst hK56
      exact ⟨true, hq51, hE.pick _ ⟨rfl, trivial⟩, hS⟩
    · replace hq51 := iteF hg57 hq51
      refine WL.vS hS hE (runs_if hE rfl rfl rfl hg57) (Gives.p hE rfl) rfl ?_; clear hE a; intro a hE
      refine WL.fnq hE (Fishref2within_ok hS  rfl (r := Fishref2within x1 1 4)) (runs_if hE rfl rfl rfl hg57) bd19 rfl rfl rfl ?_
      clear hE hS; rintro e w ⟨rfl, hS⟩; refine ⟨_, rfl, ?_⟩; clear a; intro a hE
      refine WL.vS hS hE (runs_if hE rfl rfl rfl hg57) (Gives.p hE rfl) rfl ?_; clear hE a; intro a hE
      refine WL.vS hS hE (runs_plain rfl) (Gives.pickF hE rfl hg57 rfl) rfl ?_; clear hE a; intro a hE
      refine WL.vS hS hE (runs_plain rfl) (Gives.p hE rfl) rfl ?_; clear hE a; intro a hE
      rcases Bool.eq_false_or_eq_true (!(Fishref2within x1 1 4)) with hg58 | hg58
      · replace hq51 := iteT hg58 hq51
        refine WL.no hE (runs_not hE rfl rfl rfl (by rw [hg58]; decide)) rfl ?_; clear hE a; intro a hE
        refine WL.no hE (runs_not hE rfl rfl rfl (by rw [hg58]; decide)) rfl ?_; clear hE a; intro a hE
        refine WL.no hE (runs_not hE rfl rfl rfl (by rw [hg58]; decide)) rfl ?_; clear hE a; intro a hE
        refine WL.vS hS hE (runs_plain rfl) (Gives.pickT hE rfl hg58 rfl) rfl ?_; clear hE a; intro a hE
        refine WL.nil ?_
        subst hK56
        exact ⟨true, hq51, hE.pick _ ⟨rfl, trivial⟩, hS⟩
      · replace hq51 := iteF hg58 hq51
        refine WL.vS hS hE (runs_if hE rfl rfl rfl hg58) (Gives.p hE rfl) rfl ?_; clear hE a; intro a hE
        refine WL.fnq hE (Fishref2within_ok hS  rfl (r := Fishref2within x2 2 12)) (runs_if hE rfl rfl rfl hg58) bd19 rfl rfl rfl ?_
        clear hE hS; rintro e w ⟨rfl, hS⟩; refine ⟨_, rfl, ?_⟩; clear a; intro a hE
        refine WL.vS hS hE (runs_if hE rfl rfl rfl hg58) (Gives.p hE rfl) rfl ?_; clear hE a; intro a hE
        refine WL.vS hS hE (runs_plain rfl) (Gives.pickF hE rfl hg58 rfl) rfl ?_; clear hE a; intro a hE
        refine WL.nil ?_
        subst hK56
        exact ⟨!(Fishref2within x2 2 12), hq51, hE.pick _ ⟨rfl, trivial⟩, hS⟩
  · clear hE hS a w; rintro a w ⟨q55, rfl, hE, hS⟩
    refine W.cond hE rfl (fun hc59 => ?_) (fun hc59 => ?_)
    · replace hr := iteT hc59 hr
      refine W.seq ?_
      refine W.region ?_
      refine WL.vS hS hE (runs_plain rfl) (Gives.p hE rfl) rfl ?_; clear hE a; intro a hE
      refine WL.nil ?_
      refine W.ret ?_
      refine finG (fn := Try.f5) (rs := [.tmp 6]) (vs := [_]) hE rfl ⟨rfl, trivial⟩ ?_
      subst hr
      exact ⟨rfl, hS⟩
    · replace hr := iteF hc59 hr
      refine W.skip ?_
      refine W.seq ?_
      refine W.region ?_
      refine WL.vS hS hE (runs_plain rfl) (Gives.p hE rfl) rfl ?_; clear hE a; intro a hE
      refine WL.nil ?_
      refine W.ret ?_
      refine finG (fn := Try.f5) (rs := [.tmp 6]) (vs := [_]) hE rfl ⟨rfl, trivial⟩ ?_
      subst hr
      exact ⟨rfl, hS⟩
set_option maxHeartbeats 8000000 in
theorem Farespan_ok  {w : World} {s : Sg} {R : List HP} {x0 : Int} {x1 : Int} {x2 : Int} (hS : St w s (R))  {r : Bool} (hr : Farespan x0 x1 x2 = r) :
    Calls Try.prog 20 [.int .i64 x0, .int .i64 x1, .int .i64 x2].toArray w (fun e w => e = .returned (.bool r) ∧ St w s (R)) := by
  refine enter Try.func20 rfl rfl rfl fun a hE => ?_
  rw [Farespan] at hr
  refine W.seq ?_
  refine W.region ?_
  refine WL.vS hS hE (runs_plain rfl) (Gives.p hE rfl) rfl ?_; clear hE a; intro a hE
  refine WL.nil ?_
  refine W.seq ?_
  obtain ⟨q52, hq51, hr⟩ := bndS hr
  refine W.cut (fun a w => ∃ (q55 : Bool), q55 = q52 ∧ Rep a 19 [(6, .bool q55)] ∧ St w s (R)) ?_ ?_
  · refine W.gen fun K56 hK56 => ?_
    refine W.region ?_
    refine WL.vS hS hE (runs_plain rfl) (Gives.p hE rfl) rfl ?_; clear hE a; intro a hE
    refine WL.vS hS hE (runs_plain rfl) (Gives.p hE rfl) rfl ?_; clear hE a; intro a hE
    refine WL.vS hS hE (runs_plain rfl) (Gives.p hE rfl) rfl ?_; clear hE a; intro a hE
    rcases Bool.eq_false_or_eq_true (decide (x0 ≥ 0)) with hg57 | hg57
    · replace hq51 := iteT hg57 hq51
      refine WL.vS hS hE (runs_if hE rfl rfl rfl hg57) (Gives.p hE rfl) rfl ?_; clear hE a; intro a hE
      refine WL.vS hS hE (runs_if hE rfl rfl rfl hg57) (Gives.p hE rfl) rfl ?_; clear hE a; intro a hE
      refine WL.vS hS hE (runs_if hE rfl rfl rfl hg57) (Gives.p hE rfl) rfl ?_; clear hE a; intro a hE
      refine WL.vS hS hE (runs_plain rfl) (Gives.pickT hE rfl hg57 rfl) rfl ?_; clear hE a; intro a hE
      refine WL.vS hS hE (runs_plain rfl) (Gives.p hE rfl) rfl ?_; clear hE a; intro a hE
      rcases Bool.eq_false_or_eq_true (decide (x0 < x1)) with hg58 | hg58
      · replace hq51 := iteT hg58 hq51
        refine WL.vS hS hE (runs_if hE rfl rfl rfl hg58) (Gives.p hE rfl) rfl ?_; clear hE a; intro a hE
        refine WL.vS hS hE (runs_if hE rfl rfl rfl hg58) (Gives.p hE rfl) rfl ?_; clear hE a; intro a hE
        refine WL.vS hS hE (runs_if hE rfl rfl rfl hg58) (Gives.p hE rfl) rfl ?_; clear hE a; intro a hE
        refine WL.vS hS hE (runs_plain rfl) (Gives.pickT hE rfl hg58 rfl) rfl ?_; clear hE a; intro a hE
        refine WL.vS hS hE (runs_plain rfl) (Gives.p hE rfl) rfl ?_; clear hE a; intro a hE
        refine WL.nil ?_
        subst hK56
        exact ⟨decide (x1 < x2), hq51, hE.pick _ ⟨rfl, trivial⟩, hS⟩
      · replace hq51 := iteF hg58 hq51
        refine WL.no hE (runs_not hE rfl rfl rfl (by rw [hg58]; decide)) rfl ?_; clear hE a; intro a hE
        refine WL.no hE (runs_not hE rfl rfl rfl (by rw [hg58]; decide)) rfl ?_; clear hE a; intro a hE
        refine WL.no hE (runs_not hE rfl rfl rfl (by rw [hg58]; decide)) rfl ?_; clear hE a; intro a hE
        refine WL.vS hS hE (runs_plain rfl) (Gives.pickF hE rfl hg58 rfl) rfl ?_; clear hE a; intro a hE
        refine WL.vS hS hE (runs_plain rfl) (Gives.p hE rfl) rfl ?_; clear hE a; intro a hE
        refine WL.nil ?_
        subst hK56
        exact ⟨false, hq51, hE.pick _ ⟨rfl, trivial⟩, hS⟩
    · replace hq51 := iteF hg57 hq51
      refine WL.no hE (runs_not hE rfl rfl rfl (by rw [hg57]; decide)) rfl ?_; clear hE a; intro a hE
      refine WL.no hE (runs_not hE rfl rfl rfl (by rw [hg57]; decide)) rfl ?_; clear hE a; intro a hE
      refine WL.no hE (runs_not hE rfl rfl rfl (by rw [hg57]; decide)) rfl ?_; clear hE a; intro a hE
      refine WL.vS hS hE (runs_plain rfl) (Gives.pickF hE rfl hg57 rfl) rfl ?_; clear hE a; intro a hE
      refine WL.vS hS hE (runs_plain rfl) (Gives.p hE rfl) rfl ?_; clear hE a; intro a hE
      refine WL.no hE (runs_not hE rfl rfl rfl (by decide)) rfl ?_; clear hE a; intro a hE
      refine WL.no hE (runs_not hE rfl rfl rfl (by decide)) rfl ?_; clear hE a; intro a hE
      refine WL.no hE (runs_not hE rfl rfl rfl (by decide)) rfl ?_; clear hE a; intro a hE
      refine WL.vS hS hE (runs_plain rfl) (Gives.pickF hE rfl rfl rfl) rfl ?_; clear hE a; intro a hE
      refine WL.vS hS hE (runs_plain rfl) (Gives.p hE rfl) rfl ?_; clear hE a; intro a hE
      refine WL.nil ?_
      subst hK56
      exact ⟨false, hq51, hE.pick _ ⟨rfl, trivial⟩, hS⟩
  · clear hE hS a w; rintro a w ⟨q55, rfl, hE, hS⟩
    refine W.ret ?_
    refine finG (fn := Try.f20) (rs := [.tmp 6]) (vs := [_]) hE rfl ⟨rfl, trivial⟩ ?_
    subst hr
    exact ⟨rfl, hS⟩
set_option maxHeartbeats 8000000 in
theorem SlicesIndexLint_ok  {w : World} {s : Sg} {R : List HP} {x0 : List Int} {a0 : Option Addr} {c0 : Nat} {x1 : Int} (hS : St w s (R)) (h0 : Sl 1 (RI .i64) s a0 c0 x0) {r : Int} (hr : SlicesIndexLint x0 x1 = r) :
    Calls Try.prog 40 [.slice a0 x0.length c0, .int .i64 x1].toArray w (fun e w => e = .returned (.int .i64 r) ∧ St w s (R)) := by
  refine enter Try.func40 rfl rfl rfl fun a hE => ?_
  rw [SlicesIndexLint] at hr
  refine W.seq ?_
  refine W.region ?_
  refine WL.vS hS hE (runs_plain rfl) (Gives.p hE rfl) rfl ?_; clear hE a; intro a hE
  refine WL.nil ?_
  refine W.seq ?_
  refine W.seq ?_
  refine W.region ?_
  refine WL.vS hS hE (runs_plain rfl) (Gives.p hE rfl) rfl ?_; clear hE a; intro a hE
  refine WL.vS hS hE (runs_plain rfl) (Gives.len hE rfl sl22) rfl ?_; clear hE a; intro a hE
  refine WL.vS hS hE (runs_plain rfl) (Gives.p hE rfl) rfl ?_; clear hE a; intro a hE
  refine WL.nil ?_
  obtain ⟨q52, hq51, hr⟩ := bndS hr
  refine W.cut (fun a w => (.next ()) = q52 ∧ Rep a 19 [] ∧ St w s (R)) ?_ ?_
  · refine W.block ?_
    refine W.loop (fun m a w => ∃ (rest55 : List Int) (k53 : Nat), rest55.length = m ∧ x0.drop k53 = rest55 ∧ SlicesIndexLint.loop1 x1 rest55 k53 = q52 ∧ Rep a 19 [(0, .slice a0 x0.length c0), (1, .int .i64 x1), (7, .int .i64 ((x0).length : Int)), (8, .int .i64 ((k53 : Nat) : Int))] ∧ St w s (R)) (m := x0.length) ⟨x0, 0, rfl, rfl, hq51, hE.pick _ ⟨rfl, rfl, rfl, rfl, trivial⟩, hS⟩ ?_
    clear hE hS a w hq51; rintro m59 a w ⟨rest55, k53, rfl, hd56, hq51, hE, hS⟩
    refine W.gen fun K62 hK62 => ?_
    rcases rest55 with _ | ⟨x54, rest55⟩
    · have hlt57 := drop_nil hd56
      refine W.seq ?_
      refine W.region ?_
      refine WL.vS hS hE (runs_plain rfl) (Gives.p hE rfl) rfl ?_; clear hE a; intro a hE
      refine WL.nil ?_
      refine W.seq ?_
      refine W.condF hE rfl (decide_eq_false (by omega)) ?_
      subst hK62
      refine W.exit rfl ?_
      exact ⟨hq51, hE.pick _ trivial, hS⟩
    · obtain ⟨hlt57, hx58, hd56⟩ := drop_cons hd56
      rw [SlicesIndexLint.loop1] at hq51
      refine W.seq ?_
      refine W.region ?_
      refine WL.vS hS hE (runs_plain rfl) (Gives.p hE rfl) rfl ?_; clear hE a; intro a hE
      refine WL.nil ?_
      refine W.seq ?_
      refine W.condT hE rfl (decide_eq_true (by omega)) ?_
      refine W.skip ?_
      refine W.seq ?_
      refine W.block ?_
      refine W.seq ?_
      refine W.region ?_
      refine WL.vS hS hE (runs_plain rfl) (Gives.p hE rfl) rfl ?_; clear hE a; intro a hE
      refine WL.vS hS hE (runs_plain rfl) (Gives.p hE rfl) rfl ?_; clear hE a; intro a hE
      refine WL.nil ?_
      refine W.seq ?_
      refine W.region ?_
      refine WL.vS hS hE (runs_plain rfl) (Gives.p hE rfl) rfl ?_; clear hE a; intro a hE
      refine WL.vS hS hE (runs_plain rfl) (Gives.p hE rfl) rfl ?_; clear hE a; intro a hE
      refine WL.vS hS hE (runs_plain rfl) (Gives.p hE rfl) rfl ?_; clear hE a; intro a hE
      obtain ⟨cs63, hl64, hR65, hat66⟩ := h0.at hx58
      subst hR65
      refine WL.vS hS hE (runs_plain rfl) (Gives.idx hE k53 rfl rfl sl22 rfl hlt57 (h0.aok hlt57)) rfl ?_; clear hE a; intro a hE
      refine WL.vS hS hE (runs_plain rfl) (Gives.load1 hE rfl (fun w h => hat66 w _ h) ty3) rfl ?_; clear hE a; intro a hE
      refine WL.vS hS hE (runs_plain rfl) (Gives.p hE rfl) rfl ?_; clear hE a; intro a hE
      refine WL.nil ?_
      refine W.cond hE rfl (fun hc67 => ?_) (fun hc67 => ?_)
      · replace hq51 := iteT hc67 hq51
        refine W.seq ?_
        refine W.region ?_
        refine WL.vS hS hE (runs_plain rfl) (Gives.p hE rfl) rfl ?_; clear hE a; intro a hE
        refine WL.vS hS hE (runs_plain rfl) (Gives.p hE rfl) rfl ?_; clear hE a; intro a hE
        refine WL.nil ?_
        refine W.ret ?_
        subst hK62
        rw [← hq51] at hr
        dsimp only at hr
        refine finG (fn := Try.f40) (rs := [.tmp 4]) (vs := [_]) hE rfl ⟨rfl, trivial⟩ ?_
        subst hr
        exact ⟨rfl, hS⟩
      · replace hq51 := iteF hc67 hq51
        refine W.skip ?_
        refine W.region ?_
        refine WL.vS hS hE (runs_plain rfl) (Gives.inc hE rfl (by have := h0.small; omega)) rfl ?_; clear hE a; intro a hE
        refine WL.vS hS hE (runs_plain rfl) (Gives.p hE rfl) rfl ?_; clear hE a; intro a hE
        refine WL.nil ?_
        subst hK62
        exact ⟨rest55.length, Nat.lt_succ_self _, rest55, k53 + 1, rfl, hd56, hq51, hE.pick _ ⟨rfl, rfl, rfl, rfl, trivial⟩, hS⟩
  · clear hE hS a w; rintro a w ⟨rfl, hE, hS⟩
    dsimp only at hr
    refine W.seq ?_
    refine W.region ?_
    refine WL.vS hS hE (runs_plain rfl) (Gives.p hE rfl) rfl ?_; clear hE a; intro a hE
    refine WL.nil ?_
    refine W.ret ?_
    refine finG (fn := Try.f40) (rs := [.tmp 4]) (vs := [_]) hE rfl ⟨rfl, trivial⟩ ?_
    subst hr
    exact ⟨rfl, hS⟩
set_option maxHeartbeats 8000000 in
theorem SlicesContainsLint_ok  {w : World} {s : Sg} {R : List HP} {x0 : List Int} {a0 : Option Addr} {c0 : Nat} {x1 : Int} (hS : St w s (R)) (h0 : Sl 1 (RI .i64) s a0 c0 x0) {r : Bool} (hr : SlicesContainsLint x0 x1 = r) :
    Calls Try.prog 31 [.slice a0 x0.length c0, .int .i64 x1].toArray w (fun e w => e = .returned (.bool r) ∧ St w s (R)) := by
  refine enter Try.func31 rfl rfl rfl fun a hE => ?_
  rw [SlicesContainsLint] at hr
  refine W.seq ?_
  refine W.region ?_
  refine WL.vS hS hE (runs_plain rfl) (Gives.p hE rfl) rfl ?_; clear hE a; intro a hE
  refine WL.nil ?_
  refine W.seq ?_
  refine W.region ?_
  refine WL.vS hS hE (runs_plain rfl) (Gives.p hE rfl) rfl ?_; clear hE a; intro a hE
  refine WL.vS hS hE (runs_plain rfl) (Gives.p hE rfl) rfl ?_; clear hE a; intro a hE
  refine WL.fnq hE (SlicesIndexLint_ok hS h0 rfl (r := SlicesIndexLint x0 x1)) (runs_plain rfl) bd40 rfl rfl rfl ?_
  clear hE hS; rintro e w ⟨rfl, hS⟩; refine ⟨_, rfl, ?_⟩; clear a; intro a hE
  refine WL.vS hS hE (runs_plain rfl) (Gives.p hE rfl) rfl ?_; clear hE a; intro a hE
  refine WL.vS hS hE (runs_plain rfl) (Gives.p hE rfl) rfl ?_; clear hE a; intro a hE
  refine WL.nil ?_
  refine W.ret ?_
  refine finG (fn := Try.f31) (rs := [.tmp 4]) (vs := [_]) hE rfl ⟨rfl, trivial⟩ ?_
  subst hr
  exact ⟨rfl, hS⟩
set_option maxHeartbeats 8000000 in
theorem FareCarof_v1_ok  {w : World} {s : Sg} {R : List HP} {pb0 : Nat} {x1 : Int} {y0 : FareCar} {a_v0 : Option Addr} {c_v0 n_v0 : Nat} {cs_v0 : List Value} {a_v1 : Option Addr} {c_v1 n_v1 : Nat} {cs_v1 : List Value} (hS : St w s (pt pb0 (.cells #[.int .i64 y0.rows, .int .i64 y0.across, .int .i64 y0.stops, .slice a_v0 n_v0 c_v0, .slice a_v1 n_v1 c_v1] 48 (0, 0)) :: vecC 39 4 a_v0 c_v0 n_v0 cs_v0 :: vecC 4 1 a_v1 c_v1 n_v1 cs_v1 :: R)) (h_v0 : Ev 4 RFareBooking s cs_v0 y0.bookings) (hn_v0 : y0.bookings.length = n_v0) (h_v1 : Ev 1 RB s cs_v1 y0.cancelled) (hn_v1 : y0.cancelled.length = n_v1) {r : (List FareBooking)} (hr : FareCarof_v1 x1 y0 = some r) :
    Calls Try.prog 29 [.pointer (some ⟨pb0, 0, none⟩), .int .i64 x1].toArray w (fun e w => ∃ (a0 : Option Addr) (c0 n0 : Nat) (cs0 : List Value), e = .returned (.slice a0 n0 c0) ∧ Ev 4 RFareBooking s cs0 r ∧ r.length = n0 ∧ St w s (vecC 39 4 a0 c0 n0 cs0 :: pt pb0 (.cells #[.int .i64 y0.rows, .int .i64 y0.across, .int .i64 y0.stops, .slice a_v0 n_v0 c_v0, .slice a_v1 n_v1 c_v1] 48 (0, 0)) :: vecC 39 4 a_v0 c_v0 n_v0 cs_v0 :: vecC 4 1 a_v1 c_v1 n_v1 cs_v1 :: R)) := by
  refine enter Try.func29 rfl rfl rfl fun a hE => ?_
  rw [FareCarof_v1] at hr
  subst hn_v0
  subst hn_v1
  refine W.seq ?_
  refine W.region ?_
  refine WL.vS hS hE (runs_plain rfl) (Gives.p hE rfl) rfl ?_; clear hE a; intro a hE
  refine WL.nil ?_
  refine W.seq ?_
  refine W.region ?_
  replace hS := hS.vecNil 39 4
  refine WL.vS hS hE (runs_plain rfl) (Gives.p hE rfl) rfl ?_; clear hE a; intro a hE
  refine WL.nil ?_
  refine W.seq ?_
  refine W.seq ?_
  refine W.region ?_
  refine WL.vS hS hE (runs_plain rfl) (Gives.p hE rfl) rfl ?_; clear hE a; intro a hE
  refine WL.vS hS hE (runs_plain rfl) (Gives.nilOk hE rfl) rfl ?_; clear hE a; intro a hE
  refine WL.vS hS hE (runs_plain rfl) (Gives.fld hE rfl fl48_3) rfl ?_; clear hE a; intro a hE
  refine WL.vS hS hE (runs_plain rfl) (Gives.loadB hE 1 rfl rfl rfl ty30) rfl ?_; clear hE a; intro a hE
  refine WL.vS hS hE (runs_plain rfl) (Gives.len hE rfl sl30) rfl ?_; clear hE a; intro a hE
  refine WL.vS hS hE (runs_plain rfl) (Gives.p hE rfl) rfl ?_; clear hE a; intro a hE
  refine WL.nil ?_
  have hb63 : y0.bookings.length ≤ 9223372036854775807 := by have := hS.vecCap 2 rfl; unfold maxLen at this; omega
  obtain ⟨q53, hq52, hr⟩ := bindS hr
  refine W.cut (fun a w => ∃ (q64 : List FareBooking), ∃ (a65 : Option Addr), ∃ (c66 : Nat), ∃ (n68 : Nat), ∃ (cs69 : List Value), q64 = q53 ∧ Ev 4 RFareBooking s cs69 q64 ∧ q64.length = n68 ∧ Rep a 38 [(5, .slice a65 n68 c66)] ∧ St w s (vecC 39 4 a65 c66 n68 cs69 :: pt pb0 (.cells #[.int .i64 y0.rows, .int .i64 y0.across, .int .i64 y0.stops, .slice a_v0 y0.bookings.length c_v0, .slice a_v1 y0.cancelled.length c_v1] 48 (0, 0)) :: vecC 39 4 a_v0 c_v0 y0.bookings.length cs_v0 :: vecC 4 1 a_v1 c_v1 y0.cancelled.length cs_v1 :: R)) ?_ ?_
  · refine W.block ?_
    refine W.loop (fun m a w => ∃ (rest56 : Nat) (k54 : Nat), ∃ (q64 : List FareBooking), ∃ (a65 : Option Addr), ∃ (c66 : Nat), ∃ (n68 : Nat), ∃ (cs69 : List Value), rest56 = m ∧ k54 + rest56 = y0.bookings.length ∧ FareCarof_v1.loop1 x1 y0 rest56 k54 q64 = some q53 ∧ Ev 4 RFareBooking s cs69 q64 ∧ q64.length = n68 ∧ Rep a 38 [(0, .pointer (some ⟨pb0, 0, none⟩)), (1, .int .i64 x1), (5, .slice a65 n68 c66), (11, .slice a_v0 y0.bookings.length c_v0), (12, .int .i64 ((y0.bookings.length : Nat) : Int)), (13, .int .i64 ((k54 : Nat) : Int))] ∧ St w s (vecC 39 4 a65 c66 n68 cs69 :: pt pb0 (.cells #[.int .i64 y0.rows, .int .i64 y0.across, .int .i64 y0.stops, .slice a_v0 y0.bookings.length c_v0, .slice a_v1 y0.cancelled.length c_v1] 48 (0, 0)) :: vecC 39 4 a_v0 c_v0 y0.bookings.length cs_v0 :: vecC 4 1 a_v1 c_v1 y0.cancelled.length cs_v1 :: R)) (m := y0.bookings.length) ⟨y0.bookings.length, 0, [], none, 0, 0, [], rfl, by omega, hq52, (Ev.nil), (rfl), hE.pick _ ⟨rfl, rfl, rfl, rfl, rfl, rfl, trivial⟩, hS⟩ ?_
    clear hE hS a w hq52; rintro m60 a w ⟨rest56, k54, q64, a65, c66, n68, cs69, rfl, hd57, hq52, h67, rfl, hE, hS⟩
    refine W.gen fun K71 hK71 => ?_
    rcases rest56 with _ | rest56
    · skip
      refine W.seq ?_
      refine W.region ?_
      refine WL.vS hS hE (runs_plain rfl) (Gives.p hE rfl) rfl ?_; clear hE a; intro a hE
      refine WL.nil ?_
      refine W.seq ?_
      refine W.condF hE rfl (decide_eq_false (by omega)) ?_
      subst hK71
      refine W.exit rfl ?_
      exact ⟨q64, a65, c66, q64.length, cs69, Option.some.inj hq52, h67, rfl, hE.pick _ ⟨rfl, trivial⟩, hS⟩
    · have hlt58 : k54 < y0.bookings.length := by omega
      rw [FareCarof_v1.loop1] at hq52
      refine W.seq ?_
      refine W.region ?_
      refine WL.vS hS hE (runs_plain rfl) (Gives.p hE rfl) rfl ?_; clear hE a; intro a hE
      refine WL.nil ?_
      refine W.seq ?_
      refine W.condT hE rfl (decide_eq_true (by omega)) ?_
      refine W.skip ?_
      refine W.seq ?_
      refine W.block ?_
      refine W.seq ?_
      refine W.region ?_
      refine WL.vS hS hE (runs_plain rfl) (Gives.p hE rfl) rfl ?_; clear hE a; intro a hE
      obtain ⟨x72, hx73, hq52⟩ := bindS hq52
      obtain ⟨hi74, hlt75, hy76⟩ := gx_some hx73
      obtain ⟨vs77, hl78, hR79, hd80, hget81⟩ := h_v0.at hy76
      obtain ⟨a82, c83, rfl, h84⟩ := hR79
      refine WL.vS hS hE (runs_plain rfl) (Gives.idx hE ((((k54 : Nat) : Int)).toNat) rfl rfl sl30 hi74 (by omega) (hS.vecAok 2 rfl (by omega : (((k54 : Nat) : Int)).toNat < y0.bookings.length))) rfl ?_; clear hE a; intro a hE
      refine WL.vS hS hE (runs_plain rfl) (Gives.loadA hE rfl (fun w h => St.vecSees h 2 rfl ((((k54 : Nat) : Int)).toNat * 4) _ hget81) ty39) rfl ?_; clear hE a; intro a hE
      refine WL.alloc hE hS (runs_plain rfl) zr39 rfl ?_; clear hE hS a w; intro b85 a w hE hS
      refine WL.vS hS hE (runs_plain rfl) (Gives.p hE rfl) rfl ?_; clear hE a; intro a hE
      refine WL.storeI hE hS 0 rfl [.int .i64 x72.No, .int .i64 x72.From, .int .i64 x72.To, .slice a82 x72.Seats.length c83] (runs_plain rfl) rfl rfl rfl ty39 rfl rfl rfl rfl ?_; clear hE hS a w; intro a w hE hS
      refine WL.nil ?_
      refine W.seq ?_
      obtain ⟨q87, hq86, hq52⟩ := bindS hq52
      refine W.cut (fun a w => ∃ (q90 : Bool), q90 = q87 ∧ Rep a 38 [(0, .pointer (some ⟨pb0, 0, none⟩)), (1, .int .i64 x1), (5, .slice a65 q64.length c66), (7, .pointer (some ⟨b85, 0, none⟩)), (11, .slice a_v0 y0.bookings.length c_v0), (12, .int .i64 ((y0.bookings.length : Nat) : Int)), (13, .int .i64 ((k54 : Nat) : Int)), (31, .bool q90)] ∧ St w s (pt b85 (.cells #[.int .i64 x72.No, .int .i64 x72.From, .int .i64 x72.To, .slice a82 x72.Seats.length c83] 39 (0, 0)) :: vecC 39 4 a65 c66 q64.length cs69 :: pt pb0 (.cells #[.int .i64 y0.rows, .int .i64 y0.across, .int .i64 y0.stops, .slice a_v0 y0.bookings.length c_v0, .slice a_v1 y0.cancelled.length c_v1] 48 (0, 0)) :: vecC 39 4 a_v0 c_v0 y0.bookings.length cs_v0 :: vecC 4 1 a_v1 c_v1 y0.cancelled.length cs_v1 :: R)) ?_ ?_
      · refine W.gen fun K91 hK91 => ?_
        refine W.region ?_
        refine WL.vS hS hE (runs_plain rfl) (Gives.p hE rfl) rfl ?_; clear hE a; intro a hE
        refine WL.vS hS hE (runs_plain rfl) (Gives.nilOk hE rfl) rfl ?_; clear hE a; intro a hE
        refine WL.vS hS hE (runs_plain rfl) (Gives.fld hE rfl fl48_4) rfl ?_; clear hE a; intro a hE
        refine WL.vS hS hE (runs_plain rfl) (Gives.loadB hE 2 rfl rfl rfl ty31) rfl ?_; clear hE a; intro a hE
        refine WL.vS hS hE (runs_plain rfl) (Gives.p hE rfl) rfl ?_; clear hE a; intro a hE
        obtain ⟨x92, hx93, hq86⟩ := bindS hq86
        obtain ⟨hi94, hlt95, hy96⟩ := gx_some hx93
        obtain ⟨vs97, hl98, hR99, hd100, hget101⟩ := h_v1.at hy96
        subst hR99
        refine WL.vS hS hE (runs_plain rfl) (Gives.idx hE ((((k54 : Nat) : Int)).toNat) rfl rfl sl31 hi94 (by omega) (hS.vecAok 4 rfl (by omega : (((k54 : Nat) : Int)).toNat < y0.cancelled.length))) rfl ?_; clear hE a; intro a hE
        refine WL.vS hS hE (runs_plain rfl) (Gives.load1 hE rfl (fun w h => St.vecSees h 4 rfl ((((k54 : Nat) : Int)).toNat * 1) _ hget101) ty4) rfl ?_; clear hE a; intro a hE
        refine WL.vS hS hE (runs_plain rfl) (Gives.p hE rfl) rfl ?_; clear hE a; intro a hE
        refine WL.vS hS hE (runs_plain rfl) (Gives.p hE rfl) rfl ?_; clear hE a; intro a hE
        rcases Bool.eq_false_or_eq_true !x92 with hg102 | hg102
        · replace hq86 := iteT hg102 hq86
          refine WL.vS hS hE (runs_if hE rfl rfl rfl hg102) (Gives.fld hE rfl fl39_3) rfl ?_; clear hE a; intro a hE
          refine WL.vS hS hE (runs_if hE rfl rfl rfl hg102) (Gives.loadB hE 0 rfl rfl rfl ty22) rfl ?_; clear hE a; intro a hE
          refine WL.vS hS hE (runs_if hE rfl rfl rfl hg102) (Gives.p hE rfl) rfl ?_; clear hE a; intro a hE
          refine WL.fnq hE (SlicesContainsLint_ok hS h84 rfl (r := SlicesContainsLint x72.Seats x1)) (runs_if hE rfl rfl rfl hg102) bd31 rfl rfl rfl ?_
          clear hE hS; rintro e w ⟨rfl, hS⟩; refine ⟨_, rfl, ?_⟩; clear a; intro a hE
          refine WL.vS hS hE (runs_plain rfl) (Gives.pickT hE rfl hg102 rfl) rfl ?_; clear hE a; intro a hE
          refine WL.nil ?_
          subst hK91
          exact ⟨(SlicesContainsLint x72.Seats x1), Option.some.inj hq86, hE.pick _ ⟨rfl, rfl, rfl, rfl, rfl, rfl, rfl, rfl, trivial⟩, hS⟩
        · replace hq86 := iteF hg102 hq86
          refine WL.no hE (runs_not hE rfl rfl rfl (by rw [hg102]; decide)) rfl ?_; clear hE a; intro a hE
          refine WL.no hE (runs_not hE rfl rfl rfl (by rw [hg102]; decide)) rfl ?_; clear hE a; intro a hE
          refine WL.no hE (runs_not hE rfl rfl rfl (by rw [hg102]; decide)) rfl ?_; clear hE a; intro a hE
          refine WL.no hE (runs_not hE rfl rfl rfl (by rw [hg102]; decide)) rfl ?_; clear hE a; intro a hE
          refine WL.vS hS hE (runs_plain rfl) (Gives.pickF hE rfl hg102 rfl) rfl ?_; clear hE a; intro a hE
          refine WL.nil ?_
          subst hK91
          exact ⟨false, Option.some.inj hq86, hE.pick _ ⟨rfl, rfl, rfl, rfl, rfl, rfl, rfl, rfl, trivial⟩, hS⟩
      · clear hE hS a w; rintro a w ⟨q90, rfl, hE, hS⟩
        obtain ⟨q104, hq103, hq52⟩ := bindS hq52
        refine W.cut (fun a w => ∃ (q107 : List FareBooking), ∃ (a108 : Option Addr), ∃ (c109 : Nat), ∃ (n111 : Nat), ∃ (cs112 : List Value), q107 = q104 ∧ Ev 4 RFareBooking s cs112 q107 ∧ q107.length = n111 ∧ Rep a 38 [(0, .pointer (some ⟨pb0, 0, none⟩)), (1, .int .i64 x1), (5, .slice a108 n111 c109), (11, .slice a_v0 y0.bookings.length c_v0), (12, .int .i64 ((y0.bookings.length : Nat) : Int)), (13, .int .i64 ((k54 : Nat) : Int))] ∧ St w s (pt b85 (.cells #[.int .i64 x72.No, .int .i64 x72.From, .int .i64 x72.To, .slice a82 x72.Seats.length c83] 39 (0, 0)) :: vecC 39 4 a108 c109 n111 cs112 :: pt pb0 (.cells #[.int .i64 y0.rows, .int .i64 y0.across, .int .i64 y0.stops, .slice a_v0 y0.bookings.length c_v0, .slice a_v1 y0.cancelled.length c_v1] 48 (0, 0)) :: vecC 39 4 a_v0 c_v0 y0.bookings.length cs_v0 :: vecC 4 1 a_v1 c_v1 y0.cancelled.length cs_v1 :: R)) ?_ ?_
        · refine W.gen fun K114 hK114 => ?_
          refine W.cond hE rfl (fun hc115 => ?_) (fun hc115 => ?_)
          · replace hq103 := iteT hc115 hq103
            refine W.region ?_
            refine WL.vS hS hE (runs_plain rfl) (Gives.p hE rfl) rfl ?_; clear hE a; intro a hE
            refine WL.vS hS hE (runs_plain rfl) (Gives.loadBA hE 0 rfl rfl ty39) rfl ?_; clear hE a; intro a hE
            refine WL.lit hE hS (e := 39) (es := 4) (vs := [(0, .agg (List.toArray [.int .i64 x72.No, .int .i64 x72.From, .int .i64 x72.To, .slice a82 x72.Seats.length c83]))]) (cs := [.int .i64 x72.No, .int .i64 x72.From, .int .i64 x72.To, .slice a82 x72.Seats.length c83]) (runs_plain rfl) rfl (by kernel_rfl) rfl ?_; clear hE hS a w; intro b116 a w hE hS
            obtain ⟨x117, hx118, hq103⟩ := bindS hq103
            refine WL.appDX (kk := 48) hE hS 1 (m := 1) (runs_plain rfl) rfl rfl rfl aw30 rfl h67 rfl (xs := [x72]) (Ev.cons (c1 := [.int .i64 x72.No, .int .i64 x72.From, .int .i64 x72.To, .slice a82 x72.Seats.length c83]) ⟨_, _, rfl, h84⟩ rfl (Ev.nil)) rfl rfl hx118 rfl ?_; clear hE hS a w; intro a119 c120 cs121 a w h122 hE hS
            refine WL.vS hS hE (runs_plain rfl) (Gives.p hE rfl) rfl ?_; clear hE a; intro a hE
            refine WL.nil ?_
            subst hK114
            exact ⟨x117, a119, c120, x117.length, cs121, Option.some.inj hq103, h122, (rfl), hE.pick _ ⟨rfl, rfl, rfl, rfl, rfl, rfl, trivial⟩, hS⟩
          · replace hq103 := iteF hc115 hq103
            refine W.skip ?_
            subst hK114
            exact ⟨q64, a65, c66, q64.length, cs69, Option.some.inj hq103, h67, rfl, hE.pick _ ⟨rfl, rfl, rfl, rfl, rfl, rfl, trivial⟩, hS⟩
        · clear hE hS a w; rintro a w ⟨q107, a108, c109, n111, cs112, rfl, h110, rfl, hE, hS⟩
          refine W.region ?_
          refine WL.vS hS hE (runs_plain rfl) (Gives.inc hE rfl (by omega)) rfl ?_; clear hE a; intro a hE
          refine WL.vS hS hE (runs_plain rfl) (Gives.p hE rfl) rfl ?_; clear hE a; intro a hE
          refine WL.nil ?_
          replace hS := hS.tail
          subst hK71
          exact ⟨rest56, Nat.lt_succ_self _, rest56, k54 + 1, q107, a108, c109, q107.length, cs112, rfl, (by omega), hq52, h110, rfl, hE.pick _ ⟨rfl, rfl, rfl, rfl, rfl, rfl, trivial⟩, hS⟩
  · clear hE hS a w; rintro a w ⟨q64, a65, c66, n68, cs69, rfl, h67, rfl, hE, hS⟩
    refine W.seq ?_
    refine W.region ?_
    refine WL.vS hS hE (runs_plain rfl) (Gives.p hE rfl) rfl ?_; clear hE a; intro a hE
    refine WL.vS hS hE (runs_plain rfl) (Gives.p hE rfl) rfl ?_; clear hE a; intro a hE
    refine WL.nil ?_
    refine W.ret ?_
    refine finG (fn := Try.f29) (rs := [.tmp 4]) (vs := [_]) hE rfl ⟨rfl, trivial⟩ ?_
    obtain rfl := Option.some.inj hr
    exact ⟨a65, c66, q64.length, cs69, rfl, h67, rfl, hS⟩
set_option maxHeartbeats 8000000 in
theorem FareCarfree_1_v1_ok  {w : World} {s : Sg} {R : List HP} {pb0 : Nat} {pb1 : Nat} {x0 : FareBooking} {a0_0 : Option Addr} {c0_0 : Nat} {y0 : Int} {y1 : Int} (hS : St w s (pt pb0 (.cells #[.int .i64 y0] 3 (0, 0)) :: pt pb1 (.cells #[.int .i64 y1] 3 (0, 0)) :: R)) (_h0_0 : Sl 1 (RI .i64) s a0_0 c0_0 x0.Seats) {r : Bool} (hr : FareCarfree_1_v1 x0 y0 y1 = r) :
    Calls Try.prog 30 [.agg (List.toArray [.int .i64 x0.No, .int .i64 x0.From, .int .i64 x0.To, .slice a0_0 x0.Seats.length c0_0]), .pointer (some ⟨pb0, 0, none⟩), .pointer (some ⟨pb1, 0, none⟩)].toArray w (fun e w => e = .returned (.bool r) ∧ St w s (pt pb0 (.cells #[.int .i64 y0] 3 (0, 0)) :: pt pb1 (.cells #[.int .i64 y1] 3 (0, 0)) :: R)) := by
  refine enter Try.func30 rfl rfl rfl fun a hE => ?_
  rw [FareCarfree_1_v1] at hr
  refine W.seq ?_
  refine W.region ?_
  refine WL.box hE hS (runs_plain rfl) rfl rfl rfl ?_; clear hE hS a w; intro b51 a w hE hS
  refine WL.vS hS hE (runs_plain rfl) (Gives.p hE rfl) rfl ?_; clear hE a; intro a hE
  refine WL.nil ?_
  refine W.seq ?_
  obtain ⟨q53, hq52, hr⟩ := bndS hr
  refine W.cut (fun a w => ∃ (q56 : Bool), q56 = q53 ∧ Rep a 15 [(4, .bool q56)] ∧ St w s (pt b51 (.cells #[.int .i64 x0.No, .int .i64 x0.From, .int .i64 x0.To, .slice a0_0 x0.Seats.length c0_0] 39 (0, 0)) :: pt pb0 (.cells #[.int .i64 y0] 3 (0, 0)) :: pt pb1 (.cells #[.int .i64 y1] 3 (0, 0)) :: R)) ?_ ?_
  · refine W.gen fun K57 hK57 => ?_
    refine W.region ?_
    refine WL.vS hS hE (runs_plain rfl) (Gives.fld hE rfl fl39_1) rfl ?_; clear hE a; intro a hE
    refine WL.vS hS hE (runs_plain rfl) (Gives.loadB hE 0 rfl rfl rfl ty3) rfl ?_; clear hE a; intro a hE
    refine WL.vS hS hE (runs_plain rfl) (Gives.loadB hE 1 rfl rfl rfl ty3) rfl ?_; clear hE a; intro a hE
    refine WL.vS hS hE (runs_plain rfl) (Gives.p hE rfl) rfl ?_; clear hE a; intro a hE
    refine WL.vS hS hE (runs_plain rfl) (Gives.p hE rfl) rfl ?_; clear hE a; intro a hE
    rcases Bool.eq_false_or_eq_true (decide (x0.From < y0)) with hg58 | hg58
    · replace hq52 := iteT hg58 hq52
      refine WL.vS hS hE (runs_if hE rfl rfl rfl hg58) (Gives.fld hE rfl fl39_2) rfl ?_; clear hE a; intro a hE
      refine WL.vS hS hE (runs_if hE rfl rfl rfl hg58) (Gives.loadB hE 0 rfl rfl rfl ty3) rfl ?_; clear hE a; intro a hE
      refine WL.vS hS hE (runs_if hE rfl rfl rfl hg58) (Gives.loadB hE 2 rfl rfl rfl ty3) rfl ?_; clear hE a; intro a hE
      refine WL.vS hS hE (runs_if hE rfl rfl rfl hg58) (Gives.p hE rfl) rfl ?_; clear hE a; intro a hE
      refine WL.vS hS hE (runs_plain rfl) (Gives.pickT hE rfl hg58 rfl) rfl ?_; clear hE a; intro a hE
      refine WL.vS hS hE (runs_plain rfl) (Gives.p hE rfl) rfl ?_; clear hE a; intro a hE
      refine WL.nil ?_
      subst hK57
      exact ⟨decide (x0.To > y1), hq52, hE.pick _ ⟨rfl, trivial⟩, hS⟩
    · replace hq52 := iteF hg58 hq52
      refine WL.no hE (runs_not hE rfl rfl rfl (by rw [hg58]; decide)) rfl ?_; clear hE a; intro a hE
      refine WL.no hE (runs_not hE rfl rfl rfl (by rw [hg58]; decide)) rfl ?_; clear hE a; intro a hE
      refine WL.no hE (runs_not hE rfl rfl rfl (by rw [hg58]; decide)) rfl ?_; clear hE a; intro a hE
      refine WL.no hE (runs_not hE rfl rfl rfl (by rw [hg58]; decide)) rfl ?_; clear hE a; intro a hE
      refine WL.vS hS hE (runs_plain rfl) (Gives.pickF hE rfl hg58 rfl) rfl ?_; clear hE a; intro a hE
      refine WL.vS hS hE (runs_plain rfl) (Gives.p hE rfl) rfl ?_; clear hE a; intro a hE
      refine WL.nil ?_
      subst hK57
      exact ⟨false, hq52, hE.pick _ ⟨rfl, trivial⟩, hS⟩
  · clear hE hS a w; rintro a w ⟨q56, rfl, hE, hS⟩
    refine W.ret ?_
    refine finG (fn := Try.f30) (rs := [.tmp 4]) (vs := [_]) hE rfl ⟨rfl, trivial⟩ ?_
    subst hr
    replace hS := hS.tail
    exact ⟨rfl, hS⟩
set_option maxHeartbeats 8000000 in
theorem SlicesIndexFuncLfareBooking_v1_ok  {w : World} {s : Sg} {R : List HP} {pb0 : Nat} {pb1 : Nat} {x0 : List FareBooking} {a0 : Option Addr} {c0 : Nat} {y0 : Int} {y1 : Int} (hS : St w s (pt pb0 (.cells #[.int .i64 y0] 3 (0, 0)) :: pt pb1 (.cells #[.int .i64 y1] 3 (0, 0)) :: R)) (h0 : Sl 4 RFareBooking s a0 c0 x0) {r : Int} (hr : SlicesIndexFuncLfareBooking_v1 x0 y0 y1 = r) :
    Calls Try.prog 39 [.slice a0 x0.length c0, .func (.func 30) #[] #[.pointer (some ⟨pb0, 0, none⟩), .pointer (some ⟨pb1, 0, none⟩)]].toArray w (fun e w => e = .returned (.int .i64 r) ∧ St w s (pt pb0 (.cells #[.int .i64 y0] 3 (0, 0)) :: pt pb1 (.cells #[.int .i64 y1] 3 (0, 0)) :: R)) := by
  refine enter Try.func39 rfl rfl rfl fun a hE => ?_
  rw [SlicesIndexFuncLfareBooking_v1] at hr
  refine W.seq ?_
  refine W.region ?_
  refine WL.vS hS hE (runs_plain rfl) (Gives.p hE rfl) rfl ?_; clear hE a; intro a hE
  refine WL.nil ?_
  refine W.seq ?_
  refine W.seq ?_
  refine W.region ?_
  refine WL.vS hS hE (runs_plain rfl) (Gives.p hE rfl) rfl ?_; clear hE a; intro a hE
  refine WL.vS hS hE (runs_plain rfl) (Gives.len hE rfl sl30) rfl ?_; clear hE a; intro a hE
  refine WL.vS hS hE (runs_plain rfl) (Gives.p hE rfl) rfl ?_; clear hE a; intro a hE
  refine WL.nil ?_
  obtain ⟨q52, hq51, hr⟩ := bndS hr
  refine W.cut (fun a w => (.next ()) = q52 ∧ Rep a 19 [] ∧ St w s (pt pb0 (.cells #[.int .i64 y0] 3 (0, 0)) :: pt pb1 (.cells #[.int .i64 y1] 3 (0, 0)) :: R)) ?_ ?_
  · refine W.block ?_
    refine W.loop (fun m a w => ∃ (rest55 : List FareBooking) (k53 : Nat), rest55.length = m ∧ x0.drop k53 = rest55 ∧ SlicesIndexFuncLfareBooking_v1.loop1 y0 y1 rest55 k53 = q52 ∧ Rep a 19 [(0, .slice a0 x0.length c0), (1, .func (.func 30) #[] #[.pointer (some ⟨pb0, 0, none⟩), .pointer (some ⟨pb1, 0, none⟩)]), (7, .int .i64 ((x0).length : Int)), (8, .int .i64 ((k53 : Nat) : Int))] ∧ St w s (pt pb0 (.cells #[.int .i64 y0] 3 (0, 0)) :: pt pb1 (.cells #[.int .i64 y1] 3 (0, 0)) :: R)) (m := x0.length) ⟨x0, 0, rfl, rfl, hq51, hE.pick _ ⟨rfl, rfl, rfl, rfl, trivial⟩, hS⟩ ?_
    clear hE hS a w hq51; rintro m59 a w ⟨rest55, k53, rfl, hd56, hq51, hE, hS⟩
    refine W.gen fun K62 hK62 => ?_
    rcases rest55 with _ | ⟨x54, rest55⟩
    · have hlt57 := drop_nil hd56
      refine W.seq ?_
      refine W.region ?_
      refine WL.vS hS hE (runs_plain rfl) (Gives.p hE rfl) rfl ?_; clear hE a; intro a hE
      refine WL.nil ?_
      refine W.seq ?_
      refine W.condF hE rfl (decide_eq_false (by omega)) ?_
      subst hK62
      refine W.exit rfl ?_
      exact ⟨hq51, hE.pick _ trivial, hS⟩
    · obtain ⟨hlt57, hx58, hd56⟩ := drop_cons hd56
      rw [SlicesIndexFuncLfareBooking_v1.loop1] at hq51
      refine W.seq ?_
      refine W.region ?_
      refine WL.vS hS hE (runs_plain rfl) (Gives.p hE rfl) rfl ?_; clear hE a; intro a hE
      refine WL.nil ?_
      refine W.seq ?_
      refine W.condT hE rfl (decide_eq_true (by omega)) ?_
      refine W.skip ?_
      refine W.seq ?_
      refine W.block ?_
      refine W.seq ?_
      refine W.region ?_
      refine WL.vS hS hE (runs_plain rfl) (Gives.p hE rfl) rfl ?_; clear hE a; intro a hE
      refine WL.vS hS hE (runs_plain rfl) (Gives.p hE rfl) rfl ?_; clear hE a; intro a hE
      refine WL.nil ?_
      refine W.seq ?_
      refine W.region ?_
      refine WL.vS hS hE (runs_plain rfl) (Gives.p hE rfl) rfl ?_; clear hE a; intro a hE
      refine WL.vS hS hE (runs_plain rfl) (Gives.p hE rfl) rfl ?_; clear hE a; intro a hE
      refine WL.vS hS hE (runs_plain rfl) (Gives.p hE rfl) rfl ?_; clear hE a; intro a hE
      obtain ⟨cs63, hl64, hR65, hat66⟩ := h0.at hx58
      obtain ⟨a67, c68, rfl, h69⟩ := hR65
      refine WL.vS hS hE (runs_plain rfl) (Gives.idx hE k53 rfl rfl sl30 rfl hlt57 (h0.aok hlt57)) rfl ?_; clear hE a; intro a hE
      refine WL.vS hS hE (runs_plain rfl) (Gives.loadA hE rfl (fun w h => hat66 w _ h) ty39) rfl ?_; clear hE a; intro a hE
      refine WL.fnw hE (FareCarfree_1_v1_ok hS h69 rfl (r := FareCarfree_1_v1 x54 y0 y1)) rfl (runs_plain rfl) bd30 rfl rfl rfl ?_
      clear hE hS; rintro e w ⟨rfl, hS⟩; refine ⟨_, rfl, ?_⟩; clear a; intro a hE
      refine WL.nil ?_
      refine W.cond hE rfl (fun hc70 => ?_) (fun hc70 => ?_)
      · replace hq51 := iteT hc70 hq51
        refine W.seq ?_
        refine W.region ?_
        refine WL.vS hS hE (runs_plain rfl) (Gives.p hE rfl) rfl ?_; clear hE a; intro a hE
        refine WL.vS hS hE (runs_plain rfl) (Gives.p hE rfl) rfl ?_; clear hE a; intro a hE
        refine WL.nil ?_
        refine W.ret ?_
        subst hK62
        rw [← hq51] at hr
        dsimp only at hr
        refine finG (fn := Try.f39) (rs := [.tmp 4]) (vs := [_]) hE rfl ⟨rfl, trivial⟩ ?_
        subst hr
        exact ⟨rfl, hS⟩
      · replace hq51 := iteF hc70 hq51
        refine W.skip ?_
        refine W.region ?_
        refine WL.vS hS hE (runs_plain rfl) (Gives.inc hE rfl (by have := h0.small; omega)) rfl ?_; clear hE a; intro a hE
        refine WL.vS hS hE (runs_plain rfl) (Gives.p hE rfl) rfl ?_; clear hE a; intro a hE
        refine WL.nil ?_
        subst hK62
        exact ⟨rest55.length, Nat.lt_succ_self _, rest55, k53 + 1, rfl, hd56, hq51, hE.pick _ ⟨rfl, rfl, rfl, rfl, trivial⟩, hS⟩
  · clear hE hS a w; rintro a w ⟨rfl, hE, hS⟩
    dsimp only at hr
    refine W.seq ?_
    refine W.region ?_
    refine WL.vS hS hE (runs_plain rfl) (Gives.p hE rfl) rfl ?_; clear hE a; intro a hE
    refine WL.nil ?_
    refine W.ret ?_
    refine finG (fn := Try.f39) (rs := [.tmp 4]) (vs := [_]) hE rfl ⟨rfl, trivial⟩ ?_
    subst hr
    exact ⟨rfl, hS⟩
set_option maxHeartbeats 8000000 in
theorem SlicesContainsFuncLfareBooking_v1_ok  {w : World} {s : Sg} {R : List HP} {pb0 : Nat} {pb1 : Nat} {x0 : List FareBooking} {a0 : Option Addr} {c0 : Nat} {y0 : Int} {y1 : Int} (hS : St w s (pt pb0 (.cells #[.int .i64 y0] 3 (0, 0)) :: pt pb1 (.cells #[.int .i64 y1] 3 (0, 0)) :: R)) (h0 : Sl 4 RFareBooking s a0 c0 x0) {r : Bool} (hr : SlicesContainsFuncLfareBooking_v1 x0 y0 y1 = r) :
    Calls Try.prog 28 [.slice a0 x0.length c0, .func (.func 30) #[] #[.pointer (some ⟨pb0, 0, none⟩), .pointer (some ⟨pb1, 0, none⟩)]].toArray w (fun e w => e = .returned (.bool r) ∧ St w s (pt pb0 (.cells #[.int .i64 y0] 3 (0, 0)) :: pt pb1 (.cells #[.int .i64 y1] 3 (0, 0)) :: R)) := by
  refine enter Try.func28 rfl rfl rfl fun a hE => ?_
  rw [SlicesContainsFuncLfareBooking_v1] at hr
  refine W.seq ?_
  refine W.region ?_
  refine WL.vS hS hE (runs_plain rfl) (Gives.p hE rfl) rfl ?_; clear hE a; intro a hE
  refine WL.nil ?_
  refine W.seq ?_
  refine W.region ?_
  refine WL.vS hS hE (runs_plain rfl) (Gives.p hE rfl) rfl ?_; clear hE a; intro a hE
  refine WL.vS hS hE (runs_plain rfl) (Gives.p hE rfl) rfl ?_; clear hE a; intro a hE
  refine WL.fnq hE (SlicesIndexFuncLfareBooking_v1_ok hS h0 rfl (r := SlicesIndexFuncLfareBooking_v1 x0 y0 y1)) (runs_plain rfl) bd39 rfl rfl rfl ?_
  clear hE hS; rintro e w ⟨rfl, hS⟩; refine ⟨_, rfl, ?_⟩; clear a; intro a hE
  refine WL.vS hS hE (runs_plain rfl) (Gives.p hE rfl) rfl ?_; clear hE a; intro a hE
  refine WL.vS hS hE (runs_plain rfl) (Gives.p hE rfl) rfl ?_; clear hE a; intro a hE
  refine WL.nil ?_
  refine W.ret ?_
  refine finG (fn := Try.f28) (rs := [.tmp 4]) (vs := [_]) hE rfl ⟨rfl, trivial⟩ ?_
  subst hr
  exact ⟨rfl, hS⟩
set_option maxHeartbeats 8000000 in
theorem FareCarfree_v1_ok {fu : Nat}  {w : World} {s : Sg} {R : List HP} {pb0 : Nat} {x1 : Int} {x2 : Int} {y0 : FareCar} {a_v0 : Option Addr} {c_v0 n_v0 : Nat} {cs_v0 : List Value} {a_v1 : Option Addr} {c_v1 n_v1 : Nat} {cs_v1 : List Value} (hS : St w s (pt pb0 (.cells #[.int .i64 y0.rows, .int .i64 y0.across, .int .i64 y0.stops, .slice a_v0 n_v0 c_v0, .slice a_v1 n_v1 c_v1] 48 (0, 0)) :: vecC 39 4 a_v0 c_v0 n_v0 cs_v0 :: vecC 4 1 a_v1 c_v1 n_v1 cs_v1 :: R)) (h_v0 : Ev 4 RFareBooking s cs_v0 y0.bookings) (hn_v0 : y0.bookings.length = n_v0) (h_v1 : Ev 1 RB s cs_v1 y0.cancelled) (hn_v1 : y0.cancelled.length = n_v1) {r : (List Int)} (hr : FareCarfree_v1 fu x1 x2 y0 = some r) :
    Calls Try.prog 21 [.pointer (some ⟨pb0, 0, none⟩), .int .i64 x1, .int .i64 x2].toArray w (fun e w => ∃ (a0 : Option Addr) (c0 n0 : Nat) (cs0 : List Value), e = .returned (.slice a0 n0 c0) ∧ Ev 1 (RI .i64) s cs0 r ∧ r.length = n0 ∧ St w s (vecC 3 1 a0 c0 n0 cs0 :: pt pb0 (.cells #[.int .i64 y0.rows, .int .i64 y0.across, .int .i64 y0.stops, .slice a_v0 n_v0 c_v0, .slice a_v1 n_v1 c_v1] 48 (0, 0)) :: vecC 39 4 a_v0 c_v0 n_v0 cs_v0 :: vecC 4 1 a_v1 c_v1 n_v1 cs_v1 :: R)) := by
  refine enter Try.func21 rfl rfl rfl fun a hE => ?_
  rw [FareCarfree_v1] at hr
  subst hn_v0
  subst hn_v1
  refine W.seq ?_
  refine W.region ?_
  refine WL.box hE hS (runs_plain rfl) rfl rfl rfl ?_; clear hE hS a w; intro b51 a w hE hS
  refine WL.box hE hS (runs_plain rfl) rfl rfl rfl ?_; clear hE hS a w; intro b52 a w hE hS
  refine WL.vS hS hE (runs_plain rfl) (Gives.p hE rfl) rfl ?_; clear hE a; intro a hE
  refine WL.nil ?_
  refine W.seq ?_
  refine W.region ?_
  replace hS := hS.vecNil 3 1
  refine WL.vS hS hE (runs_plain rfl) (Gives.p hE rfl) rfl ?_; clear hE a; intro a hE
  refine WL.nil ?_
  refine W.seq ?_
  refine W.seq ?_
  refine W.regionQ (C := fun w => St w s (vecC 3 1 none 0 0 [] :: pt b52 (.cells #[.int .i64 x2] 3 (0, 0)) :: pt b51 (.cells #[.int .i64 x1] 3 (0, 0)) :: pt pb0 (.cells #[.int .i64 y0.rows, .int .i64 y0.across, .int .i64 y0.stops, .slice a_v0 y0.bookings.length c_v0, .slice a_v1 y0.cancelled.length c_v1] 48 (0, 0)) :: vecC 39 4 a_v0 c_v0 y0.bookings.length cs_v0 :: vecC 4 1 a_v1 c_v1 y0.cancelled.length cs_v1 :: R)) mixed (by kernel_rfl) hS.drew ?_
  refine QL.v hE (runs_plain rfl) (Gives.p hE rfl) rfl ?_; clear hE a; intro a hE
  refine QL.v hE (runs_plain rfl) (Gives.nilOk hE rfl) rfl ?_; clear hE a; intro a hE
  refine QL.v hE (runs_plain rfl) (Gives.fld hE rfl fl48_0) rfl ?_; clear hE a; intro a hE
  refine QL.v hE (runs_plain rfl) (Gives.loadB hE 3 rfl rfl rfl ty3) rfl ?_; clear hE a; intro a hE
  refine QL.v hE (runs_plain rfl) (Gives.p hE rfl) rfl ?_; clear hE a; intro a hE
  refine QL.v hE (runs_plain rfl) (Gives.nilOk hE rfl) rfl ?_; clear hE a; intro a hE
  refine QL.v hE (runs_plain rfl) (Gives.fld hE rfl fl48_1) rfl ?_; clear hE a; intro a hE
  refine QL.v hE (runs_plain rfl) (Gives.loadB hE 3 rfl rfl rfl ty3) rfl ?_; clear hE a; intro a hE
  refine QL.v hE (runs_plain rfl) (Gives.p hE rfl) rfl ?_; clear hE a; intro a hE
  refine QL.v hE (runs_plain rfl) (Gives.p hE rfl) rfl ?_; clear hE a; intro a hE
  refine QL.nil ?_; clear hS w; intro w hS
  obtain ⟨q66, hq65, hr⟩ := bindS hr
  refine W.cut (fun a w => ∃ (q71 : List Int), ∃ (q78 : Int), ∃ (a72 : Option Addr), ∃ (c73 : Nat), ∃ (n75 : Nat), ∃ (cs76 : List Value), (q71, q78) = q66 ∧ Ev 1 (RI .i64) s cs76 q71 ∧ q71.length = n75 ∧ Rep a 33 [(7, .slice a72 n75 c73)] ∧ St w s (vecC 3 1 a72 c73 n75 cs76 :: pt b52 (.cells #[.int .i64 x2] 3 (0, 0)) :: pt b51 (.cells #[.int .i64 x1] 3 (0, 0)) :: pt pb0 (.cells #[.int .i64 y0.rows, .int .i64 y0.across, .int .i64 y0.stops, .slice a_v0 y0.bookings.length c_v0, .slice a_v1 y0.cancelled.length c_v1] 48 (0, 0)) :: vecC 39 4 a_v0 c_v0 y0.bookings.length cs_v0 :: vecC 4 1 a_v1 c_v1 y0.cancelled.length cs_v1 :: R)) ?_ ?_
  · refine W.block ?_
    refine W.loop (fun m a w => ∃ (n67 : Nat), ∃ (q71 : List Int), ∃ (q78 : Int), ∃ (a72 : Option Addr), ∃ (c73 : Nat), ∃ (n75 : Nat), ∃ (cs76 : List Value), n67 = m ∧ FareCarfree_v1.loop2 x1 x2 y0 n67 q71 q78 = some q66 ∧ Ev 1 (RI .i64) s cs76 q71 ∧ q71.length = n75 ∧ Rep a 33 [(0, .pointer (some ⟨pb0, 0, none⟩)), (4, .pointer (some ⟨b51, 0, none⟩)), (5, .pointer (some ⟨b52, 0, none⟩)), (7, .slice a72 n75 c73), (17, .int .i64 (w64 (y0.rows * y0.across))), (18, .int .i64 q78)] ∧ St w s (vecC 3 1 a72 c73 n75 cs76 :: pt b52 (.cells #[.int .i64 x2] 3 (0, 0)) :: pt b51 (.cells #[.int .i64 x1] 3 (0, 0)) :: pt pb0 (.cells #[.int .i64 y0.rows, .int .i64 y0.across, .int .i64 y0.stops, .slice a_v0 y0.bookings.length c_v0, .slice a_v1 y0.cancelled.length c_v1] 48 (0, 0)) :: vecC 39 4 a_v0 c_v0 y0.bookings.length cs_v0 :: vecC 4 1 a_v1 c_v1 y0.cancelled.length cs_v1 :: R)) (m := fu) ⟨fu, [], 0, none, 0, 0, [], rfl, hq65, (Ev.nil), (rfl), hE.pick _ ⟨rfl, rfl, rfl, rfl, rfl, rfl, trivial⟩, hS⟩ ?_
    clear hE hS a w hq65; rintro m68 a w ⟨n67, q71, q78, a72, c73, n75, cs76, rfl, hq65, h74, rfl, hE, hS⟩
    refine W.gen fun K79 hK79 => ?_
    rcases n67 with _ | n67
    · rw [FareCarfree_v1.loop2] at hq65; exact absurd hq65 (by simp)
    rw [FareCarfree_v1.loop2] at hq65
    refine W.seq ?_
    refine W.region ?_
    refine WL.vS hS hE (runs_plain rfl) (Gives.p hE rfl) rfl ?_; clear hE a; intro a hE
    refine WL.nil ?_
    refine W.seq ?_
    refine W.cond hE rfl (fun hc80 => ?_) (fun hc80 => ?_)
    · replace hq65 := iteT hc80 hq65
      refine W.skip ?_
      refine W.seq ?_
      refine W.block ?_
      refine W.seq ?_
      refine W.region ?_
      refine WL.vS hS hE (runs_plain rfl) (Gives.p hE rfl) rfl ?_; clear hE a; intro a hE
      refine WL.vS hS hE (runs_plain rfl) (Gives.p hE rfl) rfl ?_; clear hE a; intro a hE
      refine WL.nil ?_
      refine W.seq ?_
      refine W.region ?_
      refine WL.vS hS hE (runs_plain rfl) (Gives.p hE rfl) rfl ?_; clear hE a; intro a hE
      refine WL.vS hS hE (runs_plain rfl) (Gives.p hE rfl) rfl ?_; clear hE a; intro a hE
      obtain ⟨q81, hq82, hq65⟩ := bindS hq65
      replace hS := hS.front 5 rfl
      replace hS := hS.front 5 rfl
      replace hS := hS.front 5 rfl
      have hc_ := FareCarof_v1_ok (y0 := y0) hS h_v0 (rfl) h_v1 (rfl) hq82
      refine WL.fnq hE (hc_) (runs_plain rfl) bd29 rfl rfl rfl ?_
      clear hE hS hc_; rintro e w ⟨a83, c84, n85, cs86, rfl, h87, rfl, hS⟩; refine ⟨_, rfl, ?_⟩; clear a; intro a hE
      refine WL.vS hS hE (runs_plain rfl) (Gives.mkfn hE (vs := [.pointer (some ⟨b52, 0, none⟩), .pointer (some ⟨b51, 0, none⟩)]) rfl) rfl ?_; clear hE a; intro a hE
      have hF := hS.lendV RFareBooking.mono 0 rfl h87 rfl; clear hS; obtain ⟨t89, hle90, hS, hs91, bk92⟩ := hF
      replace hS := hS.front 5 rfl
      replace hS := hS.front 5 rfl
      refine WL.fnq hE (SlicesContainsFuncLfareBooking_v1_ok hS hs91 rfl (r := SlicesContainsFuncLfareBooking_v1 q81 x2 x1)) (runs_plain rfl) bd28 rfl rfl rfl ?_
      clear hE hS; rintro e w ⟨rfl, hS⟩; refine ⟨_, rfl, ?_⟩; clear a; intro a hE
      replace hS := bk92 _ _ hS
      refine WL.vS hS hE (runs_plain rfl) (Gives.p hE rfl) rfl ?_; clear hE a; intro a hE
      refine WL.nil ?_
      obtain ⟨q94, hq93, hq65⟩ := bindS hq65
      refine W.cut (fun a w => ∃ (q97 : List Int), ∃ (a98 : Option Addr), ∃ (c99 : Nat), ∃ (n101 : Nat), ∃ (cs102 : List Value), q97 = q94 ∧ Ev 1 (RI .i64) s cs102 q97 ∧ q97.length = n101 ∧ Rep a 33 [(0, .pointer (some ⟨pb0, 0, none⟩)), (4, .pointer (some ⟨b51, 0, none⟩)), (5, .pointer (some ⟨b52, 0, none⟩)), (7, .slice a98 n101 c99), (17, .int .i64 (w64 (y0.rows * y0.across))), (18, .int .i64 q78)] ∧ St w s (pt b52 (.cells #[.int .i64 x2] 3 (0, 0)) :: pt b51 (.cells #[.int .i64 x1] 3 (0, 0)) :: pt pb0 (.cells #[.int .i64 y0.rows, .int .i64 y0.across, .int .i64 y0.stops, .slice a_v0 y0.bookings.length c_v0, .slice a_v1 y0.cancelled.length c_v1] 48 (0, 0)) :: vecC 39 4 a_v0 c_v0 y0.bookings.length cs_v0 :: vecC 4 1 a_v1 c_v1 y0.cancelled.length cs_v1 :: vecC 3 1 a98 c99 n101 cs102 :: R)) ?_ ?_
      · refine W.gen fun K104 hK104 => ?_
        refine W.cond hE rfl (fun hc105 => ?_) (fun hc105 => ?_)
        · replace hq93 := iteT hc105 hq93
          refine W.region ?_
          refine WL.vS hS hE (runs_plain rfl) (Gives.p hE rfl) rfl ?_; clear hE a; intro a hE
          refine WL.vS hS hE (runs_plain rfl) (Gives.p hE rfl) rfl ?_; clear hE a; intro a hE
          refine WL.lit hE hS (e := 3) (es := 1) (vs := [(0, .int .i64 q78)]) (cs := [.int .i64 q78]) (runs_plain rfl) rfl (by kernel_rfl) rfl ?_; clear hE hS a w; intro b106 a w hE hS
          obtain ⟨x107, hx108, hq93⟩ := bindS hq93
          refine WL.appD hE hS 6 (m := 1) (runs_plain rfl) rfl rfl rfl ap22 rfl h74 rfl (xs := [q78]) (Ev.cons (c1 := [.int .i64 q78]) rfl rfl (Ev.nil)) rfl rfl hx108 rfl ?_; clear hE hS a w; intro a109 c110 cs111 a w h112 hE hS
          refine WL.vS hS hE (runs_plain rfl) (Gives.p hE rfl) rfl ?_; clear hE a; intro a hE
          refine WL.nil ?_
          replace hS := hS.tail
          subst hK104
          exact ⟨x107, a109, c110, x107.length, cs111, Option.some.inj hq93, h112, (rfl), hE.pick _ ⟨rfl, rfl, rfl, rfl, rfl, rfl, trivial⟩, hS⟩
        · replace hq93 := iteF hc105 hq93
          refine W.skip ?_
          replace hS := hS.tail
          subst hK104
          exact ⟨q71, a72, c73, q71.length, cs76, Option.some.inj hq93, h74, rfl, hE.pick _ ⟨rfl, rfl, rfl, rfl, rfl, rfl, trivial⟩, hS⟩
      · clear hE hS a w; rintro a w ⟨q97, a98, c99, n101, cs102, rfl, h100, rfl, hE, hS⟩
        refine W.region ?_
        refine WL.vS hS hE (runs_plain rfl) (Gives.p hE rfl) rfl ?_; clear hE a; intro a hE
        refine WL.vS hS hE (runs_plain rfl) (Gives.p hE rfl) rfl ?_; clear hE a; intro a hE
        refine WL.nil ?_
        replace hS := hS.front 4 rfl
        replace hS := hS.front 4 rfl
        replace hS := hS.front 4 rfl
        replace hS := hS.front 4 rfl
        replace hS := hS.front 4 rfl
        replace hS := hS.front 5 rfl
        subst hK79
        exact ⟨n67, Nat.lt_succ_self _, n67, q97, (w64 (q78 + 1)), a98, c99, q97.length, cs102, rfl, hq65, h100, rfl, hE.pick _ ⟨rfl, rfl, rfl, rfl, rfl, rfl, trivial⟩, hS⟩
    · replace hq65 := iteF hc80 hq65
      subst hK79
      refine W.exit rfl ?_
      exact ⟨q71, q78, a72, c73, q71.length, cs76, Option.some.inj hq65, h74, rfl, hE.pick _ ⟨rfl, trivial⟩, hS⟩
  · clear hE hS a w; rintro a w ⟨q71, q78, a72, c73, n75, cs76, rfl, h74, rfl, hE, hS⟩
    dsimp only at hr
    refine W.seq ?_
    refine W.region ?_
    refine WL.vS hS hE (runs_plain rfl) (Gives.p hE rfl) rfl ?_; clear hE a; intro a hE
    refine WL.vS hS hE (runs_plain rfl) (Gives.p hE rfl) rfl ?_; clear hE a; intro a hE
    refine WL.nil ?_
    refine W.ret ?_
    refine finG (fn := Try.f21) (rs := [.tmp 6]) (vs := [_]) hE rfl ⟨rfl, trivial⟩ ?_
    obtain rfl := Option.some.inj hr
    replace hS := hS.dropAt 1
    replace hS := hS.dropAt 1
    exact ⟨a72, c73, q71.length, cs76, rfl, h74, rfl, hS⟩
set_option maxHeartbeats 8000000 in
theorem SlicesCloneLint_ok  {w : World} {s : Sg} {R : List HP} {x0 : List Int} {a0 : Option Addr} {c0 : Nat} (hS : St w s (R)) (h0 : Sl 1 (RI .i64) s a0 c0 x0) {r : (List Int)} (hr : SlicesCloneLint x0 = some r) :
    Calls Try.prog 24 [.slice a0 x0.length c0].toArray w (fun e w => ∃ (a0 : Option Addr) (c0 n0 : Nat) (cs0 : List Value), e = .returned (.slice a0 n0 c0) ∧ Ev 1 (RI .i64) s cs0 r ∧ r.length = n0 ∧ St w s (vecC 3 1 a0 c0 n0 cs0 :: R)) := by
  refine enter Try.func24 rfl rfl rfl fun a hE => ?_
  rw [SlicesCloneLint] at hr
  refine W.seq ?_
  refine W.region ?_
  refine WL.vS hS hE (runs_plain rfl) (Gives.p hE rfl) rfl ?_; clear hE a; intro a hE
  refine WL.nil ?_
  refine W.seq ?_
  refine W.seq ?_
  refine W.region ?_
  refine WL.vS hS hE (runs_plain rfl) (Gives.p hE rfl) rfl ?_; clear hE a; intro a hE
  refine WL.vS hS hE (runs_plain rfl) (Gives.isNil hE rfl rfl isl22) rfl ?_; clear hE a; intro a hE
  refine WL.nil ?_
  rcases a0 with _ | g51
  · obtain rfl := h0.none_nil
    replace hr : some [] = _ := hr
    refine W.condT hE rfl rfl ?_
    refine W.seq ?_
    refine W.region ?_
    refine WL.vS hS hE (runs_plain rfl) (Gives.p hE rfl) rfl ?_; clear hE a; intro a hE
    refine WL.nil ?_
    refine W.ret ?_
    replace hS := hS.vecNil 3 1
    refine finG (fn := Try.f24) (rs := [.tmp 2]) (vs := [_]) hE rfl ⟨rfl, trivial⟩ ?_
    obtain rfl := Option.some.inj hr
    exact ⟨none, 0, 0, [], rfl, (Ev.nil), (rfl), hS⟩
  · skip
    refine W.condF hE rfl rfl ?_
    refine W.skip ?_
    refine W.seq ?_
    refine W.region ?_
    refine WL.lit hE hS (e := 3) (es := 1) (vs := []) (cs := []) (runs_plain rfl) rfl (by kernel_rfl) rfl ?_; clear hE hS a w; intro b53 a w hE hS
    replace hS := hS.ptVec (es := 1) (m := 0) rfl (by decide)
    have h55 : Ev 1 (RI .i64) s [] [] := (Ev.nil)
    refine WL.vS hS hE (runs_plain rfl) (Gives.p hE rfl) rfl ?_; clear hE a; intro a hE
    obtain ⟨x56, hx57, hr⟩ := bindS hr
    refine WL.appS hE hS 0 (runs_plain rfl) rfl rfl (xs := x0) rfl rfl ap22 RI.one h55 (rfl) h0 hx57 rfl ?_; clear hE hS a w; intro a58 c59 cs60 a w h61 hE hS
    refine WL.vS hS hE (runs_plain rfl) (Gives.p hE rfl) rfl ?_; clear hE a; intro a hE
    refine WL.nil ?_
    refine W.ret ?_
    refine finG (fn := Try.f24) (rs := [.tmp 2]) (vs := [_]) hE rfl ⟨rfl, trivial⟩ ?_
    obtain rfl := Option.some.inj hr
    exact ⟨a58, c59, x56.length, cs60, rfl, h61, (rfl), hS⟩
set_option maxHeartbeats 8000000 in
theorem FareCargap_v1_ok  {w : World} {s : Sg} {R : List HP} {pb0 : Nat} {x1 : Int} {x2 : Int} {x3 : Int} {y0 : FareCar} {a_v0 : Option Addr} {c_v0 n_v0 : Nat} {cs_v0 : List Value} {a_v1 : Option Addr} {c_v1 n_v1 : Nat} {cs_v1 : List Value} (hS : St w s (pt pb0 (.cells #[.int .i64 y0.rows, .int .i64 y0.across, .int .i64 y0.stops, .slice a_v0 n_v0 c_v0, .slice a_v1 n_v1 c_v1] 48 (0, 0)) :: vecC 39 4 a_v0 c_v0 n_v0 cs_v0 :: vecC 4 1 a_v1 c_v1 n_v1 cs_v1 :: R)) (h_v0 : Ev 4 RFareBooking s cs_v0 y0.bookings) (hn_v0 : y0.bookings.length = n_v0) (h_v1 : Ev 1 RB s cs_v1 y0.cancelled) (hn_v1 : y0.cancelled.length = n_v1) {r : Int} (hr : FareCargap_v1 x1 x2 x3 y0 = some r) :
    Calls Try.prog 35 [.pointer (some ⟨pb0, 0, none⟩), .int .i64 x1, .int .i64 x2, .int .i64 x3].toArray w (fun e w => e = .returned (.int .i64 r) ∧ St w s (pt pb0 (.cells #[.int .i64 y0.rows, .int .i64 y0.across, .int .i64 y0.stops, .slice a_v0 n_v0 c_v0, .slice a_v1 n_v1 c_v1] 48 (0, 0)) :: vecC 39 4 a_v0 c_v0 n_v0 cs_v0 :: vecC 4 1 a_v1 c_v1 n_v1 cs_v1 :: R)) := by
  refine enter Try.func35 rfl rfl rfl fun a hE => ?_
  rw [FareCargap_v1] at hr
  subst hn_v0
  subst hn_v1
  refine W.seq ?_
  refine W.region ?_
  refine WL.vS hS hE (runs_plain rfl) (Gives.p hE rfl) rfl ?_; clear hE a; intro a hE
  refine WL.nil ?_
  refine W.seq ?_
  refine W.regionQ (C := fun w => St w s (pt pb0 (.cells #[.int .i64 y0.rows, .int .i64 y0.across, .int .i64 y0.stops, .slice a_v0 y0.bookings.length c_v0, .slice a_v1 y0.cancelled.length c_v1] 48 (0, 0)) :: vecC 39 4 a_v0 c_v0 y0.bookings.length cs_v0 :: vecC 4 1 a_v1 c_v1 y0.cancelled.length cs_v1 :: R)) mixed (by kernel_rfl) hS.drew ?_
  refine QL.v hE (runs_plain rfl) (Gives.p hE rfl) rfl ?_; clear hE a; intro a hE
  refine QL.v hE (runs_plain rfl) (Gives.nilOk hE rfl) rfl ?_; clear hE a; intro a hE
  refine QL.v hE (runs_plain rfl) (Gives.fld hE rfl fl48_2) rfl ?_; clear hE a; intro a hE
  refine QL.v hE (runs_plain rfl) (Gives.loadB hE 0 rfl rfl rfl ty3) rfl ?_; clear hE a; intro a hE
  refine QL.v hE (runs_plain rfl) (Gives.p hE rfl) rfl ?_; clear hE a; intro a hE
  refine QL.v hE (runs_plain rfl) (Gives.p hE rfl) rfl ?_; clear hE a; intro a hE
  refine QL.v hE (runs_plain rfl) (Gives.p hE rfl) rfl ?_; clear hE a; intro a hE
  refine QL.nil ?_; clear hS w; intro w hS
  refine W.seq ?_
  refine W.seq ?_
  refine W.region ?_
  refine WL.vS hS hE (runs_plain rfl) (Gives.p hE rfl) rfl ?_; clear hE a; intro a hE
  refine WL.vS hS hE (runs_plain rfl) (Gives.p hE rfl) rfl ?_; clear hE a; intro a hE
  obtain ⟨q51, hq52, hr⟩ := bindS hr
  have hc_ := FareCarof_v1_ok (y0 := y0) hS h_v0 (rfl) h_v1 (rfl) hq52
  refine WL.fnq hE (hc_) (runs_plain rfl) bd29 rfl rfl rfl ?_
  clear hE hS hc_; rintro e w ⟨a53, c54, n55, cs56, rfl, h57, rfl, hS⟩; refine ⟨_, rfl, ?_⟩; clear a; intro a hE
  refine WL.vS hS hE (runs_plain rfl) (Gives.len hE rfl sl30) rfl ?_; clear hE a; intro a hE
  refine WL.vS hS hE (runs_plain rfl) (Gives.p hE rfl) rfl ?_; clear hE a; intro a hE
  refine WL.nil ?_
  have hb70 : q51.length ≤ 9223372036854775807 := by have := hS.vecCap 0 rfl; unfold maxLen at this; omega
  obtain ⟨q60, hq59, hr⟩ := bindS hr
  refine W.cut (fun a w => ∃ (q71 : Int), ∃ (q72 : Int), (q71, q72) = q60 ∧ Rep a 46 [(9, .int .i64 q71), (10, .int .i64 q72)] ∧ St w s (vecC 39 4 a53 c54 q51.length cs56 :: pt pb0 (.cells #[.int .i64 y0.rows, .int .i64 y0.across, .int .i64 y0.stops, .slice a_v0 y0.bookings.length c_v0, .slice a_v1 y0.cancelled.length c_v1] 48 (0, 0)) :: vecC 39 4 a_v0 c_v0 y0.bookings.length cs_v0 :: vecC 4 1 a_v1 c_v1 y0.cancelled.length cs_v1 :: R)) ?_ ?_
  · refine W.block ?_
    refine W.loop (fun m a w => ∃ (rest63 : Nat) (k61 : Nat), ∃ (q71 : Int), ∃ (q72 : Int), rest63 = m ∧ k61 + rest63 = q51.length ∧ FareCargap_v1.loop1 x2 x3 q51 rest63 k61 q71 q72 = some q60 ∧ Rep a 46 [(2, .int .i64 x2), (3, .int .i64 x3), (9, .int .i64 q71), (10, .int .i64 q72), (20, .slice a53 q51.length c54), (21, .int .i64 ((q51.length : Nat) : Int)), (22, .int .i64 ((k61 : Nat) : Int))] ∧ St w s (vecC 39 4 a53 c54 q51.length cs56 :: pt pb0 (.cells #[.int .i64 y0.rows, .int .i64 y0.across, .int .i64 y0.stops, .slice a_v0 y0.bookings.length c_v0, .slice a_v1 y0.cancelled.length c_v1] 48 (0, 0)) :: vecC 39 4 a_v0 c_v0 y0.bookings.length cs_v0 :: vecC 4 1 a_v1 c_v1 y0.cancelled.length cs_v1 :: R)) (m := q51.length) ⟨q51.length, 0, 0, (w64 (y0.stops - 1)), rfl, by omega, hq59, hE.pick _ ⟨rfl, rfl, rfl, rfl, rfl, rfl, rfl, trivial⟩, hS⟩ ?_
    clear hE hS a w hq59; rintro m67 a w ⟨rest63, k61, q71, q72, rfl, hd64, hq59, hE, hS⟩
    refine W.gen fun K73 hK73 => ?_
    rcases rest63 with _ | rest63
    · skip
      refine W.seq ?_
      refine W.region ?_
      refine WL.vS hS hE (runs_plain rfl) (Gives.p hE rfl) rfl ?_; clear hE a; intro a hE
      refine WL.nil ?_
      refine W.seq ?_
      refine W.condF hE rfl (decide_eq_false (by omega)) ?_
      subst hK73
      refine W.exit rfl ?_
      exact ⟨q71, q72, Option.some.inj hq59, hE.pick _ ⟨rfl, rfl, trivial⟩, hS⟩
    · have hlt65 : k61 < q51.length := by omega
      rw [FareCargap_v1.loop1] at hq59
      refine W.seq ?_
      refine W.region ?_
      refine WL.vS hS hE (runs_plain rfl) (Gives.p hE rfl) rfl ?_; clear hE a; intro a hE
      refine WL.nil ?_
      refine W.seq ?_
      refine W.condT hE rfl (decide_eq_true (by omega)) ?_
      refine W.skip ?_
      refine W.seq ?_
      refine W.block ?_
      refine W.seq ?_
      refine W.region ?_
      obtain ⟨x74, hx75, hq59⟩ := bindS hq59
      obtain ⟨hi76, hlt77, hy78⟩ := gx_some hx75
      obtain ⟨vs79, hl80, hR81, hd82, hget83⟩ := h57.at hy78
      obtain ⟨a84, c85, rfl, h86⟩ := hR81
      refine WL.vS hS hE (runs_plain rfl) (Gives.idx hE ((((k61 : Nat) : Int)).toNat) rfl rfl sl30 hi76 (by omega) (hS.vecAok 0 rfl (by omega : (((k61 : Nat) : Int)).toNat < q51.length))) rfl ?_; clear hE a; intro a hE
      refine WL.vS hS hE (runs_plain rfl) (Gives.loadA hE rfl (fun w h => St.vecSees h 0 rfl ((((k61 : Nat) : Int)).toNat * 4) _ hget83) ty39) rfl ?_; clear hE a; intro a hE
      refine WL.alloc hE hS (runs_plain rfl) zr39 rfl ?_; clear hE hS a w; intro b87 a w hE hS
      refine WL.storeI hE hS 0 rfl [.int .i64 x74.No, .int .i64 x74.From, .int .i64 x74.To, .slice a84 x74.Seats.length c85] (runs_plain rfl) rfl rfl rfl ty39 rfl rfl rfl rfl ?_; clear hE hS a w; intro a w hE hS
      refine WL.nil ?_
      refine W.seq ?_
      refine W.seq ?_
      refine W.region ?_
      refine WL.vS hS hE (runs_plain rfl) (Gives.fld hE rfl fl39_2) rfl ?_; clear hE a; intro a hE
      refine WL.vS hS hE (runs_plain rfl) (Gives.loadB hE 0 rfl rfl rfl ty3) rfl ?_; clear hE a; intro a hE
      refine WL.vS hS hE (runs_plain rfl) (Gives.p hE rfl) rfl ?_; clear hE a; intro a hE
      refine WL.vS hS hE (runs_plain rfl) (Gives.p hE rfl) rfl ?_; clear hE a; intro a hE
      refine WL.nil ?_
      obtain ⟨q89, hq88, hq59⟩ := bndS hq59
      refine W.cut (fun a w => ∃ (q92 : Int), q92 = q89 ∧ Rep a 46 [(2, .int .i64 x2), (3, .int .i64 x3), (9, .int .i64 q92), (10, .int .i64 q72), (12, .pointer (some ⟨b87, 0, none⟩)), (20, .slice a53 q51.length c54), (21, .int .i64 ((q51.length : Nat) : Int)), (22, .int .i64 ((k61 : Nat) : Int))] ∧ St w s (pt b87 (.cells #[.int .i64 x74.No, .int .i64 x74.From, .int .i64 x74.To, .slice a84 x74.Seats.length c85] 39 (0, 0)) :: vecC 39 4 a53 c54 q51.length cs56 :: pt pb0 (.cells #[.int .i64 y0.rows, .int .i64 y0.across, .int .i64 y0.stops, .slice a_v0 y0.bookings.length c_v0, .slice a_v1 y0.cancelled.length c_v1] 48 (0, 0)) :: vecC 39 4 a_v0 c_v0 y0.bookings.length cs_v0 :: vecC 4 1 a_v1 c_v1 y0.cancelled.length cs_v1 :: R)) ?_ ?_
      · refine W.gen fun K93 hK93 => ?_
        refine W.cond hE rfl (fun hc94 => ?_) (fun hc94 => ?_)
        · replace hq88 := iteT hc94 hq88
          refine W.region ?_
          refine WL.vS hS hE (runs_plain rfl) (Gives.p hE rfl) rfl ?_; clear hE a; intro a hE
          refine WL.vS hS hE (runs_plain rfl) (Gives.fld hE rfl fl39_2) rfl ?_; clear hE a; intro a hE
          refine WL.vS hS hE (runs_plain rfl) (Gives.loadB hE 0 rfl rfl rfl ty3) rfl ?_; clear hE a; intro a hE
          refine WL.vS hS hE (runs_plain rfl) (Gives.max2 hE rfl rfl) rfl ?_; clear hE a; intro a hE
          refine WL.vS hS hE (runs_plain rfl) (Gives.p hE rfl) rfl ?_; clear hE a; intro a hE
          refine WL.nil ?_
          subst hK93
          exact ⟨mx q71 x74.To, hq88, hE.pick _ ⟨rfl, rfl, rfl, rfl, rfl, rfl, rfl, rfl, trivial⟩, hS⟩
        · replace hq88 := iteF hc94 hq88
          refine W.skip ?_
          subst hK93
          exact ⟨q71, hq88, hE.pick _ ⟨rfl, rfl, rfl, rfl, rfl, rfl, rfl, rfl, trivial⟩, hS⟩
      · clear hE hS a w; rintro a w ⟨q92, rfl, hE, hS⟩
        refine W.seq ?_
        refine W.region ?_
        refine WL.vS hS hE (runs_plain rfl) (Gives.fld hE rfl fl39_1) rfl ?_; clear hE a; intro a hE
        refine WL.vS hS hE (runs_plain rfl) (Gives.loadB hE 0 rfl rfl rfl ty3) rfl ?_; clear hE a; intro a hE
        refine WL.vS hS hE (runs_plain rfl) (Gives.p hE rfl) rfl ?_; clear hE a; intro a hE
        refine WL.vS hS hE (runs_plain rfl) (Gives.p hE rfl) rfl ?_; clear hE a; intro a hE
        refine WL.nil ?_
        obtain ⟨q96, hq95, hq59⟩ := bndS hq59
        refine W.cut (fun a w => ∃ (q99 : Int), q99 = q96 ∧ Rep a 46 [(2, .int .i64 x2), (3, .int .i64 x3), (9, .int .i64 q92), (10, .int .i64 q99), (20, .slice a53 q51.length c54), (21, .int .i64 ((q51.length : Nat) : Int)), (22, .int .i64 ((k61 : Nat) : Int))] ∧ St w s (pt b87 (.cells #[.int .i64 x74.No, .int .i64 x74.From, .int .i64 x74.To, .slice a84 x74.Seats.length c85] 39 (0, 0)) :: vecC 39 4 a53 c54 q51.length cs56 :: pt pb0 (.cells #[.int .i64 y0.rows, .int .i64 y0.across, .int .i64 y0.stops, .slice a_v0 y0.bookings.length c_v0, .slice a_v1 y0.cancelled.length c_v1] 48 (0, 0)) :: vecC 39 4 a_v0 c_v0 y0.bookings.length cs_v0 :: vecC 4 1 a_v1 c_v1 y0.cancelled.length cs_v1 :: R)) ?_ ?_
        · refine W.gen fun K100 hK100 => ?_
          refine W.cond hE rfl (fun hc101 => ?_) (fun hc101 => ?_)
          · replace hq95 := iteT hc101 hq95
            refine W.region ?_
            refine WL.vS hS hE (runs_plain rfl) (Gives.p hE rfl) rfl ?_; clear hE a; intro a hE
            refine WL.vS hS hE (runs_plain rfl) (Gives.fld hE rfl fl39_1) rfl ?_; clear hE a; intro a hE
            refine WL.vS hS hE (runs_plain rfl) (Gives.loadB hE 0 rfl rfl rfl ty3) rfl ?_; clear hE a; intro a hE
            refine WL.vS hS hE (runs_plain rfl) (Gives.min2 hE rfl rfl) rfl ?_; clear hE a; intro a hE
            refine WL.vS hS hE (runs_plain rfl) (Gives.p hE rfl) rfl ?_; clear hE a; intro a hE
            refine WL.nil ?_
            subst hK100
            exact ⟨mn q72 x74.From, hq95, hE.pick _ ⟨rfl, rfl, rfl, rfl, rfl, rfl, rfl, trivial⟩, hS⟩
          · replace hq95 := iteF hc101 hq95
            refine W.skip ?_
            subst hK100
            exact ⟨q72, hq95, hE.pick _ ⟨rfl, rfl, rfl, rfl, rfl, rfl, rfl, trivial⟩, hS⟩
        · clear hE hS a w; rintro a w ⟨q99, rfl, hE, hS⟩
          refine W.region ?_
          refine WL.vS hS hE (runs_plain rfl) (Gives.inc hE rfl (by omega)) rfl ?_; clear hE a; intro a hE
          refine WL.vS hS hE (runs_plain rfl) (Gives.p hE rfl) rfl ?_; clear hE a; intro a hE
          refine WL.nil ?_
          replace hS := hS.tail
          subst hK73
          exact ⟨rest63, Nat.lt_succ_self _, rest63, k61 + 1, q92, q99, rfl, (by omega), hq59, hE.pick _ ⟨rfl, rfl, rfl, rfl, rfl, rfl, rfl, trivial⟩, hS⟩
  · clear hE hS a w; rintro a w ⟨q71, q72, rfl, hE, hS⟩
    dsimp only at hr
    refine W.seq ?_
    refine W.region ?_
    refine WL.vS hS hE (runs_plain rfl) (Gives.p hE rfl) rfl ?_; clear hE a; intro a hE
    refine WL.vS hS hE (runs_plain rfl) (Gives.p hE rfl) rfl ?_; clear hE a; intro a hE
    refine WL.vS hS hE (runs_plain rfl) (Gives.p hE rfl) rfl ?_; clear hE a; intro a hE
    refine WL.vS hS hE (runs_plain rfl) (Gives.p hE rfl) rfl ?_; clear hE a; intro a hE
    refine WL.nil ?_
    refine W.ret ?_
    refine finG (fn := Try.f35) (rs := [.tmp 8]) (vs := [_]) hE rfl ⟨rfl, trivial⟩ ?_
    obtain rfl := Option.some.inj hr
    replace hS := hS.tail
    exact ⟨rfl, hS⟩
set_option maxHeartbeats 8000000 in
theorem CmpisNaNint_ok  {w : World} {s : Sg} {R : List HP} {x0 : Int} (hS : St w s (R))  {r : Bool} (hr : CmpisNaNint x0 = r) :
    Calls Try.prog 42 [.int .i64 x0].toArray w (fun e w => e = .returned (.bool r) ∧ St w s (R)) := by
  refine enter Try.func42 rfl rfl rfl fun a hE => ?_
  rw [CmpisNaNint] at hr
  refine W.seq ?_
  refine W.region ?_
  refine WL.vS hS hE (runs_plain rfl) (Gives.p hE rfl) rfl ?_; clear hE a; intro a hE
  refine WL.nil ?_
  refine W.seq ?_
  refine W.region ?_
  refine WL.vS hS hE (runs_plain rfl) (Gives.p hE rfl) rfl ?_; clear hE a; intro a hE
  refine WL.vS hS hE (runs_plain rfl) (Gives.p hE rfl) rfl ?_; clear hE a; intro a hE
  refine WL.vS hS hE (runs_plain rfl) (Gives.p hE rfl) rfl ?_; clear hE a; intro a hE
  refine WL.vS hS hE (runs_plain rfl) (Gives.p hE rfl) rfl ?_; clear hE a; intro a hE
  refine WL.nil ?_
  refine W.ret ?_
  refine finG (fn := Try.f42) (rs := [.tmp 2]) (vs := [_]) hE rfl ⟨rfl, trivial⟩ ?_
  subst hr
  exact ⟨rfl, hS⟩
set_option maxHeartbeats 8000000 in
theorem CmpCompareint_ok  {w : World} {s : Sg} {R : List HP} {x0 : Int} {x1 : Int} (hS : St w s (R))  {r : Int} (hr : CmpCompareint x0 x1 = r) :
    Calls Try.prog 34 [.int .i64 x0, .int .i64 x1].toArray w (fun e w => e = .returned (.int .i64 r) ∧ St w s (R)) := by
  refine enter Try.func34 rfl rfl rfl fun a hE => ?_
  rw [CmpCompareint] at hr
  refine W.seq ?_
  refine W.region ?_
  refine WL.vS hS hE (runs_plain rfl) (Gives.p hE rfl) rfl ?_; clear hE a; intro a hE
  refine WL.nil ?_
  refine W.seq ?_
  refine W.region ?_
  refine WL.vS hS hE (runs_plain rfl) (Gives.p hE rfl) rfl ?_; clear hE a; intro a hE
  refine WL.fnq hE (CmpisNaNint_ok hS  rfl (r := CmpisNaNint x0)) (runs_plain rfl) bd42 rfl rfl rfl ?_
  clear hE hS; rintro e w ⟨rfl, hS⟩; refine ⟨_, rfl, ?_⟩; clear a; intro a hE
  refine WL.vS hS hE (runs_plain rfl) (Gives.p hE rfl) rfl ?_; clear hE a; intro a hE
  refine WL.nil ?_
  refine W.seq ?_
  refine W.region ?_
  refine WL.vS hS hE (runs_plain rfl) (Gives.p hE rfl) rfl ?_; clear hE a; intro a hE
  refine WL.fnq hE (CmpisNaNint_ok hS  rfl (r := CmpisNaNint x1)) (runs_plain rfl) bd42 rfl rfl rfl ?_
  clear hE hS; rintro e w ⟨rfl, hS⟩; refine ⟨_, rfl, ?_⟩; clear a; intro a hE
  refine WL.vS hS hE (runs_plain rfl) (Gives.p hE rfl) rfl ?_; clear hE a; intro a hE
  refine WL.nil ?_
  refine W.seq ?_
  refine W.seq ?_
  refine W.region ?_
  refine WL.vS hS hE (runs_plain rfl) (Gives.p hE rfl) rfl ?_; clear hE a; intro a hE
  refine WL.nil ?_
  refine W.cond hE rfl (fun hc51 => ?_) (fun hc51 => ?_)
  · replace hr := iteT hc51 hr
    refine W.seq ?_
    refine W.seq ?_
    refine W.region ?_
    refine WL.vS hS hE (runs_plain rfl) (Gives.p hE rfl) rfl ?_; clear hE a; intro a hE
    refine WL.nil ?_
    refine W.cond hE rfl (fun hc52 => ?_) (fun hc52 => ?_)
    · replace hr := iteT hc52 hr
      refine W.seq ?_
      refine W.region ?_
      refine WL.vS hS hE (runs_plain rfl) (Gives.p hE rfl) rfl ?_; clear hE a; intro a hE
      refine WL.nil ?_
      refine W.ret ?_
      refine finG (fn := Try.f34) (rs := [.tmp 4]) (vs := [_]) hE rfl ⟨rfl, trivial⟩ ?_
      subst hr
      exact ⟨rfl, hS⟩
    · replace hr := iteF hc52 hr
      refine W.skip ?_
      refine W.seq ?_
      refine W.region ?_
      refine WL.vS hS hE (runs_plain rfl) (Gives.p hE rfl) rfl ?_; clear hE a; intro a hE
      refine WL.nil ?_
      refine W.ret ?_
      refine finG (fn := Try.f34) (rs := [.tmp 4]) (vs := [_]) hE rfl ⟨rfl, trivial⟩ ?_
      subst hr
      exact ⟨rfl, hS⟩
  · replace hr := iteF hc51 hr
    refine W.skip ?_
    refine W.seq ?_
    refine W.seq ?_
    refine W.region ?_
    refine WL.vS hS hE (runs_plain rfl) (Gives.p hE rfl) rfl ?_; clear hE a; intro a hE
    refine WL.nil ?_
    refine W.cond hE rfl (fun hc53 => ?_) (fun hc53 => ?_)
    · replace hr := iteT hc53 hr
      refine W.seq ?_
      refine W.region ?_
      refine WL.vS hS hE (runs_plain rfl) (Gives.p hE rfl) rfl ?_; clear hE a; intro a hE
      refine WL.nil ?_
      refine W.ret ?_
      refine finG (fn := Try.f34) (rs := [.tmp 4]) (vs := [_]) hE rfl ⟨rfl, trivial⟩ ?_
      subst hr
      exact ⟨rfl, hS⟩
    · replace hr := iteF hc53 hr
      refine W.skip ?_
      refine W.seq ?_
      refine W.seq ?_
      refine W.region ?_
      refine WL.vS hS hE (runs_plain rfl) (Gives.p hE rfl) rfl ?_; clear hE a; intro a hE
      refine WL.vS hS hE (runs_plain rfl) (Gives.p hE rfl) rfl ?_; clear hE a; intro a hE
      refine WL.vS hS hE (runs_plain rfl) (Gives.p hE rfl) rfl ?_; clear hE a; intro a hE
      refine WL.nil ?_
      refine W.cond hE rfl (fun hc54 => ?_) (fun hc54 => ?_)
      · replace hr := iteT hc54 hr
        refine W.seq ?_
        refine W.region ?_
        refine WL.vS hS hE (runs_plain rfl) (Gives.p hE rfl) rfl ?_; clear hE a; intro a hE
        refine WL.nil ?_
        refine W.ret ?_
        refine finG (fn := Try.f34) (rs := [.tmp 4]) (vs := [_]) hE rfl ⟨rfl, trivial⟩ ?_
        subst hr
        exact ⟨rfl, hS⟩
      · replace hr := iteF hc54 hr
        refine W.skip ?_
        refine W.seq ?_
        refine W.seq ?_
        refine W.region ?_
        refine WL.vS hS hE (runs_plain rfl) (Gives.p hE rfl) rfl ?_; clear hE a; intro a hE
        refine WL.vS hS hE (runs_plain rfl) (Gives.p hE rfl) rfl ?_; clear hE a; intro a hE
        refine WL.vS hS hE (runs_plain rfl) (Gives.p hE rfl) rfl ?_; clear hE a; intro a hE
        refine WL.nil ?_
        refine W.cond hE rfl (fun hc55 => ?_) (fun hc55 => ?_)
        · replace hr := iteT hc55 hr
          refine W.seq ?_
          refine W.region ?_
          refine WL.vS hS hE (runs_plain rfl) (Gives.p hE rfl) rfl ?_; clear hE a; intro a hE
          refine WL.nil ?_
          refine W.ret ?_
          refine finG (fn := Try.f34) (rs := [.tmp 4]) (vs := [_]) hE rfl ⟨rfl, trivial⟩ ?_
          subst hr
          exact ⟨rfl, hS⟩
        · replace hr := iteF hc55 hr
          refine W.skip ?_
          refine W.seq ?_
          refine W.region ?_
          refine WL.vS hS hE (runs_plain rfl) (Gives.p hE rfl) rfl ?_; clear hE a; intro a hE
          refine WL.nil ?_
          refine W.ret ?_
          refine finG (fn := Try.f34) (rs := [.tmp 4]) (vs := [_]) hE rfl ⟨rfl, trivial⟩ ?_
          subst hr
          exact ⟨rfl, hS⟩
set_option maxHeartbeats 8000000 in
theorem FareCarchoose_1_v1_ok  {w : World} {s : Sg} {R : List HP} {pb0 : Nat} {pb1 : Nat} {pb2 : Nat} {pb3 : Nat} {x0 : Int} {x1 : Int} {y1 : Int} {y2 : Int} {y3 : FareCar} {a_v0 : Option Addr} {c_v0 n_v0 : Nat} {cs_v0 : List Value} {a_v1 : Option Addr} {c_v1 n_v1 : Nat} {cs_v1 : List Value} (hS : St w s (pt pb0 (.cells #[.pointer (some ⟨pb3, 0, none⟩)] 23 (0, 0)) :: pt pb1 (.cells #[.int .i64 y1] 3 (0, 0)) :: pt pb2 (.cells #[.int .i64 y2] 3 (0, 0)) :: pt pb3 (.cells #[.int .i64 y3.rows, .int .i64 y3.across, .int .i64 y3.stops, .slice a_v0 n_v0 c_v0, .slice a_v1 n_v1 c_v1] 48 (0, 0)) :: vecC 39 4 a_v0 c_v0 n_v0 cs_v0 :: vecC 4 1 a_v1 c_v1 n_v1 cs_v1 :: R)) (h_v0 : Ev 4 RFareBooking s cs_v0 y3.bookings) (hn_v0 : y3.bookings.length = n_v0) (h_v1 : Ev 1 RB s cs_v1 y3.cancelled) (hn_v1 : y3.cancelled.length = n_v1) {r : Int} (hr : FareCarchoose_1_v1 x0 x1 y1 y2 y3 = some r) :
    Calls Try.prog 33 [.int .i64 x0, .int .i64 x1, .pointer (some ⟨pb0, 0, none⟩), .pointer (some ⟨pb1, 0, none⟩), .pointer (some ⟨pb2, 0, none⟩)].toArray w (fun e w => e = .returned (.int .i64 r) ∧ St w s (pt pb0 (.cells #[.pointer (some ⟨pb3, 0, none⟩)] 23 (0, 0)) :: pt pb1 (.cells #[.int .i64 y1] 3 (0, 0)) :: pt pb2 (.cells #[.int .i64 y2] 3 (0, 0)) :: pt pb3 (.cells #[.int .i64 y3.rows, .int .i64 y3.across, .int .i64 y3.stops, .slice a_v0 n_v0 c_v0, .slice a_v1 n_v1 c_v1] 48 (0, 0)) :: vecC 39 4 a_v0 c_v0 n_v0 cs_v0 :: vecC 4 1 a_v1 c_v1 n_v1 cs_v1 :: R)) := by
  refine enter Try.func33 rfl rfl rfl fun a hE => ?_
  rw [FareCarchoose_1_v1] at hr
  subst hn_v0
  subst hn_v1
  refine W.seq ?_
  refine W.region ?_
  refine WL.vS hS hE (runs_plain rfl) (Gives.p hE rfl) rfl ?_; clear hE a; intro a hE
  refine WL.nil ?_
  refine W.seq ?_
  refine W.regionQ (C := fun w => St w s (pt pb0 (.cells #[.pointer (some ⟨pb3, 0, none⟩)] 23 (0, 0)) :: pt pb1 (.cells #[.int .i64 y1] 3 (0, 0)) :: pt pb2 (.cells #[.int .i64 y2] 3 (0, 0)) :: pt pb3 (.cells #[.int .i64 y3.rows, .int .i64 y3.across, .int .i64 y3.stops, .slice a_v0 y3.bookings.length c_v0, .slice a_v1 y3.cancelled.length c_v1] 48 (0, 0)) :: vecC 39 4 a_v0 c_v0 y3.bookings.length cs_v0 :: vecC 4 1 a_v1 c_v1 y3.cancelled.length cs_v1 :: R)) mixed (by kernel_rfl) hS.drew ?_
  refine QL.v hE (runs_plain rfl) (Gives.loadB hE 0 rfl rfl rfl ty23) rfl ?_; clear hE a; intro a hE
  refine QL.v hE (runs_plain rfl) (Gives.p hE rfl) rfl ?_; clear hE a; intro a hE
  refine QL.v hE (runs_plain rfl) (Gives.loadB hE 1 rfl rfl rfl ty3) rfl ?_; clear hE a; intro a hE
  refine QL.v hE (runs_plain rfl) (Gives.loadB hE 2 rfl rfl rfl ty3) rfl ?_; clear hE a; intro a hE
  obtain ⟨q51, hq52, hr⟩ := bindS hr
  refine QL.fnq hE (fun w hS => (FareCargap_v1_ok (y0 := y3) (St.front (St.front (St.front hS 5 rfl) 5 rfl) 5 rfl) h_v0 (rfl) h_v1 (rfl) hq52).mono fun _ _ ⟨he, hq⟩ => ⟨he, (St.unfront 5 rfl (St.unfront 5 rfl (St.unfront 5 rfl hq)))⟩) (runs_plain rfl) bd35 rfl rfl rfl ?_; clear hE a; intro a hE
  refine QL.v hE (runs_plain rfl) (Gives.loadB hE 0 rfl rfl rfl ty23) rfl ?_; clear hE a; intro a hE
  refine QL.v hE (runs_plain rfl) (Gives.p hE rfl) rfl ?_; clear hE a; intro a hE
  refine QL.v hE (runs_plain rfl) (Gives.loadB hE 1 rfl rfl rfl ty3) rfl ?_; clear hE a; intro a hE
  refine QL.v hE (runs_plain rfl) (Gives.loadB hE 2 rfl rfl rfl ty3) rfl ?_; clear hE a; intro a hE
  obtain ⟨q53, hq54, hr⟩ := bindS hr
  refine QL.fnq hE (fun w hS => (FareCargap_v1_ok (y0 := y3) (St.front (St.front (St.front hS 5 rfl) 5 rfl) 5 rfl) h_v0 (rfl) h_v1 (rfl) hq54).mono fun _ _ ⟨he, hq⟩ => ⟨he, (St.unfront 5 rfl (St.unfront 5 rfl (St.unfront 5 rfl hq)))⟩) (runs_plain rfl) bd35 rfl rfl rfl ?_; clear hE a; intro a hE
  refine QL.fnq hE (fun w hS => CmpCompareint_ok hS  rfl (r := CmpCompareint q51 q53)) (runs_plain rfl) bd34 rfl rfl rfl ?_; clear hE a; intro a hE
  refine QL.v hE (runs_plain rfl) (Gives.p hE rfl) rfl ?_; clear hE a; intro a hE
  refine QL.nil ?_; clear hS w; intro w hS
  refine W.ret ?_
  refine finG (fn := Try.f33) (rs := [.tmp 7]) (vs := [_]) hE rfl ⟨rfl, trivial⟩ ?_
  obtain rfl := Option.some.inj hr
  exact ⟨rfl, hS⟩
set_option maxHeartbeats 8000000 in
theorem SlicesinsertionSortCmpFuncint_v1_ok {fu : Nat}  {w : World} {s : Sg} {R : List HP} {pb0 : Nat} {pb1 : Nat} {pb2 : Nat} {pb3 : Nat} {x0 : List Int} {a_v0 : Option Addr} {c_v0 n_v0 : Nat} {cs_v0 : List Value} {x1 : Int} {x2 : Int} {y1 : Int} {y2 : Int} {y3 : FareCar} {a_v1 : Option Addr} {c_v1 n_v1 : Nat} {cs_v1 : List Value} {a_v2 : Option Addr} {c_v2 n_v2 : Nat} {cs_v2 : List Value} (hS : St w s (pt pb0 (.cells #[.pointer (some ⟨pb3, 0, none⟩)] 23 (0, 0)) :: pt pb1 (.cells #[.int .i64 y1] 3 (0, 0)) :: pt pb2 (.cells #[.int .i64 y2] 3 (0, 0)) :: pt pb3 (.cells #[.int .i64 y3.rows, .int .i64 y3.across, .int .i64 y3.stops, .slice a_v1 n_v1 c_v1, .slice a_v2 n_v2 c_v2] 48 (0, 0)) :: vecC 3 1 a_v0 c_v0 n_v0 cs_v0 :: vecC 39 4 a_v1 c_v1 n_v1 cs_v1 :: vecC 4 1 a_v2 c_v2 n_v2 cs_v2 :: R)) (h_v0 : Ev 1 (RI .i64) s cs_v0 x0) (hn_v0 : x0.length = n_v0) (h_v1 : Ev 4 RFareBooking s cs_v1 y3.bookings) (hn_v1 : y3.bookings.length = n_v1) (h_v2 : Ev 1 RB s cs_v2 y3.cancelled) (hn_v2 : y3.cancelled.length = n_v2) {r : (List Int)} (hr : SlicesinsertionSortCmpFuncint_v1 fu x0 x1 x2 y1 y2 y3 = some r) :
    Calls Try.prog 46 [.slice a_v0 n_v0 c_v0, .int .i64 x1, .int .i64 x2, .func (.func 33) #[] #[.pointer (some ⟨pb0, 0, none⟩), .pointer (some ⟨pb1, 0, none⟩), .pointer (some ⟨pb2, 0, none⟩)]].toArray w (fun e w => ∃ (cs55 : List Value), e = .returned (.tuple #[]) ∧ Ev 1 (RI .i64) s cs55 r ∧ r.length = n_v0 ∧ St w s (pt pb0 (.cells #[.pointer (some ⟨pb3, 0, none⟩)] 23 (0, 0)) :: pt pb1 (.cells #[.int .i64 y1] 3 (0, 0)) :: pt pb2 (.cells #[.int .i64 y2] 3 (0, 0)) :: pt pb3 (.cells #[.int .i64 y3.rows, .int .i64 y3.across, .int .i64 y3.stops, .slice a_v1 n_v1 c_v1, .slice a_v2 n_v2 c_v2] 48 (0, 0)) :: vecC 3 1 a_v0 c_v0 n_v0 cs55 :: vecC 39 4 a_v1 c_v1 n_v1 cs_v1 :: vecC 4 1 a_v2 c_v2 n_v2 cs_v2 :: R)) := by
  refine enter Try.func46 rfl rfl rfl fun a hE => ?_
  rw [SlicesinsertionSortCmpFuncint_v1] at hr
  subst hn_v0
  subst hn_v1
  subst hn_v2
  refine W.seq ?_
  refine W.region ?_
  refine WL.vS hS hE (runs_plain rfl) (Gives.p hE rfl) rfl ?_; clear hE a; intro a hE
  refine WL.vS hS hE (runs_plain rfl) (Gives.p hE rfl) rfl ?_; clear hE a; intro a hE
  refine WL.vS hS hE (runs_plain rfl) (Gives.p hE rfl) rfl ?_; clear hE a; intro a hE
  refine WL.nil ?_
  obtain ⟨q58, hq57, hr⟩ := bindS hr
  refine W.cut (fun a w => ∃ (q63 : Int), ∃ (q64 : List Int), ∃ (cs68 : List Value), (q63, q64) = q58 ∧ Ev 1 (RI .i64) s cs68 q64 ∧ q64.length = x0.length ∧ Rep a 53 [] ∧ St w s (pt pb0 (.cells #[.pointer (some ⟨pb3, 0, none⟩)] 23 (0, 0)) :: pt pb1 (.cells #[.int .i64 y1] 3 (0, 0)) :: pt pb2 (.cells #[.int .i64 y2] 3 (0, 0)) :: pt pb3 (.cells #[.int .i64 y3.rows, .int .i64 y3.across, .int .i64 y3.stops, .slice a_v1 y3.bookings.length c_v1, .slice a_v2 y3.cancelled.length c_v2] 48 (0, 0)) :: vecC 3 1 a_v0 c_v0 x0.length cs68 :: vecC 39 4 a_v1 c_v1 y3.bookings.length cs_v1 :: vecC 4 1 a_v2 c_v2 y3.cancelled.length cs_v2 :: R)) ?_ ?_
  · refine W.block ?_
    refine W.loop (fun m a w => ∃ (n59 : Nat), ∃ (q63 : Int), ∃ (q64 : List Int), ∃ (cs68 : List Value), n59 = m ∧ SlicesinsertionSortCmpFuncint_v1.loop1 x1 x2 y1 y2 y3 fu n59 q63 q64 = some q58 ∧ Ev 1 (RI .i64) s cs68 q64 ∧ q64.length = x0.length ∧ Rep a 53 [(0, .slice a_v0 x0.length c_v0), (1, .int .i64 x1), (2, .int .i64 x2), (3, .func (.func 33) #[] #[.pointer (some ⟨pb0, 0, none⟩), .pointer (some ⟨pb1, 0, none⟩), .pointer (some ⟨pb2, 0, none⟩)]), (8, .int .i64 q63)] ∧ St w s (pt pb0 (.cells #[.pointer (some ⟨pb3, 0, none⟩)] 23 (0, 0)) :: pt pb1 (.cells #[.int .i64 y1] 3 (0, 0)) :: pt pb2 (.cells #[.int .i64 y2] 3 (0, 0)) :: pt pb3 (.cells #[.int .i64 y3.rows, .int .i64 y3.across, .int .i64 y3.stops, .slice a_v1 y3.bookings.length c_v1, .slice a_v2 y3.cancelled.length c_v2] 48 (0, 0)) :: vecC 3 1 a_v0 c_v0 x0.length cs68 :: vecC 39 4 a_v1 c_v1 y3.bookings.length cs_v1 :: vecC 4 1 a_v2 c_v2 y3.cancelled.length cs_v2 :: R)) (m := fu) ⟨fu, (w64 (x1 + 1)), x0, cs_v0, rfl, hq57, h_v0, (rfl), hE.pick _ ⟨rfl, rfl, rfl, rfl, rfl, trivial⟩, hS⟩ ?_
    clear hE hS a w hq57; rintro m60 a w ⟨n59, q63, q64, cs68, rfl, hq57, h67, hn69, hE, hS⟩
    refine W.gen fun K70 hK70 => ?_
    rcases n59 with _ | n59
    · rw [SlicesinsertionSortCmpFuncint_v1.loop1] at hq57; exact absurd hq57 (by simp)
    rw [SlicesinsertionSortCmpFuncint_v1.loop1] at hq57
    refine W.seq ?_
    refine W.seq ?_
    refine W.region ?_
    refine WL.vS hS hE (runs_plain rfl) (Gives.p hE rfl) rfl ?_; clear hE a; intro a hE
    refine WL.vS hS hE (runs_plain rfl) (Gives.p hE rfl) rfl ?_; clear hE a; intro a hE
    refine WL.vS hS hE (runs_plain rfl) (Gives.p hE rfl) rfl ?_; clear hE a; intro a hE
    refine WL.nil ?_
    refine W.cond hE rfl (fun hc71 => ?_) (fun hc71 => ?_)
    · replace hq57 := iteT hc71 hq57
      refine W.skip ?_
      refine W.seq ?_
      refine W.block ?_
      refine W.seq ?_
      refine W.region ?_
      refine WL.vS hS hE (runs_plain rfl) (Gives.p hE rfl) rfl ?_; clear hE a; intro a hE
      refine WL.vS hS hE (runs_plain rfl) (Gives.p hE rfl) rfl ?_; clear hE a; intro a hE
      refine WL.nil ?_
      obtain ⟨q73, hq72, hq57⟩ := bindS hq57
      refine W.cut (fun a w => ∃ (q78 : Int), ∃ (q79 : List Int), ∃ (cs83 : List Value), (q78, q79) = q73 ∧ Ev 1 (RI .i64) s cs83 q79 ∧ q79.length = x0.length ∧ Rep a 53 [(0, .slice a_v0 x0.length c_v0), (1, .int .i64 x1), (2, .int .i64 x2), (3, .func (.func 33) #[] #[.pointer (some ⟨pb0, 0, none⟩), .pointer (some ⟨pb1, 0, none⟩), .pointer (some ⟨pb2, 0, none⟩)]), (8, .int .i64 q63)] ∧ St w s (pt pb0 (.cells #[.pointer (some ⟨pb3, 0, none⟩)] 23 (0, 0)) :: pt pb1 (.cells #[.int .i64 y1] 3 (0, 0)) :: pt pb2 (.cells #[.int .i64 y2] 3 (0, 0)) :: pt pb3 (.cells #[.int .i64 y3.rows, .int .i64 y3.across, .int .i64 y3.stops, .slice a_v1 y3.bookings.length c_v1, .slice a_v2 y3.cancelled.length c_v2] 48 (0, 0)) :: vecC 3 1 a_v0 c_v0 x0.length cs83 :: vecC 39 4 a_v1 c_v1 y3.bookings.length cs_v1 :: vecC 4 1 a_v2 c_v2 y3.cancelled.length cs_v2 :: R)) ?_ ?_
      · refine W.block ?_
        refine W.loop (fun m a w => ∃ (n74 : Nat), ∃ (q78 : Int), ∃ (q79 : List Int), ∃ (cs83 : List Value), n74 = m ∧ SlicesinsertionSortCmpFuncint_v1.loop2 x1 y1 y2 y3 n74 q78 q79 = some q73 ∧ Ev 1 (RI .i64) s cs83 q79 ∧ q79.length = x0.length ∧ Rep a 53 [(0, .slice a_v0 x0.length c_v0), (1, .int .i64 x1), (2, .int .i64 x2), (3, .func (.func 33) #[] #[.pointer (some ⟨pb0, 0, none⟩), .pointer (some ⟨pb1, 0, none⟩), .pointer (some ⟨pb2, 0, none⟩)]), (8, .int .i64 q63), (9, .int .i64 q78)] ∧ St w s (pt pb0 (.cells #[.pointer (some ⟨pb3, 0, none⟩)] 23 (0, 0)) :: pt pb1 (.cells #[.int .i64 y1] 3 (0, 0)) :: pt pb2 (.cells #[.int .i64 y2] 3 (0, 0)) :: pt pb3 (.cells #[.int .i64 y3.rows, .int .i64 y3.across, .int .i64 y3.stops, .slice a_v1 y3.bookings.length c_v1, .slice a_v2 y3.cancelled.length c_v2] 48 (0, 0)) :: vecC 3 1 a_v0 c_v0 x0.length cs83 :: vecC 39 4 a_v1 c_v1 y3.bookings.length cs_v1 :: vecC 4 1 a_v2 c_v2 y3.cancelled.length cs_v2 :: R)) (m := fu) ⟨fu, q63, q64, cs68, rfl, hq72, h67, hn69, hE.pick _ ⟨rfl, rfl, rfl, rfl, rfl, rfl, trivial⟩, hS⟩ ?_
        clear hE hS a w hq72; rintro m75 a w ⟨n74, q78, q79, cs83, rfl, hq72, h82, hn84, hE, hS⟩
        refine W.gen fun K85 hK85 => ?_
        rcases n74 with _ | n74
        · rw [SlicesinsertionSortCmpFuncint_v1.loop2] at hq72; exact absurd hq72 (by simp)
        rw [SlicesinsertionSortCmpFuncint_v1.loop2] at hq72
        refine W.seq ?_
        refine W.seq ?_
        obtain ⟨q87, hq86, hq72⟩ := bindS hq72
        refine W.cut (fun a w => ∃ (q90 : Bool), q90 = q87 ∧ Rep a 53 [(0, .slice a_v0 x0.length c_v0), (1, .int .i64 x1), (2, .int .i64 x2), (3, .func (.func 33) #[] #[.pointer (some ⟨pb0, 0, none⟩), .pointer (some ⟨pb1, 0, none⟩), .pointer (some ⟨pb2, 0, none⟩)]), (8, .int .i64 q63), (9, .int .i64 q78), (34, .bool q90)] ∧ St w s (pt pb0 (.cells #[.pointer (some ⟨pb3, 0, none⟩)] 23 (0, 0)) :: pt pb1 (.cells #[.int .i64 y1] 3 (0, 0)) :: pt pb2 (.cells #[.int .i64 y2] 3 (0, 0)) :: pt pb3 (.cells #[.int .i64 y3.rows, .int .i64 y3.across, .int .i64 y3.stops, .slice a_v1 y3.bookings.length c_v1, .slice a_v2 y3.cancelled.length c_v2] 48 (0, 0)) :: vecC 3 1 a_v0 c_v0 x0.length cs83 :: vecC 39 4 a_v1 c_v1 y3.bookings.length cs_v1 :: vecC 4 1 a_v2 c_v2 y3.cancelled.length cs_v2 :: R)) ?_ ?_
        · refine W.gen fun K91 hK91 => ?_
          refine W.regionQ (C := fun w => St w s (pt pb0 (.cells #[.pointer (some ⟨pb3, 0, none⟩)] 23 (0, 0)) :: pt pb1 (.cells #[.int .i64 y1] 3 (0, 0)) :: pt pb2 (.cells #[.int .i64 y2] 3 (0, 0)) :: pt pb3 (.cells #[.int .i64 y3.rows, .int .i64 y3.across, .int .i64 y3.stops, .slice a_v1 y3.bookings.length c_v1, .slice a_v2 y3.cancelled.length c_v2] 48 (0, 0)) :: vecC 3 1 a_v0 c_v0 x0.length cs83 :: vecC 39 4 a_v1 c_v1 y3.bookings.length cs_v1 :: vecC 4 1 a_v2 c_v2 y3.cancelled.length cs_v2 :: R)) mixed (by kernel_rfl) hS.drew ?_
          refine QL.v hE (runs_plain rfl) (Gives.p hE rfl) rfl ?_; clear hE a; intro a hE
          refine QL.v hE (runs_plain rfl) (Gives.p hE rfl) rfl ?_; clear hE a; intro a hE
          refine QL.v hE (runs_plain rfl) (Gives.p hE rfl) rfl ?_; clear hE a; intro a hE
          refine QL.v hE (runs_plain rfl) (Gives.p hE rfl) rfl ?_; clear hE a; intro a hE
          rcases Bool.eq_false_or_eq_true (decide (q78 > x1)) with hg92 | hg92
          · replace hq86 := iteT hg92 hq86
            refine QL.v hE (runs_if hE rfl rfl rfl hg92) (Gives.p hE rfl) rfl ?_; clear hE a; intro a hE
            refine QL.v hE (runs_if hE rfl rfl rfl hg92) (Gives.p hE rfl) rfl ?_; clear hE a; intro a hE
            refine QL.v hE (runs_if hE rfl rfl rfl hg92) (Gives.p hE rfl) rfl ?_; clear hE a; intro a hE
            obtain ⟨x93, hx94, hq86⟩ := bindS hq86
            obtain ⟨hi95, hlt96, hy97⟩ := gx_some hx94
            obtain ⟨vs98, hl99, hR100, hd101, hget102⟩ := h82.at hy97
            subst hR100
            refine QL.v hE (runs_if hE rfl rfl rfl hg92) (Gives.idx hE ((q78).toNat) rfl rfl sl22 hi95 (by have := hn84; omega) (hS.vecAok 4 rfl (by have := hn84; omega : (q78).toNat < x0.length))) rfl ?_; clear hE a; intro a hE
            refine QL.v hE (runs_if hE rfl rfl rfl hg92) (Gives.load1 hE rfl (fun w h => St.vecSees h 4 rfl ((q78).toNat * 1) _ hget102) ty3) rfl ?_; clear hE a; intro a hE
            refine QL.v hE (runs_if hE rfl rfl rfl hg92) (Gives.p hE rfl) rfl ?_; clear hE a; intro a hE
            refine QL.v hE (runs_if hE rfl rfl rfl hg92) (Gives.p hE rfl) rfl ?_; clear hE a; intro a hE
            refine QL.v hE (runs_if hE rfl rfl rfl hg92) (Gives.p hE rfl) rfl ?_; clear hE a; intro a hE
            obtain ⟨x103, hx104, hq86⟩ := bindS hq86
            obtain ⟨hi105, hlt106, hy107⟩ := gx_some hx104
            obtain ⟨vs108, hl109, hR110, hd111, hget112⟩ := h82.at hy107
            subst hR110
            refine QL.v hE (runs_if hE rfl rfl rfl hg92) (Gives.idx hE ((w64 (q78 - 1)).toNat) rfl rfl sl22 hi105 (by have := hn84; omega) (hS.vecAok 4 rfl (by have := hn84; omega : (w64 (q78 - 1)).toNat < x0.length))) rfl ?_; clear hE a; intro a hE
            refine QL.v hE (runs_if hE rfl rfl rfl hg92) (Gives.load1 hE rfl (fun w h => St.vecSees h 4 rfl ((w64 (q78 - 1)).toNat * 1) _ hget112) ty3) rfl ?_; clear hE a; intro a hE
            obtain ⟨q113, hq114, hq86⟩ := bindS hq86
            refine QL.fnw hE (fun w hS => (FareCarchoose_1_v1_ok (y3 := y3) (St.front (St.front (St.front (St.front (St.front (St.front hS 6 rfl) 6 rfl) 5 rfl) 5 rfl) 5 rfl) 5 rfl) h_v1 (rfl) h_v2 (rfl) hq114).mono fun _ _ ⟨he, hq⟩ => ⟨he, (St.unfront 6 rfl (St.unfront 6 rfl (St.unfront 5 rfl (St.unfront 5 rfl (St.unfront 5 rfl (St.unfront 5 rfl hq))))))⟩) rfl (runs_if hE rfl rfl rfl hg92) bd33 rfl rfl rfl ?_; clear hE a; intro a hE
            refine QL.v hE (runs_if hE rfl rfl rfl hg92) (Gives.p hE rfl) rfl ?_; clear hE a; intro a hE
            refine QL.v hE (runs_plain rfl) (Gives.pickT hE rfl hg92 rfl) rfl ?_; clear hE a; intro a hE
            refine QL.nil ?_; clear hS w; intro w hS
            subst hK91
            exact ⟨decide (q113 < 0), Option.some.inj hq86, hE.pick _ ⟨rfl, rfl, rfl, rfl, rfl, rfl, rfl, trivial⟩, hS⟩
          · replace hq86 := iteF hg92 hq86
            refine QL.no hE (runs_not hE rfl rfl rfl (by rw [hg92]; decide)) rfl ?_; clear hE a; intro a hE
            refine QL.no hE (runs_not hE rfl rfl rfl (by rw [hg92]; decide)) rfl ?_; clear hE a; intro a hE
            refine QL.no hE (runs_not hE rfl rfl rfl (by rw [hg92]; decide)) rfl ?_; clear hE a; intro a hE
            refine QL.no hE (runs_not hE rfl rfl rfl (by rw [hg92]; decide)) rfl ?_; clear hE a; intro a hE
            refine QL.no hE (runs_not hE rfl rfl rfl (by rw [hg92]; decide)) rfl ?_; clear hE a; intro a hE
            refine QL.no hE (runs_not hE rfl rfl rfl (by rw [hg92]; decide)) rfl ?_; clear hE a; intro a hE
            refine QL.no hE (runs_not hE rfl rfl rfl (by rw [hg92]; decide)) rfl ?_; clear hE a; intro a hE
            refine QL.no hE (runs_not hE rfl rfl rfl (by rw [hg92]; decide)) rfl ?_; clear hE a; intro a hE
            refine QL.no hE (runs_not hE rfl rfl rfl (by rw [hg92]; decide)) rfl ?_; clear hE a; intro a hE
            refine QL.no hE (runs_not hE rfl rfl rfl (by rw [hg92]; decide)) rfl ?_; clear hE a; intro a hE
            refine QL.no hE (runs_not hE rfl rfl rfl (by rw [hg92]; decide)) rfl ?_; clear hE a; intro a hE
            refine QL.no hE (runs_not hE rfl rfl rfl (by rw [hg92]; decide)) rfl ?_; clear hE a; intro a hE
            refine QL.v hE (runs_plain rfl) (Gives.pickF hE rfl hg92 rfl) rfl ?_; clear hE a; intro a hE
            refine QL.nil ?_; clear hS w; intro w hS
            subst hK91
            exact ⟨false, Option.some.inj hq86, hE.pick _ ⟨rfl, rfl, rfl, rfl, rfl, rfl, rfl, trivial⟩, hS⟩
        · clear hE hS a w; rintro a w ⟨q90, rfl, hE, hS⟩
          refine W.cond hE rfl (fun hc115 => ?_) (fun hc115 => ?_)
          · replace hq72 := iteT hc115 hq72
            refine W.skip ?_
            refine W.seq ?_
            refine W.block ?_
            refine W.gen fun K116 hK116 => ?_
            refine rE hS [] [4] [0, 1, 2, 3, 4, 5, 6, 7, 8, 9, 10, 11, 12, 13, 14, 16] [0, 1, 2, 3, 4, 5, 6, 7, 8, 9, 10, 11, 12, 13, 14, 15, 16, 17] mixed ?_
            replace hS := hS.drew
            refine Rg.takeP (i := 0) hE rfl (by kernel_rfl) (runs_plain rfl) (Gives.p hE rfl) rfl (tw_sel (fun _ => hS) (fun _ => (hS.dropAt 4))) ?_; clear hE a; intro a hE
            refine Rg.takeP (i := 1) hE rfl (by kernel_rfl) (runs_plain rfl) (Gives.p hE rfl) rfl (tw_sel (fun _ => hS) (fun _ => (hS.dropAt 4))) ?_; clear hE a; intro a hE
            refine Rg.takeP (i := 2) hE rfl (by kernel_rfl) (runs_plain rfl) (Gives.p hE rfl) rfl (tw_sel (fun _ => hS) (fun _ => (hS.dropAt 4))) ?_; clear hE a; intro a hE
            refine Rg.takeP (i := 3) hE rfl (by kernel_rfl) (runs_plain rfl) (Gives.p hE rfl) rfl (tw_sel (fun _ => hS) (fun _ => (hS.dropAt 4))) ?_; clear hE a; intro a hE
            refine Rg.takeP (i := 4) hE rfl (by kernel_rfl) (runs_plain rfl) (Gives.p hE rfl) rfl (tw_sel (fun _ => hS) (fun _ => (hS.dropAt 4))) ?_; clear hE a; intro a hE
            refine Rg.takeP (i := 5) hE rfl (by kernel_rfl) (runs_plain rfl) (Gives.p hE rfl) rfl (tw_sel (fun _ => hS) (fun _ => (hS.dropAt 4))) ?_; clear hE a; intro a hE
            refine Rg.takeP (i := 6) hE rfl (by kernel_rfl) (runs_plain rfl) (Gives.p hE rfl) rfl (tw_sel (fun _ => hS) (fun _ => (hS.dropAt 4))) ?_; clear hE a; intro a hE
            refine Rg.takeP (i := 7) hE rfl (by kernel_rfl) (runs_plain rfl) (Gives.p hE rfl) rfl (tw_sel (fun _ => hS) (fun _ => (hS.dropAt 4))) ?_; clear hE a; intro a hE
            obtain ⟨x117, hx118, hq72⟩ := bindS hq72
            obtain ⟨hi119, hlt120, hy121⟩ := gx_some hx118
            obtain ⟨vs122, hl123, hR124, hd125, hget126⟩ := h82.at hy121
            subst hR124
            refine Rg.takeP (i := 8) hE rfl (by kernel_rfl) (runs_plain rfl) (Gives.idx hE ((w64 (q78 - 1)).toNat) rfl rfl sl22 hi119 (by have := hn84; omega) (hS.vecAok 4 rfl (by have := hn84; omega : (w64 (q78 - 1)).toNat < x0.length))) rfl (tw_sel (fun _ => hS) (fun _ => (hS.dropAt 4))) ?_; clear hE a; intro a hE
            refine Rg.take (i := 9) true rfl hE rfl (by kernel_rfl) (runs_plain rfl) (Gives.load1 hE rfl (fun w h => St.vecSees h 4 rfl ((w64 (q78 - 1)).toNat * 1) _ hget126) ty3) rfl (tw_sel (fun _ => hS) (fun _ => (hS.dropAt 4))) ?_; clear hE a; intro a hE
            refine Rg.takeP (i := 10) hE rfl (by kernel_rfl) (runs_plain rfl) (Gives.p hE rfl) rfl (tw_sel (fun _ => hS) (fun _ => (hS.dropAt 4))) ?_; clear hE a; intro a hE
            refine Rg.takeP (i := 11) hE rfl (by kernel_rfl) (runs_plain rfl) (Gives.p hE rfl) rfl (tw_sel (fun _ => hS) (fun _ => (hS.dropAt 4))) ?_; clear hE a; intro a hE
            obtain ⟨x127, hx128, hq72⟩ := bindS hq72
            obtain ⟨hi129, hlt130, hy131⟩ := gx_some hx128
            obtain ⟨vs132, hl133, hR134, hd135, hget136⟩ := h82.at hy131
            subst hR134
            refine Rg.takeP (i := 12) hE rfl (by kernel_rfl) (runs_plain rfl) (Gives.idx hE ((q78).toNat) rfl rfl sl22 hi129 (by have := hn84; omega) (hS.vecAok 4 rfl (by have := hn84; omega : (q78).toNat < x0.length))) rfl (tw_sel (fun _ => hS) (fun _ => (hS.dropAt 4))) ?_; clear hE a; intro a hE
            refine Rg.take (i := 13) true rfl hE rfl (by kernel_rfl) (runs_plain rfl) (Gives.load1 hE rfl (fun w h => St.vecSees h 4 rfl ((q78).toNat * 1) _ hget136) ty3) rfl (tw_sel (fun _ => hS) (fun _ => (hS.dropAt 4))) ?_; clear hE a; intro a hE
            obtain ⟨_, hx138, hq72⟩ := bindS hq72
            obtain ⟨h139, h140⟩ := ix_some hx138
            refine Rg.takeP (i := 14) hE rfl (by kernel_rfl) (runs_plain rfl) (Gives.idx hE ((q78).toNat) rfl rfl sl22 h139 (by have := hn84; omega) (hS.vecAok 4 rfl (by have := hn84; omega : (q78).toNat < x0.length))) rfl (tw_sel (fun _ => hS) (fun _ => (hS.dropAt 4))) ?_; clear hE a; intro a hE
            refine Rg.one (i := 15) false true rfl (by kernel_rfl) (by kernel_rfl) (by kernel_rfl) ?_
            obtain ⟨x142, hx143, hq72⟩ := bindS hq72
            refine WL.setD hE hS 4 rfl (runs_plain rfl) rfl rfl (vs := [.int .i64 x117]) rfl ty3 rfl rfl rfl h82 hn84 (sx_some hx143).1 hx143 rfl rfl ?_; clear hE hS a w; intro cs144 a w h145 hn146 hE hS
            refine WL.nil ?_
            refine ⟨⟨fun h => absurd h (by decide), fun _ => (hS.dropAt 4)⟩, ?_⟩
            obtain ⟨_, hx148, hq72⟩ := bindS hq72
            obtain ⟨h149, h150⟩ := ix_some hx148
            refine Rg.takeP (i := 16) hE rfl (by kernel_rfl) (runs_plain rfl) (Gives.idx hE ((w64 (q78 - 1)).toNat) rfl rfl sl22 h149 (by have := hn146; omega) (hS.vecAok 4 rfl (by have := hn146; omega : (w64 (q78 - 1)).toNat < x0.length))) rfl (tw_sel (fun h => absurd h (by decide)) (fun _ => (hS.dropAt 4))) ?_; clear hE a; intro a hE
            refine Rg.one (i := 17) false true rfl (by kernel_rfl) (by kernel_rfl) (by kernel_rfl) ?_
            obtain ⟨x152, hx153, hq72⟩ := bindS hq72
            refine WL.setD hE hS 4 rfl (runs_plain rfl) rfl rfl (vs := [.int .i64 x127]) rfl ty3 rfl rfl rfl h145 hn146 (sx_some hx153).1 hx153 rfl rfl ?_; clear hE hS a w; intro cs154 a w h155 hn156 hE hS
            refine WL.nil ?_
            refine ⟨⟨fun h => absurd h (by decide), fun _ => (hS.dropAt 4)⟩, ?_⟩
            refine Rg.done (by kernel_rfl) ?_
            subst hK116
            refine W.region ?_
            refine WL.vS hS hE (runs_plain rfl) (Gives.p hE rfl) rfl ?_; clear hE a; intro a hE
            refine WL.vS hS hE (runs_plain rfl) (Gives.p hE rfl) rfl ?_; clear hE a; intro a hE
            refine WL.vS hS hE (runs_plain rfl) (Gives.p hE rfl) rfl ?_; clear hE a; intro a hE
            refine WL.nil ?_
            subst hK85
            exact ⟨n74, Nat.lt_succ_self _, n74, (w64 (q78 - 1)), x152, cs154, rfl, hq72, h155, hn156, hE.pick _ ⟨rfl, rfl, rfl, rfl, rfl, rfl, trivial⟩, hS⟩
          · replace hq72 := iteF hc115 hq72
            subst hK85
            refine W.exit rfl ?_
            exact ⟨q78, q79, cs83, Option.some.inj hq72, h82, hn84, hE.pick _ ⟨rfl, rfl, rfl, rfl, rfl, trivial⟩, hS⟩
      · clear hE hS a w; rintro a w ⟨q78, q79, cs83, rfl, h82, hn84, hE, hS⟩
        dsimp only at hq57
        refine W.region ?_
        refine WL.vS hS hE (runs_plain rfl) (Gives.p hE rfl) rfl ?_; clear hE a; intro a hE
        refine WL.vS hS hE (runs_plain rfl) (Gives.p hE rfl) rfl ?_; clear hE a; intro a hE
        refine WL.vS hS hE (runs_plain rfl) (Gives.p hE rfl) rfl ?_; clear hE a; intro a hE
        refine WL.nil ?_
        subst hK70
        exact ⟨n59, Nat.lt_succ_self _, n59, (w64 (q63 + 1)), q79, cs83, rfl, hq57, h82, hn84, hE.pick _ ⟨rfl, rfl, rfl, rfl, rfl, trivial⟩, hS⟩
    · replace hq57 := iteF hc71 hq57
      subst hK70
      refine W.exit rfl ?_
      exact ⟨q63, q64, cs68, Option.some.inj hq57, h67, hn69, hE.pick _ trivial, hS⟩
  · clear hE hS a w; rintro a w ⟨q63, q64, cs68, rfl, h67, hn69, hE, hS⟩
    dsimp only at hr
    refine finG (fn := Try.f46) (rs := []) (vs := []) hE rfl trivial ?_
    obtain rfl := Option.some.inj hr
    exact ⟨cs68, rfl, h67, hn69, hS⟩
set_option maxHeartbeats 8000000 in
theorem SlicesswapRangeCmpFuncint_v1_ok {fu : Nat}  {w : World} {s : Sg} {R : List HP} {pb0 : Nat} {pb1 : Nat} {pb2 : Nat} {pb3 : Nat} {x0 : List Int} {a_v0 : Option Addr} {c_v0 n_v0 : Nat} {cs_v0 : List Value} {x1 : Int} {x2 : Int} {x3 : Int} {y1 : Int} {y2 : Int} {y3 : FareCar} {a_v1 : Option Addr} {c_v1 n_v1 : Nat} {cs_v1 : List Value} {a_v2 : Option Addr} {c_v2 n_v2 : Nat} {cs_v2 : List Value} (hS : St w s (pt pb0 (.cells #[.pointer (some ⟨pb3, 0, none⟩)] 23 (0, 0)) :: pt pb1 (.cells #[.int .i64 y1] 3 (0, 0)) :: pt pb2 (.cells #[.int .i64 y2] 3 (0, 0)) :: pt pb3 (.cells #[.int .i64 y3.rows, .int .i64 y3.across, .int .i64 y3.stops, .slice a_v1 n_v1 c_v1, .slice a_v2 n_v2 c_v2] 48 (0, 0)) :: vecC 3 1 a_v0 c_v0 n_v0 cs_v0 :: vecC 39 4 a_v1 c_v1 n_v1 cs_v1 :: vecC 4 1 a_v2 c_v2 n_v2 cs_v2 :: R)) (h_v0 : Ev 1 (RI .i64) s cs_v0 x0) (hn_v0 : x0.length = n_v0) (_h_v1 : Ev 4 RFareBooking s cs_v1 y3.bookings) (hn_v1 : y3.bookings.length = n_v1) (_h_v2 : Ev 1 RB s cs_v2 y3.cancelled) (hn_v2 : y3.cancelled.length = n_v2) {r : (List Int)} (hr : SlicesswapRangeCmpFuncint_v1 fu x0 x1 x2 x3 y1 y2 y3 = some r) :
    Calls Try.prog 65 [.slice a_v0 n_v0 c_v0, .int .i64 x1, .int .i64 x2, .int .i64 x3, .func (.func 33) #[] #[.pointer (some ⟨pb0, 0, none⟩), .pointer (some ⟨pb1, 0, none⟩), .pointer (some ⟨pb2, 0, none⟩)]].toArray w (fun e w => ∃ (cs55 : List Value), e = .returned (.tuple #[]) ∧ Ev 1 (RI .i64) s cs55 r ∧ r.length = n_v0 ∧ St w s (pt pb0 (.cells #[.pointer (some ⟨pb3, 0, none⟩)] 23 (0, 0)) :: pt pb1 (.cells #[.int .i64 y1] 3 (0, 0)) :: pt pb2 (.cells #[.int .i64 y2] 3 (0, 0)) :: pt pb3 (.cells #[.int .i64 y3.rows, .int .i64 y3.across, .int .i64 y3.stops, .slice a_v1 n_v1 c_v1, .slice a_v2 n_v2 c_v2] 48 (0, 0)) :: vecC 3 1 a_v0 c_v0 n_v0 cs55 :: vecC 39 4 a_v1 c_v1 n_v1 cs_v1 :: vecC 4 1 a_v2 c_v2 n_v2 cs_v2 :: R)) := by
  refine enter Try.func65 rfl rfl rfl fun a hE => ?_
  rw [SlicesswapRangeCmpFuncint_v1] at hr
  subst hn_v0
  subst hn_v1
  subst hn_v2
  refine W.seq ?_
  refine W.region ?_
  refine WL.vS hS hE (runs_plain rfl) (Gives.p hE rfl) rfl ?_; clear hE a; intro a hE
  refine WL.nil ?_
  obtain ⟨q58, hq57, hr⟩ := bindS hr
  refine W.cut (fun a w => ∃ (q63 : Int), ∃ (q64 : List Int), ∃ (cs68 : List Value), (q63, q64) = q58 ∧ Ev 1 (RI .i64) s cs68 q64 ∧ q64.length = x0.length ∧ Rep a 38 [] ∧ St w s (pt pb0 (.cells #[.pointer (some ⟨pb3, 0, none⟩)] 23 (0, 0)) :: pt pb1 (.cells #[.int .i64 y1] 3 (0, 0)) :: pt pb2 (.cells #[.int .i64 y2] 3 (0, 0)) :: pt pb3 (.cells #[.int .i64 y3.rows, .int .i64 y3.across, .int .i64 y3.stops, .slice a_v1 y3.bookings.length c_v1, .slice a_v2 y3.cancelled.length c_v2] 48 (0, 0)) :: vecC 3 1 a_v0 c_v0 x0.length cs68 :: vecC 39 4 a_v1 c_v1 y3.bookings.length cs_v1 :: vecC 4 1 a_v2 c_v2 y3.cancelled.length cs_v2 :: R)) ?_ ?_
  · refine W.block ?_
    refine W.loop (fun m a w => ∃ (n59 : Nat), ∃ (q63 : Int), ∃ (q64 : List Int), ∃ (cs68 : List Value), n59 = m ∧ SlicesswapRangeCmpFuncint_v1.loop1 x1 x2 x3 n59 q63 q64 = some q58 ∧ Ev 1 (RI .i64) s cs68 q64 ∧ q64.length = x0.length ∧ Rep a 38 [(0, .slice a_v0 x0.length c_v0), (1, .int .i64 x1), (2, .int .i64 x2), (3, .int .i64 x3), (10, .int .i64 q63)] ∧ St w s (pt pb0 (.cells #[.pointer (some ⟨pb3, 0, none⟩)] 23 (0, 0)) :: pt pb1 (.cells #[.int .i64 y1] 3 (0, 0)) :: pt pb2 (.cells #[.int .i64 y2] 3 (0, 0)) :: pt pb3 (.cells #[.int .i64 y3.rows, .int .i64 y3.across, .int .i64 y3.stops, .slice a_v1 y3.bookings.length c_v1, .slice a_v2 y3.cancelled.length c_v2] 48 (0, 0)) :: vecC 3 1 a_v0 c_v0 x0.length cs68 :: vecC 39 4 a_v1 c_v1 y3.bookings.length cs_v1 :: vecC 4 1 a_v2 c_v2 y3.cancelled.length cs_v2 :: R)) (m := fu) ⟨fu, 0, x0, cs_v0, rfl, hq57, h_v0, (rfl), hE.pick _ ⟨rfl, rfl, rfl, rfl, rfl, trivial⟩, hS⟩ ?_
    clear hE hS a w hq57; rintro m60 a w ⟨n59, q63, q64, cs68, rfl, hq57, h67, hn69, hE, hS⟩
    refine W.gen fun K70 hK70 => ?_
    rcases n59 with _ | n59
    · rw [SlicesswapRangeCmpFuncint_v1.loop1] at hq57; exact absurd hq57 (by simp)
    rw [SlicesswapRangeCmpFuncint_v1.loop1] at hq57
    refine W.seq ?_
    refine W.seq ?_
    refine W.region ?_
    refine WL.vS hS hE (runs_plain rfl) (Gives.p hE rfl) rfl ?_; clear hE a; intro a hE
    refine WL.vS hS hE (runs_plain rfl) (Gives.p hE rfl) rfl ?_; clear hE a; intro a hE
    refine WL.vS hS hE (runs_plain rfl) (Gives.p hE rfl) rfl ?_; clear hE a; intro a hE
    refine WL.nil ?_
    refine W.cond hE rfl (fun hc71 => ?_) (fun hc71 => ?_)
    · replace hq57 := iteT hc71 hq57
      refine W.skip ?_
      refine W.seq ?_
      refine W.block ?_
      refine W.gen fun K72 hK72 => ?_
      refine rE hS [] [4] [0, 1, 2, 3, 4, 5, 6, 7, 8, 9, 10, 11, 12, 13, 14, 15, 16, 17, 18, 19, 20, 22] [0, 1, 2, 3, 4, 5, 6, 7, 8, 9, 10, 11, 12, 13, 14, 15, 16, 17, 18, 19, 20, 21, 22, 23] mixed ?_
      replace hS := hS.drew
      refine Rg.takeP (i := 0) hE rfl (by kernel_rfl) (runs_plain rfl) (Gives.p hE rfl) rfl (tw_sel (fun _ => hS) (fun _ => (hS.dropAt 4))) ?_; clear hE a; intro a hE
      refine Rg.takeP (i := 1) hE rfl (by kernel_rfl) (runs_plain rfl) (Gives.p hE rfl) rfl (tw_sel (fun _ => hS) (fun _ => (hS.dropAt 4))) ?_; clear hE a; intro a hE
      refine Rg.takeP (i := 2) hE rfl (by kernel_rfl) (runs_plain rfl) (Gives.p hE rfl) rfl (tw_sel (fun _ => hS) (fun _ => (hS.dropAt 4))) ?_; clear hE a; intro a hE
      refine Rg.takeP (i := 3) hE rfl (by kernel_rfl) (runs_plain rfl) (Gives.p hE rfl) rfl (tw_sel (fun _ => hS) (fun _ => (hS.dropAt 4))) ?_; clear hE a; intro a hE
      refine Rg.takeP (i := 4) hE rfl (by kernel_rfl) (runs_plain rfl) (Gives.p hE rfl) rfl (tw_sel (fun _ => hS) (fun _ => (hS.dropAt 4))) ?_; clear hE a; intro a hE
      refine Rg.takeP (i := 5) hE rfl (by kernel_rfl) (runs_plain rfl) (Gives.p hE rfl) rfl (tw_sel (fun _ => hS) (fun _ => (hS.dropAt 4))) ?_; clear hE a; intro a hE
      refine Rg.takeP (i := 6) hE rfl (by kernel_rfl) (runs_plain rfl) (Gives.p hE rfl) rfl (tw_sel (fun _ => hS) (fun _ => (hS.dropAt 4))) ?_; clear hE a; intro a hE
      refine Rg.takeP (i := 7) hE rfl (by kernel_rfl) (runs_plain rfl) (Gives.p hE rfl) rfl (tw_sel (fun _ => hS) (fun _ => (hS.dropAt 4))) ?_; clear hE a; intro a hE
      refine Rg.takeP (i := 8) hE rfl (by kernel_rfl) (runs_plain rfl) (Gives.p hE rfl) rfl (tw_sel (fun _ => hS) (fun _ => (hS.dropAt 4))) ?_; clear hE a; intro a hE
      refine Rg.takeP (i := 9) hE rfl (by kernel_rfl) (runs_plain rfl) (Gives.p hE rfl) rfl (tw_sel (fun _ => hS) (fun _ => (hS.dropAt 4))) ?_; clear hE a; intro a hE
      refine Rg.takeP (i := 10) hE rfl (by kernel_rfl) (runs_plain rfl) (Gives.p hE rfl) rfl (tw_sel (fun _ => hS) (fun _ => (hS.dropAt 4))) ?_; clear hE a; intro a hE
      refine Rg.takeP (i := 11) hE rfl (by kernel_rfl) (runs_plain rfl) (Gives.p hE rfl) rfl (tw_sel (fun _ => hS) (fun _ => (hS.dropAt 4))) ?_; clear hE a; intro a hE
      obtain ⟨x73, hx74, hq57⟩ := bindS hq57
      obtain ⟨hi75, hlt76, hy77⟩ := gx_some hx74
      obtain ⟨vs78, hl79, hR80, hd81, hget82⟩ := h67.at hy77
      subst hR80
      refine Rg.takeP (i := 12) hE rfl (by kernel_rfl) (runs_plain rfl) (Gives.idx hE ((w64 (x2 + q63)).toNat) rfl rfl sl22 hi75 (by have := hn69; omega) (hS.vecAok 4 rfl (by have := hn69; omega : (w64 (x2 + q63)).toNat < x0.length))) rfl (tw_sel (fun _ => hS) (fun _ => (hS.dropAt 4))) ?_; clear hE a; intro a hE
      refine Rg.take (i := 13) true rfl hE rfl (by kernel_rfl) (runs_plain rfl) (Gives.load1 hE rfl (fun w h => St.vecSees h 4 rfl ((w64 (x2 + q63)).toNat * 1) _ hget82) ty3) rfl (tw_sel (fun _ => hS) (fun _ => (hS.dropAt 4))) ?_; clear hE a; intro a hE
      refine Rg.takeP (i := 14) hE rfl (by kernel_rfl) (runs_plain rfl) (Gives.p hE rfl) rfl (tw_sel (fun _ => hS) (fun _ => (hS.dropAt 4))) ?_; clear hE a; intro a hE
      refine Rg.takeP (i := 15) hE rfl (by kernel_rfl) (runs_plain rfl) (Gives.p hE rfl) rfl (tw_sel (fun _ => hS) (fun _ => (hS.dropAt 4))) ?_; clear hE a; intro a hE
      refine Rg.takeP (i := 16) hE rfl (by kernel_rfl) (runs_plain rfl) (Gives.p hE rfl) rfl (tw_sel (fun _ => hS) (fun _ => (hS.dropAt 4))) ?_; clear hE a; intro a hE
      refine Rg.takeP (i := 17) hE rfl (by kernel_rfl) (runs_plain rfl) (Gives.p hE rfl) rfl (tw_sel (fun _ => hS) (fun _ => (hS.dropAt 4))) ?_; clear hE a; intro a hE
      obtain ⟨x83, hx84, hq57⟩ := bindS hq57
      obtain ⟨hi85, hlt86, hy87⟩ := gx_some hx84
      obtain ⟨vs88, hl89, hR90, hd91, hget92⟩ := h67.at hy87
      subst hR90
      refine Rg.takeP (i := 18) hE rfl (by kernel_rfl) (runs_plain rfl) (Gives.idx hE ((w64 (x1 + q63)).toNat) rfl rfl sl22 hi85 (by have := hn69; omega) (hS.vecAok 4 rfl (by have := hn69; omega : (w64 (x1 + q63)).toNat < x0.length))) rfl (tw_sel (fun _ => hS) (fun _ => (hS.dropAt 4))) ?_; clear hE a; intro a hE
      refine Rg.take (i := 19) true rfl hE rfl (by kernel_rfl) (runs_plain rfl) (Gives.load1 hE rfl (fun w h => St.vecSees h 4 rfl ((w64 (x1 + q63)).toNat * 1) _ hget92) ty3) rfl (tw_sel (fun _ => hS) (fun _ => (hS.dropAt 4))) ?_; clear hE a; intro a hE
      obtain ⟨_, hx94, hq57⟩ := bindS hq57
      obtain ⟨h95, h96⟩ := ix_some hx94
      refine Rg.takeP (i := 20) hE rfl (by kernel_rfl) (runs_plain rfl) (Gives.idx hE ((w64 (x1 + q63)).toNat) rfl rfl sl22 h95 (by have := hn69; omega) (hS.vecAok 4 rfl (by have := hn69; omega : (w64 (x1 + q63)).toNat < x0.length))) rfl (tw_sel (fun _ => hS) (fun _ => (hS.dropAt 4))) ?_; clear hE a; intro a hE
      refine Rg.one (i := 21) false true rfl (by kernel_rfl) (by kernel_rfl) (by kernel_rfl) ?_
      obtain ⟨x98, hx99, hq57⟩ := bindS hq57
      refine WL.setD hE hS 4 rfl (runs_plain rfl) rfl rfl (vs := [.int .i64 x73]) rfl ty3 rfl rfl rfl h67 hn69 (sx_some hx99).1 hx99 rfl rfl ?_; clear hE hS a w; intro cs100 a w h101 hn102 hE hS
      refine WL.nil ?_
      refine ⟨⟨fun h => absurd h (by decide), fun _ => (hS.dropAt 4)⟩, ?_⟩
      obtain ⟨_, hx104, hq57⟩ := bindS hq57
      obtain ⟨h105, h106⟩ := ix_some hx104
      refine Rg.takeP (i := 22) hE rfl (by kernel_rfl) (runs_plain rfl) (Gives.idx hE ((w64 (x2 + q63)).toNat) rfl rfl sl22 h105 (by have := hn102; omega) (hS.vecAok 4 rfl (by have := hn102; omega : (w64 (x2 + q63)).toNat < x0.length))) rfl (tw_sel (fun h => absurd h (by decide)) (fun _ => (hS.dropAt 4))) ?_; clear hE a; intro a hE
      refine Rg.one (i := 23) false true rfl (by kernel_rfl) (by kernel_rfl) (by kernel_rfl) ?_
      obtain ⟨x108, hx109, hq57⟩ := bindS hq57
      refine WL.setD hE hS 4 rfl (runs_plain rfl) rfl rfl (vs := [.int .i64 x83]) rfl ty3 rfl rfl rfl h101 hn102 (sx_some hx109).1 hx109 rfl rfl ?_; clear hE hS a w; intro cs110 a w h111 hn112 hE hS
      refine WL.nil ?_
      refine ⟨⟨fun h => absurd h (by decide), fun _ => (hS.dropAt 4)⟩, ?_⟩
      refine Rg.done (by kernel_rfl) ?_
      subst hK72
      refine W.region ?_
      refine WL.vS hS hE (runs_plain rfl) (Gives.p hE rfl) rfl ?_; clear hE a; intro a hE
      refine WL.vS hS hE (runs_plain rfl) (Gives.p hE rfl) rfl ?_; clear hE a; intro a hE
      refine WL.vS hS hE (runs_plain rfl) (Gives.p hE rfl) rfl ?_; clear hE a; intro a hE
      refine WL.nil ?_
      subst hK70
      exact ⟨n59, Nat.lt_succ_self _, n59, (w64 (q63 + 1)), x108, cs110, rfl, hq57, h111, hn112, hE.pick _ ⟨rfl, rfl, rfl, rfl, rfl, trivial⟩, hS⟩
    · replace hq57 := iteF hc71 hq57
      subst hK70
      refine W.exit rfl ?_
      exact ⟨q63, q64, cs68, Option.some.inj hq57, h67, hn69, hE.pick _ trivial, hS⟩
  · clear hE hS a w; rintro a w ⟨q63, q64, cs68, rfl, h67, hn69, hE, hS⟩
    dsimp only at hr
    refine finG (fn := Try.f65) (rs := []) (vs := []) hE rfl trivial ?_
    obtain rfl := Option.some.inj hr
    exact ⟨cs68, rfl, h67, hn69, hS⟩
set_option maxHeartbeats 8000000 in
theorem SlicesrotateCmpFuncint_v1_ok {fu : Nat}  {w : World} {s : Sg} {R : List HP} {pb0 : Nat} {pb1 : Nat} {pb2 : Nat} {pb3 : Nat} {x0 : List Int} {a_v0 : Option Addr} {c_v0 n_v0 : Nat} {cs_v0 : List Value} {x1 : Int} {x2 : Int} {x3 : Int} {y1 : Int} {y2 : Int} {y3 : FareCar} {a_v1 : Option Addr} {c_v1 n_v1 : Nat} {cs_v1 : List Value} {a_v2 : Option Addr} {c_v2 n_v2 : Nat} {cs_v2 : List Value} (hS : St w s (pt pb0 (.cells #[.pointer (some ⟨pb3, 0, none⟩)] 23 (0, 0)) :: pt pb1 (.cells #[.int .i64 y1] 3 (0, 0)) :: pt pb2 (.cells #[.int .i64 y2] 3 (0, 0)) :: pt pb3 (.cells #[.int .i64 y3.rows, .int .i64 y3.across, .int .i64 y3.stops, .slice a_v1 n_v1 c_v1, .slice a_v2 n_v2 c_v2] 48 (0, 0)) :: vecC 3 1 a_v0 c_v0 n_v0 cs_v0 :: vecC 39 4 a_v1 c_v1 n_v1 cs_v1 :: vecC 4 1 a_v2 c_v2 n_v2 cs_v2 :: R)) (h_v0 : Ev 1 (RI .i64) s cs_v0 x0) (hn_v0 : x0.length = n_v0) (h_v1 : Ev 4 RFareBooking s cs_v1 y3.bookings) (hn_v1 : y3.bookings.length = n_v1) (h_v2 : Ev 1 RB s cs_v2 y3.cancelled) (hn_v2 : y3.cancelled.length = n_v2) {r : (List Int)} (hr : SlicesrotateCmpFuncint_v1 fu x0 x1 x2 x3 y1 y2 y3 = some r) :
    Calls Try.prog 59 [.slice a_v0 n_v0 c_v0, .int .i64 x1, .int .i64 x2, .int .i64 x3, .func (.func 33) #[] #[.pointer (some ⟨pb0, 0, none⟩), .pointer (some ⟨pb1, 0, none⟩), .pointer (some ⟨pb2, 0, none⟩)]].toArray w (fun e w => ∃ (cs55 : List Value), e = .returned (.tuple #[]) ∧ Ev 1 (RI .i64) s cs55 r ∧ r.length = n_v0 ∧ St w s (pt pb0 (.cells #[.pointer (some ⟨pb3, 0, none⟩)] 23 (0, 0)) :: pt pb1 (.cells #[.int .i64 y1] 3 (0, 0)) :: pt pb2 (.cells #[.int .i64 y2] 3 (0, 0)) :: pt pb3 (.cells #[.int .i64 y3.rows, .int .i64 y3.across, .int .i64 y3.stops, .slice a_v1 n_v1 c_v1, .slice a_v2 n_v2 c_v2] 48 (0, 0)) :: vecC 3 1 a_v0 c_v0 n_v0 cs55 :: vecC 39 4 a_v1 c_v1 n_v1 cs_v1 :: vecC 4 1 a_v2 c_v2 n_v2 cs_v2 :: R)) := by
  refine enter Try.func59 rfl rfl rfl fun a hE => ?_
  rw [SlicesrotateCmpFuncint_v1] at hr
  subst hn_v0
  subst hn_v1
  subst hn_v2
  refine W.seq ?_
  refine W.region ?_
  refine WL.vS hS hE (runs_plain rfl) (Gives.p hE rfl) rfl ?_; clear hE a; intro a hE
  refine WL.vS hS hE (runs_plain rfl) (Gives.p hE rfl) rfl ?_; clear hE a; intro a hE
  refine WL.vS hS hE (runs_plain rfl) (Gives.p hE rfl) rfl ?_; clear hE a; intro a hE
  refine WL.vS hS hE (runs_plain rfl) (Gives.p hE rfl) rfl ?_; clear hE a; intro a hE
  refine WL.nil ?_
  refine W.seq ?_
  refine W.region ?_
  refine WL.vS hS hE (runs_plain rfl) (Gives.p hE rfl) rfl ?_; clear hE a; intro a hE
  refine WL.vS hS hE (runs_plain rfl) (Gives.p hE rfl) rfl ?_; clear hE a; intro a hE
  refine WL.vS hS hE (runs_plain rfl) (Gives.p hE rfl) rfl ?_; clear hE a; intro a hE
  refine WL.vS hS hE (runs_plain rfl) (Gives.p hE rfl) rfl ?_; clear hE a; intro a hE
  refine WL.nil ?_
  refine W.seq ?_
  obtain ⟨q58, hq57, hr⟩ := bindS hr
  refine W.cut (fun a w => ∃ (q63 : Int), ∃ (q64 : Int), ∃ (q65 : List Int), ∃ (cs69 : List Value), (q63, q64, q65) = q58 ∧ Ev 1 (RI .i64) s cs69 q65 ∧ q65.length = x0.length ∧ Rep a 58 [(0, .slice a_v0 x0.length c_v0), (2, .int .i64 x2), (4, .func (.func 33) #[] #[.pointer (some ⟨pb0, 0, none⟩), .pointer (some ⟨pb1, 0, none⟩), .pointer (some ⟨pb2, 0, none⟩)]), (10, .int .i64 q63)] ∧ St w s (pt pb0 (.cells #[.pointer (some ⟨pb3, 0, none⟩)] 23 (0, 0)) :: pt pb1 (.cells #[.int .i64 y1] 3 (0, 0)) :: pt pb2 (.cells #[.int .i64 y2] 3 (0, 0)) :: pt pb3 (.cells #[.int .i64 y3.rows, .int .i64 y3.across, .int .i64 y3.stops, .slice a_v1 y3.bookings.length c_v1, .slice a_v2 y3.cancelled.length c_v2] 48 (0, 0)) :: vecC 3 1 a_v0 c_v0 x0.length cs69 :: vecC 39 4 a_v1 c_v1 y3.bookings.length cs_v1 :: vecC 4 1 a_v2 c_v2 y3.cancelled.length cs_v2 :: R)) ?_ ?_
  · refine W.block ?_
    refine W.loop (fun m a w => ∃ (n59 : Nat), ∃ (q63 : Int), ∃ (q64 : Int), ∃ (q65 : List Int), ∃ (cs69 : List Value), n59 = m ∧ SlicesrotateCmpFuncint_v1.loop1 x2 y1 y2 y3 fu n59 q63 q64 q65 = some q58 ∧ Ev 1 (RI .i64) s cs69 q65 ∧ q65.length = x0.length ∧ Rep a 58 [(0, .slice a_v0 x0.length c_v0), (2, .int .i64 x2), (4, .func (.func 33) #[] #[.pointer (some ⟨pb0, 0, none⟩), .pointer (some ⟨pb1, 0, none⟩), .pointer (some ⟨pb2, 0, none⟩)]), (10, .int .i64 q63), (11, .int .i64 q64)] ∧ St w s (pt pb0 (.cells #[.pointer (some ⟨pb3, 0, none⟩)] 23 (0, 0)) :: pt pb1 (.cells #[.int .i64 y1] 3 (0, 0)) :: pt pb2 (.cells #[.int .i64 y2] 3 (0, 0)) :: pt pb3 (.cells #[.int .i64 y3.rows, .int .i64 y3.across, .int .i64 y3.stops, .slice a_v1 y3.bookings.length c_v1, .slice a_v2 y3.cancelled.length c_v2] 48 (0, 0)) :: vecC 3 1 a_v0 c_v0 x0.length cs69 :: vecC 39 4 a_v1 c_v1 y3.bookings.length cs_v1 :: vecC 4 1 a_v2 c_v2 y3.cancelled.length cs_v2 :: R)) (m := fu) ⟨fu, (w64 (x2 - x1)), (w64 (x3 - x2)), x0, cs_v0, rfl, hq57, h_v0, (rfl), hE.pick _ ⟨rfl, rfl, rfl, rfl, rfl, trivial⟩, hS⟩ ?_
    clear hE hS a w hq57; rintro m60 a w ⟨n59, q63, q64, q65, cs69, rfl, hq57, h68, hn70, hE, hS⟩
    refine W.gen fun K71 hK71 => ?_
    rcases n59 with _ | n59
    · rw [SlicesrotateCmpFuncint_v1.loop1] at hq57; exact absurd hq57 (by simp)
    rw [SlicesrotateCmpFuncint_v1.loop1] at hq57
    refine W.seq ?_
    refine W.seq ?_
    refine W.region ?_
    refine WL.vS hS hE (runs_plain rfl) (Gives.p hE rfl) rfl ?_; clear hE a; intro a hE
    refine WL.vS hS hE (runs_plain rfl) (Gives.p hE rfl) rfl ?_; clear hE a; intro a hE
    refine WL.vS hS hE (runs_plain rfl) (Gives.p hE rfl) rfl ?_; clear hE a; intro a hE
    refine WL.nil ?_
    refine W.cond hE rfl (fun hc72 => ?_) (fun hc72 => ?_)
    · replace hq57 := iteT hc72 hq57
      refine W.skip ?_
      refine W.block ?_
      refine W.seq ?_
      refine W.region ?_
      refine WL.vS hS hE (runs_plain rfl) (Gives.p hE rfl) rfl ?_; clear hE a; intro a hE
      refine WL.vS hS hE (runs_plain rfl) (Gives.p hE rfl) rfl ?_; clear hE a; intro a hE
      refine WL.vS hS hE (runs_plain rfl) (Gives.p hE rfl) rfl ?_; clear hE a; intro a hE
      refine WL.nil ?_
      obtain ⟨q74, hq73, hq57⟩ := bindS hq57
      refine W.cut (fun a w => ∃ (q77 : Int), ∃ (q78 : Int), ∃ (q79 : List Int), ∃ (cs83 : List Value), (q77, q78, q79) = q74 ∧ Ev 1 (RI .i64) s cs83 q79 ∧ q79.length = x0.length ∧ Rep a 58 [(0, .slice a_v0 x0.length c_v0), (2, .int .i64 x2), (4, .func (.func 33) #[] #[.pointer (some ⟨pb0, 0, none⟩), .pointer (some ⟨pb1, 0, none⟩), .pointer (some ⟨pb2, 0, none⟩)]), (10, .int .i64 q77), (11, .int .i64 q78)] ∧ St w s (pt pb0 (.cells #[.pointer (some ⟨pb3, 0, none⟩)] 23 (0, 0)) :: pt pb1 (.cells #[.int .i64 y1] 3 (0, 0)) :: pt pb2 (.cells #[.int .i64 y2] 3 (0, 0)) :: pt pb3 (.cells #[.int .i64 y3.rows, .int .i64 y3.across, .int .i64 y3.stops, .slice a_v1 y3.bookings.length c_v1, .slice a_v2 y3.cancelled.length c_v2] 48 (0, 0)) :: vecC 3 1 a_v0 c_v0 x0.length cs83 :: vecC 39 4 a_v1 c_v1 y3.bookings.length cs_v1 :: vecC 4 1 a_v2 c_v2 y3.cancelled.length cs_v2 :: R)) ?_ ?_
      · refine W.gen fun K85 hK85 => ?_
        refine W.cond hE rfl (fun hc86 => ?_) (fun hc86 => ?_)
        · replace hq73 := iteT hc86 hq73
          refine W.seq ?_
          refine W.region ?_
          refine WL.vS hS hE (runs_plain rfl) (Gives.p hE rfl) rfl ?_; clear hE a; intro a hE
          refine WL.vS hS hE (runs_plain rfl) (Gives.p hE rfl) rfl ?_; clear hE a; intro a hE
          refine WL.vS hS hE (runs_plain rfl) (Gives.p hE rfl) rfl ?_; clear hE a; intro a hE
          refine WL.vS hS hE (runs_plain rfl) (Gives.p hE rfl) rfl ?_; clear hE a; intro a hE
          refine WL.vS hS hE (runs_plain rfl) (Gives.p hE rfl) rfl ?_; clear hE a; intro a hE
          refine WL.vS hS hE (runs_plain rfl) (Gives.p hE rfl) rfl ?_; clear hE a; intro a hE
          refine WL.vS hS hE (runs_plain rfl) (Gives.p hE rfl) rfl ?_; clear hE a; intro a hE
          obtain ⟨q87, hq88, hq73⟩ := bindS hq73
          have hc_ := SlicesswapRangeCmpFuncint_v1_ok (y3 := y3) hS h68 hn70 h_v1 (rfl) h_v2 (rfl) hq88
          refine WL.fnq hE (hc_) (runs_plain rfl) bd65 rfl rfl rfl ?_
          clear hE hS hc_; rintro e w ⟨cs89, rfl, h90, hn91, hS⟩; refine ⟨_, rfl, ?_⟩; clear a; intro a hE
          refine WL.nil ?_
          refine W.region ?_
          refine WL.vS hS hE (runs_plain rfl) (Gives.p hE rfl) rfl ?_; clear hE a; intro a hE
          refine WL.vS hS hE (runs_plain rfl) (Gives.p hE rfl) rfl ?_; clear hE a; intro a hE
          refine WL.vS hS hE (runs_plain rfl) (Gives.p hE rfl) rfl ?_; clear hE a; intro a hE
          refine WL.vS hS hE (runs_plain rfl) (Gives.p hE rfl) rfl ?_; clear hE a; intro a hE
          refine WL.nil ?_
          subst hK85
          exact ⟨w64 (q63 - q64), q64, q87, cs89, Option.some.inj hq73, h90, hn91, hE.pick _ ⟨rfl, rfl, rfl, rfl, rfl, trivial⟩, hS⟩
        · replace hq73 := iteF hc86 hq73
          refine W.seq ?_
          refine W.region ?_
          refine WL.vS hS hE (runs_plain rfl) (Gives.p hE rfl) rfl ?_; clear hE a; intro a hE
          refine WL.vS hS hE (runs_plain rfl) (Gives.p hE rfl) rfl ?_; clear hE a; intro a hE
          refine WL.vS hS hE (runs_plain rfl) (Gives.p hE rfl) rfl ?_; clear hE a; intro a hE
          refine WL.vS hS hE (runs_plain rfl) (Gives.p hE rfl) rfl ?_; clear hE a; intro a hE
          refine WL.vS hS hE (runs_plain rfl) (Gives.p hE rfl) rfl ?_; clear hE a; intro a hE
          refine WL.vS hS hE (runs_plain rfl) (Gives.p hE rfl) rfl ?_; clear hE a; intro a hE
          refine WL.vS hS hE (runs_plain rfl) (Gives.p hE rfl) rfl ?_; clear hE a; intro a hE
          refine WL.vS hS hE (runs_plain rfl) (Gives.p hE rfl) rfl ?_; clear hE a; intro a hE
          refine WL.vS hS hE (runs_plain rfl) (Gives.p hE rfl) rfl ?_; clear hE a; intro a hE
          refine WL.vS hS hE (runs_plain rfl) (Gives.p hE rfl) rfl ?_; clear hE a; intro a hE
          refine WL.vS hS hE (runs_plain rfl) (Gives.p hE rfl) rfl ?_; clear hE a; intro a hE
          obtain ⟨q92, hq93, hq73⟩ := bindS hq73
          have hc_ := SlicesswapRangeCmpFuncint_v1_ok (y3 := y3) hS h68 hn70 h_v1 (rfl) h_v2 (rfl) hq93
          refine WL.fnq hE (hc_) (runs_plain rfl) bd65 rfl rfl rfl ?_
          clear hE hS hc_; rintro e w ⟨cs94, rfl, h95, hn96, hS⟩; refine ⟨_, rfl, ?_⟩; clear a; intro a hE
          refine WL.nil ?_
          refine W.region ?_
          refine WL.vS hS hE (runs_plain rfl) (Gives.p hE rfl) rfl ?_; clear hE a; intro a hE
          refine WL.vS hS hE (runs_plain rfl) (Gives.p hE rfl) rfl ?_; clear hE a; intro a hE
          refine WL.vS hS hE (runs_plain rfl) (Gives.p hE rfl) rfl ?_; clear hE a; intro a hE
          refine WL.vS hS hE (runs_plain rfl) (Gives.p hE rfl) rfl ?_; clear hE a; intro a hE
          refine WL.nil ?_
          subst hK85
          exact ⟨q63, w64 (q64 - q63), q92, cs94, Option.some.inj hq73, h95, hn96, hE.pick _ ⟨rfl, rfl, rfl, rfl, rfl, trivial⟩, hS⟩
      · clear hE hS a w; rintro a w ⟨q77, q78, q79, cs83, rfl, h82, hn84, hE, hS⟩
        dsimp only at hq57
        subst hK71
        exact ⟨n59, Nat.lt_succ_self _, n59, q77, q78, q79, cs83, rfl, hq57, h82, hn84, hE.pick _ ⟨rfl, rfl, rfl, rfl, rfl, trivial⟩, hS⟩
    · replace hq57 := iteF hc72 hq57
      subst hK71
      refine W.exit rfl ?_
      exact ⟨q63, q64, q65, cs69, Option.some.inj hq57, h68, hn70, hE.pick _ ⟨rfl, rfl, rfl, rfl, trivial⟩, hS⟩
  · clear hE hS a w; rintro a w ⟨q63, q64, q65, cs69, rfl, h68, hn70, hE, hS⟩
    dsimp only at hr
    refine W.region ?_
    refine WL.vS hS hE (runs_plain rfl) (Gives.p hE rfl) rfl ?_; clear hE a; intro a hE
    refine WL.vS hS hE (runs_plain rfl) (Gives.p hE rfl) rfl ?_; clear hE a; intro a hE
    refine WL.vS hS hE (runs_plain rfl) (Gives.p hE rfl) rfl ?_; clear hE a; intro a hE
    refine WL.vS hS hE (runs_plain rfl) (Gives.p hE rfl) rfl ?_; clear hE a; intro a hE
    refine WL.vS hS hE (runs_plain rfl) (Gives.p hE rfl) rfl ?_; clear hE a; intro a hE
    refine WL.vS hS hE (runs_plain rfl) (Gives.p hE rfl) rfl ?_; clear hE a; intro a hE
    refine WL.vS hS hE (runs_plain rfl) (Gives.p hE rfl) rfl ?_; clear hE a; intro a hE
    obtain ⟨q97, hq98, hr⟩ := bindS hr
    have hc_ := SlicesswapRangeCmpFuncint_v1_ok (y3 := y3) hS h68 hn70 h_v1 (rfl) h_v2 (rfl) hq98
    refine WL.fnq hE (hc_) (runs_plain rfl) bd65 rfl rfl rfl ?_
    clear hE hS hc_; rintro e w ⟨cs99, rfl, h100, hn101, hS⟩; refine ⟨_, rfl, ?_⟩; clear a; intro a hE
    refine WL.nil ?_
    refine finG (fn := Try.f59) (rs := []) (vs := []) hE rfl trivial ?_
    obtain rfl := Option.some.inj hr
    exact ⟨cs99, rfl, h100, hn101, hS⟩
set_option maxHeartbeats 8000000 in
theorem SlicessymMergeCmpFuncint_v1_ok : ∀ {fu : Nat} {w : World} {s : Sg} {R : List HP} {pb0 : Nat} {pb1 : Nat} {pb2 : Nat} {pb3 : Nat} {x0 : List Int} {a_v0 : Option Addr} {c_v0 n_v0 : Nat} {cs_v0 : List Value} {x1 : Int} {x2 : Int} {x3 : Int} {y1 : Int} {y2 : Int} {y3 : FareCar} {a_v1 : Option Addr} {c_v1 n_v1 : Nat} {cs_v1 : List Value} {a_v2 : Option Addr} {c_v2 n_v2 : Nat} {cs_v2 : List Value} (_hS : St w s (pt pb0 (.cells #[.pointer (some ⟨pb3, 0, none⟩)] 23 (0, 0)) :: pt pb1 (.cells #[.int .i64 y1] 3 (0, 0)) :: pt pb2 (.cells #[.int .i64 y2] 3 (0, 0)) :: pt pb3 (.cells #[.int .i64 y3.rows, .int .i64 y3.across, .int .i64 y3.stops, .slice a_v1 n_v1 c_v1, .slice a_v2 n_v2 c_v2] 48 (0, 0)) :: vecC 3 1 a_v0 c_v0 n_v0 cs_v0 :: vecC 39 4 a_v1 c_v1 n_v1 cs_v1 :: vecC 4 1 a_v2 c_v2 n_v2 cs_v2 :: R)) (_h_v0 : Ev 1 (RI .i64) s cs_v0 x0) (_hn_v0 : x0.length = n_v0) (_h_v1 : Ev 4 RFareBooking s cs_v1 y3.bookings) (_hn_v1 : y3.bookings.length = n_v1) (_h_v2 : Ev 1 RB s cs_v2 y3.cancelled) (_hn_v2 : y3.cancelled.length = n_v2) {r : (List Int)} (_hr : SlicessymMergeCmpFuncint_v1 fu x0 x1 x2 x3 y1 y2 y3 = some r),
    Calls Try.prog 47 [.slice a_v0 n_v0 c_v0, .int .i64 x1, .int .i64 x2, .int .i64 x3, .func (.func 33) #[] #[.pointer (some ⟨pb0, 0, none⟩), .pointer (some ⟨pb1, 0, none⟩), .pointer (some ⟨pb2, 0, none⟩)]].toArray w (fun e w => ∃ (cs55 : List Value), e = .returned (.tuple #[]) ∧ Ev 1 (RI .i64) s cs55 r ∧ r.length = n_v0 ∧ St w s (pt pb0 (.cells #[.pointer (some ⟨pb3, 0, none⟩)] 23 (0, 0)) :: pt pb1 (.cells #[.int .i64 y1] 3 (0, 0)) :: pt pb2 (.cells #[.int .i64 y2] 3 (0, 0)) :: pt pb3 (.cells #[.int .i64 y3.rows, .int .i64 y3.across, .int .i64 y3.stops, .slice a_v1 n_v1 c_v1, .slice a_v2 n_v2 c_v2] 48 (0, 0)) :: vecC 3 1 a_v0 c_v0 n_v0 cs55 :: vecC 39 4 a_v1 c_v1 n_v1 cs_v1 :: vecC 4 1 a_v2 c_v2 n_v2 cs_v2 :: R)) := by
  intro fu
  induction fu with
  | zero => intro w s R pb0 pb1 pb2 pb3 x0 a_v0 c_v0 n_v0 cs_v0 x1 x2 x3 y1 y2 y3 a_v1 c_v1 n_v1 cs_v1 a_v2 c_v2 n_v2 cs_v2 hS h_v0 hn_v0 h_v1 hn_v1 h_v2 hn_v2 r hr; rw [SlicessymMergeCmpFuncint_v1] at hr; exact absurd hr (by simp)
  | succ fu ih_SlicessymMergeCmpFuncint_v1 =>
    intro w s R pb0 pb1 pb2 pb3 x0 a_v0 c_v0 n_v0 cs_v0 x1 x2 x3 y1 y2 y3 a_v1 c_v1 n_v1 cs_v1 a_v2 c_v2 n_v2 cs_v2 hS h_v0 hn_v0 h_v1 hn_v1 h_v2 hn_v2 r hr
    rw [SlicessymMergeCmpFuncint_v1] at hr
    generalize SlicessymMergeCmpFuncint_v1 fu = self_SlicessymMergeCmpFuncint_v1 at hr ih_SlicessymMergeCmpFuncint_v1
    refine enter Try.func47 rfl rfl rfl fun a hE => ?_
    subst hn_v0
    subst hn_v1
    subst hn_v2
    refine W.seq ?_
    refine W.seq ?_
    refine W.region ?_
    refine WL.vS hS hE (runs_plain rfl) (Gives.p hE rfl) rfl ?_; clear hE a; intro a hE
    refine WL.vS hS hE (runs_plain rfl) (Gives.p hE rfl) rfl ?_; clear hE a; intro a hE
    refine WL.vS hS hE (runs_plain rfl) (Gives.p hE rfl) rfl ?_; clear hE a; intro a hE
    refine WL.vS hS hE (runs_plain rfl) (Gives.p hE rfl) rfl ?_; clear hE a; intro a hE
    refine WL.nil ?_
    refine W.cond hE rfl (fun hc57 => ?_) (fun hc57 => ?_)
    · replace hr := iteT hc57 hr
      refine W.seq ?_
      refine W.region ?_
      refine WL.vS hS hE (runs_plain rfl) (Gives.p hE rfl) rfl ?_; clear hE a; intro a hE
      refine WL.vS hS hE (runs_plain rfl) (Gives.p hE rfl) rfl ?_; clear hE a; intro a hE
      refine WL.nil ?_
      refine W.seq ?_
      refine W.region ?_
      refine WL.vS hS hE (runs_plain rfl) (Gives.p hE rfl) rfl ?_; clear hE a; intro a hE
      refine WL.vS hS hE (runs_plain rfl) (Gives.p hE rfl) rfl ?_; clear hE a; intro a hE
      refine WL.nil ?_
      refine W.seq ?_
      obtain ⟨q59, hq58, hr⟩ := bindS hr
      refine W.cut (fun a w => ∃ (q64 : Int), ∃ (q65 : Int), (q64, q65) = q59 ∧ Rep a 220 [(0, .slice a_v0 x0.length c_v0), (1, .int .i64 x1), (10, .int .i64 q64)] ∧ St w s (pt pb0 (.cells #[.pointer (some ⟨pb3, 0, none⟩)] 23 (0, 0)) :: pt pb1 (.cells #[.int .i64 y1] 3 (0, 0)) :: pt pb2 (.cells #[.int .i64 y2] 3 (0, 0)) :: pt pb3 (.cells #[.int .i64 y3.rows, .int .i64 y3.across, .int .i64 y3.stops, .slice a_v1 y3.bookings.length c_v1, .slice a_v2 y3.cancelled.length c_v2] 48 (0, 0)) :: vecC 3 1 a_v0 c_v0 x0.length cs_v0 :: vecC 39 4 a_v1 c_v1 y3.bookings.length cs_v1 :: vecC 4 1 a_v2 c_v2 y3.cancelled.length cs_v2 :: R)) ?_ ?_
      · refine W.block ?_
        refine W.loop (fun m a w => ∃ (n60 : Nat), ∃ (q64 : Int), ∃ (q65 : Int), n60 = m ∧ SlicessymMergeCmpFuncint_v1.loop1 x0 x1 y1 y2 y3 n60 q64 q65 = some q59 ∧ Rep a 220 [(0, .slice a_v0 x0.length c_v0), (1, .int .i64 x1), (4, .func (.func 33) #[] #[.pointer (some ⟨pb0, 0, none⟩), .pointer (some ⟨pb1, 0, none⟩), .pointer (some ⟨pb2, 0, none⟩)]), (10, .int .i64 q64), (11, .int .i64 q65)] ∧ St w s (pt pb0 (.cells #[.pointer (some ⟨pb3, 0, none⟩)] 23 (0, 0)) :: pt pb1 (.cells #[.int .i64 y1] 3 (0, 0)) :: pt pb2 (.cells #[.int .i64 y2] 3 (0, 0)) :: pt pb3 (.cells #[.int .i64 y3.rows, .int .i64 y3.across, .int .i64 y3.stops, .slice a_v1 y3.bookings.length c_v1, .slice a_v2 y3.cancelled.length c_v2] 48 (0, 0)) :: vecC 3 1 a_v0 c_v0 x0.length cs_v0 :: vecC 39 4 a_v1 c_v1 y3.bookings.length cs_v1 :: vecC 4 1 a_v2 c_v2 y3.cancelled.length cs_v2 :: R)) (m := fu) ⟨fu, x2, x3, rfl, hq58, hE.pick _ ⟨rfl, rfl, rfl, rfl, rfl, trivial⟩, hS⟩ ?_
        clear hE hS a w hq58; rintro m61 a w ⟨n60, q64, q65, rfl, hq58, hE, hS⟩
        refine W.gen fun K66 hK66 => ?_
        rcases n60 with _ | n60
        · rw [SlicessymMergeCmpFuncint_v1.loop1] at hq58; exact absurd hq58 (by simp)
        rw [SlicessymMergeCmpFuncint_v1.loop1] at hq58
        refine W.seq ?_
        refine W.seq ?_
        refine W.region ?_
        refine WL.vS hS hE (runs_plain rfl) (Gives.p hE rfl) rfl ?_; clear hE a; intro a hE
        refine WL.vS hS hE (runs_plain rfl) (Gives.p hE rfl) rfl ?_; clear hE a; intro a hE
        refine WL.vS hS hE (runs_plain rfl) (Gives.p hE rfl) rfl ?_; clear hE a; intro a hE
        refine WL.nil ?_
        refine W.cond hE rfl (fun hc67 => ?_) (fun hc67 => ?_)
        · replace hq58 := iteT hc67 hq58
          refine W.skip ?_
          refine W.block ?_
          refine W.seq ?_
          refine W.region ?_
          refine WL.vS hS hE (runs_plain rfl) (Gives.p hE rfl) rfl ?_; clear hE a; intro a hE
          refine WL.vS hS hE (runs_plain rfl) (Gives.p hE rfl) rfl ?_; clear hE a; intro a hE
          refine WL.vS hS hE (runs_plain rfl) (Gives.p hE rfl) rfl ?_; clear hE a; intro a hE
          refine WL.vS hS hE (runs_plain rfl) (Gives.conv hE rfl hu3 ui71) rfl ?_; clear hE a; intro a hE
          refine WL.vS hS hE (runs_plain rfl) (Gives.shr hE rfl rfl (by decide)) rfl ?_; clear hE a; intro a hE
          refine WL.vS hS hE (runs_plain rfl) (Gives.conv hE rfl hu71 ui3) rfl ?_; clear hE a; intro a hE
          refine WL.vS hS hE (runs_plain rfl) (Gives.p hE rfl) rfl ?_; clear hE a; intro a hE
          refine WL.nil ?_
          refine W.seq ?_
          refine W.regionQ (C := fun w => St w s (pt pb0 (.cells #[.pointer (some ⟨pb3, 0, none⟩)] 23 (0, 0)) :: pt pb1 (.cells #[.int .i64 y1] 3 (0, 0)) :: pt pb2 (.cells #[.int .i64 y2] 3 (0, 0)) :: pt pb3 (.cells #[.int .i64 y3.rows, .int .i64 y3.across, .int .i64 y3.stops, .slice a_v1 y3.bookings.length c_v1, .slice a_v2 y3.cancelled.length c_v2] 48 (0, 0)) :: vecC 3 1 a_v0 c_v0 x0.length cs_v0 :: vecC 39 4 a_v1 c_v1 y3.bookings.length cs_v1 :: vecC 4 1 a_v2 c_v2 y3.cancelled.length cs_v2 :: R)) mixed (by kernel_rfl) hS.drew ?_
          refine QL.v hE (runs_plain rfl) (Gives.p hE rfl) rfl ?_; clear hE a; intro a hE
          refine QL.v hE (runs_plain rfl) (Gives.p hE rfl) rfl ?_; clear hE a; intro a hE
          refine QL.v hE (runs_plain rfl) (Gives.p hE rfl) rfl ?_; clear hE a; intro a hE
          obtain ⟨x68, hx69, hq58⟩ := bindS hq58
          obtain ⟨hi70, hlt71, hy72⟩ := gx_some hx69
          obtain ⟨vs73, hl74, hR75, hd76, hget77⟩ := h_v0.at hy72
          subst hR75
          refine QL.v hE (runs_plain rfl) (Gives.idx hE ((w64 (Int.fdiv (IntKind.wrap .u64 (w64 (q64 + q65))) (2 ^ (min (Int.toNat 1) (IntKind.bits .u64))))).toNat) rfl rfl sl22 hi70 (by omega) (hS.vecAok 4 rfl (by omega : (w64 (Int.fdiv (IntKind.wrap .u64 (w64 (q64 + q65))) (2 ^ (min (Int.toNat 1) (IntKind.bits .u64))))).toNat < x0.length))) rfl ?_; clear hE a; intro a hE
          refine QL.v hE (runs_plain rfl) (Gives.load1 hE rfl (fun w h => St.vecSees h 4 rfl ((w64 (Int.fdiv (IntKind.wrap .u64 (w64 (q64 + q65))) (2 ^ (min (Int.toNat 1) (IntKind.bits .u64))))).toNat * 1) _ hget77) ty3) rfl ?_; clear hE a; intro a hE
          refine QL.v hE (runs_plain rfl) (Gives.p hE rfl) rfl ?_; clear hE a; intro a hE
          refine QL.v hE (runs_plain rfl) (Gives.p hE rfl) rfl ?_; clear hE a; intro a hE
          obtain ⟨x78, hx79, hq58⟩ := bindS hq58
          obtain ⟨hi80, hlt81, hy82⟩ := gx_some hx79
          obtain ⟨vs83, hl84, hR85, hd86, hget87⟩ := h_v0.at hy82
          subst hR85
          refine QL.v hE (runs_plain rfl) (Gives.idx hE ((x1).toNat) rfl rfl sl22 hi80 (by omega) (hS.vecAok 4 rfl (by omega : (x1).toNat < x0.length))) rfl ?_; clear hE a; intro a hE
          refine QL.v hE (runs_plain rfl) (Gives.load1 hE rfl (fun w h => St.vecSees h 4 rfl ((x1).toNat * 1) _ hget87) ty3) rfl ?_; clear hE a; intro a hE
          obtain ⟨q88, hq89, hq58⟩ := bindS hq58
          refine QL.fnw hE (fun w hS => (FareCarchoose_1_v1_ok (y3 := y3) (St.front (St.front (St.front (St.front (St.front (St.front hS 6 rfl) 6 rfl) 5 rfl) 5 rfl) 5 rfl) 5 rfl) h_v1 (rfl) h_v2 (rfl) hq89).mono fun _ _ ⟨he, hq⟩ => ⟨he, (St.unfront 6 rfl (St.unfront 6 rfl (St.unfront 5 rfl (St.unfront 5 rfl (St.unfront 5 rfl (St.unfront 5 rfl hq))))))⟩) rfl (runs_plain rfl) bd33 rfl rfl rfl ?_; clear hE a; intro a hE
          refine QL.v hE (runs_plain rfl) (Gives.p hE rfl) rfl ?_; clear hE a; intro a hE
          refine QL.nil ?_; clear hS w; intro w hS
          obtain ⟨q91, hq90, hq58⟩ := bndS hq58
          refine W.cut (fun a w => ∃ (q94 : Int), ∃ (q95 : Int), (q94, q95) = q91 ∧ Rep a 220 [(0, .slice a_v0 x0.length c_v0), (1, .int .i64 x1), (4, .func (.func 33) #[] #[.pointer (some ⟨pb0, 0, none⟩), .pointer (some ⟨pb1, 0, none⟩), .pointer (some ⟨pb2, 0, none⟩)]), (10, .int .i64 q94), (11, .int .i64 q95)] ∧ St w s (pt pb0 (.cells #[.pointer (some ⟨pb3, 0, none⟩)] 23 (0, 0)) :: pt pb1 (.cells #[.int .i64 y1] 3 (0, 0)) :: pt pb2 (.cells #[.int .i64 y2] 3 (0, 0)) :: pt pb3 (.cells #[.int .i64 y3.rows, .int .i64 y3.across, .int .i64 y3.stops, .slice a_v1 y3.bookings.length c_v1, .slice a_v2 y3.cancelled.length c_v2] 48 (0, 0)) :: vecC 3 1 a_v0 c_v0 x0.length cs_v0 :: vecC 39 4 a_v1 c_v1 y3.bookings.length cs_v1 :: vecC 4 1 a_v2 c_v2 y3.cancelled.length cs_v2 :: R)) ?_ ?_
          · refine W.gen fun K96 hK96 => ?_
            refine W.cond hE rfl (fun hc97 => ?_) (fun hc97 => ?_)
            · replace hq90 := iteT hc97 hq90
              refine W.region ?_
              refine WL.vS hS hE (runs_plain rfl) (Gives.p hE rfl) rfl ?_; clear hE a; intro a hE
              refine WL.vS hS hE (runs_plain rfl) (Gives.p hE rfl) rfl ?_; clear hE a; intro a hE
              refine WL.vS hS hE (runs_plain rfl) (Gives.p hE rfl) rfl ?_; clear hE a; intro a hE
              refine WL.nil ?_
              subst hK96
              exact ⟨w64 ((w64 (Int.fdiv (IntKind.wrap .u64 (w64 (q64 + q65))) (2 ^ (min (Int.toNat 1) (IntKind.bits .u64))))) + 1), q65, hq90, hE.pick _ ⟨rfl, rfl, rfl, rfl, rfl, trivial⟩, hS⟩
            · replace hq90 := iteF hc97 hq90
              refine W.region ?_
              refine WL.vS hS hE (runs_plain rfl) (Gives.p hE rfl) rfl ?_; clear hE a; intro a hE
              refine WL.vS hS hE (runs_plain rfl) (Gives.p hE rfl) rfl ?_; clear hE a; intro a hE
              refine WL.nil ?_
              subst hK96
              exact ⟨q64, w64 (Int.fdiv (IntKind.wrap .u64 (w64 (q64 + q65))) (2 ^ (min (Int.toNat 1) (IntKind.bits .u64)))), hq90, hE.pick _ ⟨rfl, rfl, rfl, rfl, rfl, trivial⟩, hS⟩
          · clear hE hS a w; rintro a w ⟨q94, q95, rfl, hE, hS⟩
            dsimp only at hq58
            subst hK66
            exact ⟨n60, Nat.lt_succ_self _, n60, q94, q95, rfl, hq58, hE.pick _ ⟨rfl, rfl, rfl, rfl, rfl, trivial⟩, hS⟩
        · replace hq58 := iteF hc67 hq58
          subst hK66
          refine W.exit rfl ?_
          exact ⟨q64, q65, Option.some.inj hq58, hE.pick _ ⟨rfl, rfl, rfl, trivial⟩, hS⟩
      · clear hE hS a w; rintro a w ⟨q64, q65, rfl, hE, hS⟩
        dsimp only at hr
        refine W.seq ?_
        refine W.seq ?_
        refine W.region ?_
        refine WL.vS hS hE (runs_plain rfl) (Gives.p hE rfl) rfl ?_; clear hE a; intro a hE
        refine WL.vS hS hE (runs_plain rfl) (Gives.p hE rfl) rfl ?_; clear hE a; intro a hE
        refine WL.nil ?_
        obtain ⟨q99, hq98, hr⟩ := bindS hr
        refine W.cut (fun a w => ∃ (q104 : Int), ∃ (q105 : List Int), ∃ (cs109 : List Value), (q104, q105) = q99 ∧ Ev 1 (RI .i64) s cs109 q105 ∧ q105.length = x0.length ∧ Rep a 220 [] ∧ St w s (pt pb0 (.cells #[.pointer (some ⟨pb3, 0, none⟩)] 23 (0, 0)) :: pt pb1 (.cells #[.int .i64 y1] 3 (0, 0)) :: pt pb2 (.cells #[.int .i64 y2] 3 (0, 0)) :: pt pb3 (.cells #[.int .i64 y3.rows, .int .i64 y3.across, .int .i64 y3.stops, .slice a_v1 y3.bookings.length c_v1, .slice a_v2 y3.cancelled.length c_v2] 48 (0, 0)) :: vecC 3 1 a_v0 c_v0 x0.length cs109 :: vecC 39 4 a_v1 c_v1 y3.bookings.length cs_v1 :: vecC 4 1 a_v2 c_v2 y3.cancelled.length cs_v2 :: R)) ?_ ?_
        · refine W.block ?_
          refine W.loop (fun m a w => ∃ (n100 : Nat), ∃ (q104 : Int), ∃ (q105 : List Int), ∃ (cs109 : List Value), n100 = m ∧ SlicessymMergeCmpFuncint_v1.loop2 q64 n100 q104 q105 = some q99 ∧ Ev 1 (RI .i64) s cs109 q105 ∧ q105.length = x0.length ∧ Rep a 220 [(0, .slice a_v0 x0.length c_v0), (10, .int .i64 q64), (13, .int .i64 q104)] ∧ St w s (pt pb0 (.cells #[.pointer (some ⟨pb3, 0, none⟩)] 23 (0, 0)) :: pt pb1 (.cells #[.int .i64 y1] 3 (0, 0)) :: pt pb2 (.cells #[.int .i64 y2] 3 (0, 0)) :: pt pb3 (.cells #[.int .i64 y3.rows, .int .i64 y3.across, .int .i64 y3.stops, .slice a_v1 y3.bookings.length c_v1, .slice a_v2 y3.cancelled.length c_v2] 48 (0, 0)) :: vecC 3 1 a_v0 c_v0 x0.length cs109 :: vecC 39 4 a_v1 c_v1 y3.bookings.length cs_v1 :: vecC 4 1 a_v2 c_v2 y3.cancelled.length cs_v2 :: R)) (m := fu) ⟨fu, x1, x0, cs_v0, rfl, hq98, h_v0, (rfl), hE.pick _ ⟨rfl, rfl, rfl, trivial⟩, hS⟩ ?_
          clear hE hS a w hq98; rintro m101 a w ⟨n100, q104, q105, cs109, rfl, hq98, h108, hn110, hE, hS⟩
          refine W.gen fun K111 hK111 => ?_
          rcases n100 with _ | n100
          · rw [SlicessymMergeCmpFuncint_v1.loop2] at hq98; exact absurd hq98 (by simp)
          rw [SlicessymMergeCmpFuncint_v1.loop2] at hq98
          refine W.seq ?_
          refine W.seq ?_
          refine W.region ?_
          refine WL.vS hS hE (runs_plain rfl) (Gives.p hE rfl) rfl ?_; clear hE a; intro a hE
          refine WL.vS hS hE (runs_plain rfl) (Gives.p hE rfl) rfl ?_; clear hE a; intro a hE
          refine WL.vS hS hE (runs_plain rfl) (Gives.p hE rfl) rfl ?_; clear hE a; intro a hE
          refine WL.vS hS hE (runs_plain rfl) (Gives.p hE rfl) rfl ?_; clear hE a; intro a hE
          refine WL.nil ?_
          refine W.cond hE rfl (fun hc112 => ?_) (fun hc112 => ?_)
          · replace hq98 := iteT hc112 hq98
            refine W.skip ?_
            refine W.seq ?_
            refine W.block ?_
            refine W.gen fun K113 hK113 => ?_
            refine rE hS [] [4] [0, 1, 2, 3, 4, 5, 6, 7, 8, 9, 10, 11, 12, 13, 14, 16] [0, 1, 2, 3, 4, 5, 6, 7, 8, 9, 10, 11, 12, 13, 14, 15, 16, 17] mixed ?_
            replace hS := hS.drew
            refine Rg.takeP (i := 0) hE rfl (by kernel_rfl) (runs_plain rfl) (Gives.p hE rfl) rfl (tw_sel (fun _ => hS) (fun _ => (hS.dropAt 4))) ?_; clear hE a; intro a hE
            refine Rg.takeP (i := 1) hE rfl (by kernel_rfl) (runs_plain rfl) (Gives.p hE rfl) rfl (tw_sel (fun _ => hS) (fun _ => (hS.dropAt 4))) ?_; clear hE a; intro a hE
            refine Rg.takeP (i := 2) hE rfl (by kernel_rfl) (runs_plain rfl) (Gives.p hE rfl) rfl (tw_sel (fun _ => hS) (fun _ => (hS.dropAt 4))) ?_; clear hE a; intro a hE
            refine Rg.takeP (i := 3) hE rfl (by kernel_rfl) (runs_plain rfl) (Gives.p hE rfl) rfl (tw_sel (fun _ => hS) (fun _ => (hS.dropAt 4))) ?_; clear hE a; intro a hE
            refine Rg.takeP (i := 4) hE rfl (by kernel_rfl) (runs_plain rfl) (Gives.p hE rfl) rfl (tw_sel (fun _ => hS) (fun _ => (hS.dropAt 4))) ?_; clear hE a; intro a hE
            refine Rg.takeP (i := 5) hE rfl (by kernel_rfl) (runs_plain rfl) (Gives.p hE rfl) rfl (tw_sel (fun _ => hS) (fun _ => (hS.dropAt 4))) ?_; clear hE a; intro a hE
            refine Rg.takeP (i := 6) hE rfl (by kernel_rfl) (runs_plain rfl) (Gives.p hE rfl) rfl (tw_sel (fun _ => hS) (fun _ => (hS.dropAt 4))) ?_; clear hE a; intro a hE
            refine Rg.takeP (i := 7) hE rfl (by kernel_rfl) (runs_plain rfl) (Gives.p hE rfl) rfl (tw_sel (fun _ => hS) (fun _ => (hS.dropAt 4))) ?_; clear hE a; intro a hE
            obtain ⟨x114, hx115, hq98⟩ := bindS hq98
            obtain ⟨hi116, hlt117, hy118⟩ := gx_some hx115
            obtain ⟨vs119, hl120, hR121, hd122, hget123⟩ := h108.at hy118
            subst hR121
            refine Rg.takeP (i := 8) hE rfl (by kernel_rfl) (runs_plain rfl) (Gives.idx hE ((w64 (q104 + 1)).toNat) rfl rfl sl22 hi116 (by have := hn110; omega) (hS.vecAok 4 rfl (by have := hn110; omega : (w64 (q104 + 1)).toNat < x0.length))) rfl (tw_sel (fun _ => hS) (fun _ => (hS.dropAt 4))) ?_; clear hE a; intro a hE
            refine Rg.take (i := 9) true rfl hE rfl (by kernel_rfl) (runs_plain rfl) (Gives.load1 hE rfl (fun w h => St.vecSees h 4 rfl ((w64 (q104 + 1)).toNat * 1) _ hget123) ty3) rfl (tw_sel (fun _ => hS) (fun _ => (hS.dropAt 4))) ?_; clear hE a; intro a hE
            refine Rg.takeP (i := 10) hE rfl (by kernel_rfl) (runs_plain rfl) (Gives.p hE rfl) rfl (tw_sel (fun _ => hS) (fun _ => (hS.dropAt 4))) ?_; clear hE a; intro a hE
            refine Rg.takeP (i := 11) hE rfl (by kernel_rfl) (runs_plain rfl) (Gives.p hE rfl) rfl (tw_sel (fun _ => hS) (fun _ => (hS.dropAt 4))) ?_; clear hE a; intro a hE
            obtain ⟨x124, hx125, hq98⟩ := bindS hq98
            obtain ⟨hi126, hlt127, hy128⟩ := gx_some hx125
            obtain ⟨vs129, hl130, hR131, hd132, hget133⟩ := h108.at hy128
            subst hR131
            refine Rg.takeP (i := 12) hE rfl (by kernel_rfl) (runs_plain rfl) (Gives.idx hE ((q104).toNat) rfl rfl sl22 hi126 (by have := hn110; omega) (hS.vecAok 4 rfl (by have := hn110; omega : (q104).toNat < x0.length))) rfl (tw_sel (fun _ => hS) (fun _ => (hS.dropAt 4))) ?_; clear hE a; intro a hE
            refine Rg.take (i := 13) true rfl hE rfl (by kernel_rfl) (runs_plain rfl) (Gives.load1 hE rfl (fun w h => St.vecSees h 4 rfl ((q104).toNat * 1) _ hget133) ty3) rfl (tw_sel (fun _ => hS) (fun _ => (hS.dropAt 4))) ?_; clear hE a; intro a hE
            obtain ⟨_, hx135, hq98⟩ := bindS hq98
            obtain ⟨h136, h137⟩ := ix_some hx135
            refine Rg.takeP (i := 14) hE rfl (by kernel_rfl) (runs_plain rfl) (Gives.idx hE ((q104).toNat) rfl rfl sl22 h136 (by have := hn110; omega) (hS.vecAok 4 rfl (by have := hn110; omega : (q104).toNat < x0.length))) rfl (tw_sel (fun _ => hS) (fun _ => (hS.dropAt 4))) ?_; clear hE a; intro a hE
            refine Rg.one (i := 15) false true rfl (by kernel_rfl) (by kernel_rfl) (by kernel_rfl) ?_
            obtain ⟨x139, hx140, hq98⟩ := bindS hq98
            refine WL.setD hE hS 4 rfl (runs_plain rfl) rfl rfl (vs := [.int .i64 x114]) rfl ty3 rfl rfl rfl h108 hn110 (sx_some hx140).1 hx140 rfl rfl ?_; clear hE hS a w; intro cs141 a w h142 hn143 hE hS
            refine WL.nil ?_
            refine ⟨⟨fun h => absurd h (by decide), fun _ => (hS.dropAt 4)⟩, ?_⟩
            obtain ⟨_, hx145, hq98⟩ := bindS hq98
            obtain ⟨h146, h147⟩ := ix_some hx145
            refine Rg.takeP (i := 16) hE rfl (by kernel_rfl) (runs_plain rfl) (Gives.idx hE ((w64 (q104 + 1)).toNat) rfl rfl sl22 h146 (by have := hn143; omega) (hS.vecAok 4 rfl (by have := hn143; omega : (w64 (q104 + 1)).toNat < x0.length))) rfl (tw_sel (fun h => absurd h (by decide)) (fun _ => (hS.dropAt 4))) ?_; clear hE a; intro a hE
            refine Rg.one (i := 17) false true rfl (by kernel_rfl) (by kernel_rfl) (by kernel_rfl) ?_
            obtain ⟨x149, hx150, hq98⟩ := bindS hq98
            refine WL.setD hE hS 4 rfl (runs_plain rfl) rfl rfl (vs := [.int .i64 x124]) rfl ty3 rfl rfl rfl h142 hn143 (sx_some hx150).1 hx150 rfl rfl ?_; clear hE hS a w; intro cs151 a w h152 hn153 hE hS
            refine WL.nil ?_
            refine ⟨⟨fun h => absurd h (by decide), fun _ => (hS.dropAt 4)⟩, ?_⟩
            refine Rg.done (by kernel_rfl) ?_
            subst hK113
            refine W.region ?_
            refine WL.vS hS hE (runs_plain rfl) (Gives.p hE rfl) rfl ?_; clear hE a; intro a hE
            refine WL.vS hS hE (runs_plain rfl) (Gives.p hE rfl) rfl ?_; clear hE a; intro a hE
            refine WL.vS hS hE (runs_plain rfl) (Gives.p hE rfl) rfl ?_; clear hE a; intro a hE
            refine WL.nil ?_
            subst hK111
            exact ⟨n100, Nat.lt_succ_self _, n100, (w64 (q104 + 1)), x149, cs151, rfl, hq98, h152, hn153, hE.pick _ ⟨rfl, rfl, rfl, trivial⟩, hS⟩
          · replace hq98 := iteF hc112 hq98
            subst hK111
            refine W.exit rfl ?_
            exact ⟨q104, q105, cs109, Option.some.inj hq98, h108, hn110, hE.pick _ trivial, hS⟩
        · clear hE hS a w; rintro a w ⟨q104, q105, cs109, rfl, h108, hn110, hE, hS⟩
          dsimp only at hr
          refine W.ret ?_
          refine finG (fn := Try.f47) (rs := []) (vs := []) hE rfl trivial ?_
          obtain rfl := Option.some.inj hr
          exact ⟨cs109, rfl, h108, hn110, hS⟩
    · replace hr := iteF hc57 hr
      refine W.skip ?_
      refine W.seq ?_
      refine W.seq ?_
      refine W.region ?_
      refine WL.vS hS hE (runs_plain rfl) (Gives.p hE rfl) rfl ?_; clear hE a; intro a hE
      refine WL.vS hS hE (runs_plain rfl) (Gives.p hE rfl) rfl ?_; clear hE a; intro a hE
      refine WL.vS hS hE (runs_plain rfl) (Gives.p hE rfl) rfl ?_; clear hE a; intro a hE
      refine WL.vS hS hE (runs_plain rfl) (Gives.p hE rfl) rfl ?_; clear hE a; intro a hE
      refine WL.nil ?_
      refine W.cond hE rfl (fun hc154 => ?_) (fun hc154 => ?_)
      · replace hr := iteT hc154 hr
        refine W.seq ?_
        refine W.region ?_
        refine WL.vS hS hE (runs_plain rfl) (Gives.p hE rfl) rfl ?_; clear hE a; intro a hE
        refine WL.vS hS hE (runs_plain rfl) (Gives.p hE rfl) rfl ?_; clear hE a; intro a hE
        refine WL.nil ?_
        refine W.seq ?_
        refine W.region ?_
        refine WL.vS hS hE (runs_plain rfl) (Gives.p hE rfl) rfl ?_; clear hE a; intro a hE
        refine WL.vS hS hE (runs_plain rfl) (Gives.p hE rfl) rfl ?_; clear hE a; intro a hE
        refine WL.nil ?_
        refine W.seq ?_
        obtain ⟨q156, hq155, hr⟩ := bindS hr
        refine W.cut (fun a w => ∃ (q161 : Int), ∃ (q162 : Int), (q161, q162) = q156 ∧ Rep a 220 [(0, .slice a_v0 x0.length c_v0), (2, .int .i64 x2), (14, .int .i64 q161)] ∧ St w s (pt pb0 (.cells #[.pointer (some ⟨pb3, 0, none⟩)] 23 (0, 0)) :: pt pb1 (.cells #[.int .i64 y1] 3 (0, 0)) :: pt pb2 (.cells #[.int .i64 y2] 3 (0, 0)) :: pt pb3 (.cells #[.int .i64 y3.rows, .int .i64 y3.across, .int .i64 y3.stops, .slice a_v1 y3.bookings.length c_v1, .slice a_v2 y3.cancelled.length c_v2] 48 (0, 0)) :: vecC 3 1 a_v0 c_v0 x0.length cs_v0 :: vecC 39 4 a_v1 c_v1 y3.bookings.length cs_v1 :: vecC 4 1 a_v2 c_v2 y3.cancelled.length cs_v2 :: R)) ?_ ?_
        · refine W.block ?_
          refine W.loop (fun m a w => ∃ (n157 : Nat), ∃ (q161 : Int), ∃ (q162 : Int), n157 = m ∧ SlicessymMergeCmpFuncint_v1.loop3 x0 x2 y1 y2 y3 n157 q161 q162 = some q156 ∧ Rep a 220 [(0, .slice a_v0 x0.length c_v0), (2, .int .i64 x2), (4, .func (.func 33) #[] #[.pointer (some ⟨pb0, 0, none⟩), .pointer (some ⟨pb1, 0, none⟩), .pointer (some ⟨pb2, 0, none⟩)]), (14, .int .i64 q161), (15, .int .i64 q162)] ∧ St w s (pt pb0 (.cells #[.pointer (some ⟨pb3, 0, none⟩)] 23 (0, 0)) :: pt pb1 (.cells #[.int .i64 y1] 3 (0, 0)) :: pt pb2 (.cells #[.int .i64 y2] 3 (0, 0)) :: pt pb3 (.cells #[.int .i64 y3.rows, .int .i64 y3.across, .int .i64 y3.stops, .slice a_v1 y3.bookings.length c_v1, .slice a_v2 y3.cancelled.length c_v2] 48 (0, 0)) :: vecC 3 1 a_v0 c_v0 x0.length cs_v0 :: vecC 39 4 a_v1 c_v1 y3.bookings.length cs_v1 :: vecC 4 1 a_v2 c_v2 y3.cancelled.length cs_v2 :: R)) (m := fu) ⟨fu, x1, x2, rfl, hq155, hE.pick _ ⟨rfl, rfl, rfl, rfl, rfl, trivial⟩, hS⟩ ?_
          clear hE hS a w hq155; rintro m158 a w ⟨n157, q161, q162, rfl, hq155, hE, hS⟩
          refine W.gen fun K163 hK163 => ?_
          rcases n157 with _ | n157
          · rw [SlicessymMergeCmpFuncint_v1.loop3] at hq155; exact absurd hq155 (by simp)
          rw [SlicessymMergeCmpFuncint_v1.loop3] at hq155
          refine W.seq ?_
          refine W.seq ?_
          refine W.region ?_
          refine WL.vS hS hE (runs_plain rfl) (Gives.p hE rfl) rfl ?_; clear hE a; intro a hE
          refine WL.vS hS hE (runs_plain rfl) (Gives.p hE rfl) rfl ?_; clear hE a; intro a hE
          refine WL.vS hS hE (runs_plain rfl) (Gives.p hE rfl) rfl ?_; clear hE a; intro a hE
          refine WL.nil ?_
          refine W.cond hE rfl (fun hc164 => ?_) (fun hc164 => ?_)
          · replace hq155 := iteT hc164 hq155
            refine W.skip ?_
            refine W.block ?_
            refine W.seq ?_
            refine W.region ?_
            refine WL.vS hS hE (runs_plain rfl) (Gives.p hE rfl) rfl ?_; clear hE a; intro a hE
            refine WL.vS hS hE (runs_plain rfl) (Gives.p hE rfl) rfl ?_; clear hE a; intro a hE
            refine WL.vS hS hE (runs_plain rfl) (Gives.p hE rfl) rfl ?_; clear hE a; intro a hE
            refine WL.vS hS hE (runs_plain rfl) (Gives.conv hE rfl hu3 ui71) rfl ?_; clear hE a; intro a hE
            refine WL.vS hS hE (runs_plain rfl) (Gives.shr hE rfl rfl (by decide)) rfl ?_; clear hE a; intro a hE
            refine WL.vS hS hE (runs_plain rfl) (Gives.conv hE rfl hu71 ui3) rfl ?_; clear hE a; intro a hE
            refine WL.vS hS hE (runs_plain rfl) (Gives.p hE rfl) rfl ?_; clear hE a; intro a hE
            refine WL.nil ?_
            refine W.seq ?_
            refine W.regionQ (C := fun w => St w s (pt pb0 (.cells #[.pointer (some ⟨pb3, 0, none⟩)] 23 (0, 0)) :: pt pb1 (.cells #[.int .i64 y1] 3 (0, 0)) :: pt pb2 (.cells #[.int .i64 y2] 3 (0, 0)) :: pt pb3 (.cells #[.int .i64 y3.rows, .int .i64 y3.across, .int .i64 y3.stops, .slice a_v1 y3.bookings.length c_v1, .slice a_v2 y3.cancelled.length c_v2] 48 (0, 0)) :: vecC 3 1 a_v0 c_v0 x0.length cs_v0 :: vecC 39 4 a_v1 c_v1 y3.bookings.length cs_v1 :: vecC 4 1 a_v2 c_v2 y3.cancelled.length cs_v2 :: R)) mixed (by kernel_rfl) hS.drew ?_
            refine QL.v hE (runs_plain rfl) (Gives.p hE rfl) rfl ?_; clear hE a; intro a hE
            refine QL.v hE (runs_plain rfl) (Gives.p hE rfl) rfl ?_; clear hE a; intro a hE
            refine QL.v hE (runs_plain rfl) (Gives.p hE rfl) rfl ?_; clear hE a; intro a hE
            obtain ⟨x165, hx166, hq155⟩ := bindS hq155
            obtain ⟨hi167, hlt168, hy169⟩ := gx_some hx166
            obtain ⟨vs170, hl171, hR172, hd173, hget174⟩ := h_v0.at hy169
            subst hR172
            refine QL.v hE (runs_plain rfl) (Gives.idx hE ((x2).toNat) rfl rfl sl22 hi167 (by omega) (hS.vecAok 4 rfl (by omega : (x2).toNat < x0.length))) rfl ?_; clear hE a; intro a hE
            refine QL.v hE (runs_plain rfl) (Gives.load1 hE rfl (fun w h => St.vecSees h 4 rfl ((x2).toNat * 1) _ hget174) ty3) rfl ?_; clear hE a; intro a hE
            refine QL.v hE (runs_plain rfl) (Gives.p hE rfl) rfl ?_; clear hE a; intro a hE
            refine QL.v hE (runs_plain rfl) (Gives.p hE rfl) rfl ?_; clear hE a; intro a hE
            obtain ⟨x175, hx176, hq155⟩ := bindS hq155
            obtain ⟨hi177, hlt178, hy179⟩ := gx_some hx176
            obtain ⟨vs180, hl181, hR182, hd183, hget184⟩ := h_v0.at hy179
            subst hR182
            refine QL.v hE (runs_plain rfl) (Gives.idx hE ((w64 (Int.fdiv (IntKind.wrap .u64 (w64 (q161 + q162))) (2 ^ (min (Int.toNat 1) (IntKind.bits .u64))))).toNat) rfl rfl sl22 hi177 (by omega) (hS.vecAok 4 rfl (by omega : (w64 (Int.fdiv (IntKind.wrap .u64 (w64 (q161 + q162))) (2 ^ (min (Int.toNat 1) (IntKind.bits .u64))))).toNat < x0.length))) rfl ?_; clear hE a; intro a hE
            refine QL.v hE (runs_plain rfl) (Gives.load1 hE rfl (fun w h => St.vecSees h 4 rfl ((w64 (Int.fdiv (IntKind.wrap .u64 (w64 (q161 + q162))) (2 ^ (min (Int.toNat 1) (IntKind.bits .u64))))).toNat * 1) _ hget184) ty3) rfl ?_; clear hE a; intro a hE
            obtain ⟨q185, hq186, hq155⟩ := bindS hq155
            refine QL.fnw hE (fun w hS => (FareCarchoose_1_v1_ok (y3 := y3) (St.front (St.front (St.front (St.front (St.front (St.front hS 6 rfl) 6 rfl) 5 rfl) 5 rfl) 5 rfl) 5 rfl) h_v1 (rfl) h_v2 (rfl) hq186).mono fun _ _ ⟨he, hq⟩ => ⟨he, (St.unfront 6 rfl (St.unfront 6 rfl (St.unfront 5 rfl (St.unfront 5 rfl (St.unfront 5 rfl (St.unfront 5 rfl hq))))))⟩) rfl (runs_plain rfl) bd33 rfl rfl rfl ?_; clear hE a; intro a hE
            refine QL.v hE (runs_plain rfl) (Gives.p hE rfl) rfl ?_; clear hE a; intro a hE
            refine QL.v hE (runs_plain rfl) (Gives.p hE rfl) rfl ?_; clear hE a; intro a hE
            refine QL.nil ?_; clear hS w; intro w hS
            obtain ⟨q188, hq187, hq155⟩ := bndS hq155
            refine W.cut (fun a w => ∃ (q191 : Int), ∃ (q192 : Int), (q191, q192) = q188 ∧ Rep a 220 [(0, .slice a_v0 x0.length c_v0), (2, .int .i64 x2), (4, .func (.func 33) #[] #[.pointer (some ⟨pb0, 0, none⟩), .pointer (some ⟨pb1, 0, none⟩), .pointer (some ⟨pb2, 0, none⟩)]), (14, .int .i64 q191), (15, .int .i64 q192)] ∧ St w s (pt pb0 (.cells #[.pointer (some ⟨pb3, 0, none⟩)] 23 (0, 0)) :: pt pb1 (.cells #[.int .i64 y1] 3 (0, 0)) :: pt pb2 (.cells #[.int .i64 y2] 3 (0, 0)) :: pt pb3 (.cells #[.int .i64 y3.rows, .int .i64 y3.across, .int .i64 y3.stops, .slice a_v1 y3.bookings.length c_v1, .slice a_v2 y3.cancelled.length c_v2] 48 (0, 0)) :: vecC 3 1 a_v0 c_v0 x0.length cs_v0 :: vecC 39 4 a_v1 c_v1 y3.bookings.length cs_v1 :: vecC 4 1 a_v2 c_v2 y3.cancelled.length cs_v2 :: R)) ?_ ?_
            · refine W.gen fun K193 hK193 => ?_
              refine W.cond hE rfl (fun hc194 => ?_) (fun hc194 => ?_)
              · replace hq187 := iteT hc194 hq187
                refine W.region ?_
                refine WL.vS hS hE (runs_plain rfl) (Gives.p hE rfl) rfl ?_; clear hE a; intro a hE
                refine WL.vS hS hE (runs_plain rfl) (Gives.p hE rfl) rfl ?_; clear hE a; intro a hE
                refine WL.vS hS hE (runs_plain rfl) (Gives.p hE rfl) rfl ?_; clear hE a; intro a hE
                refine WL.nil ?_
                subst hK193
                exact ⟨w64 ((w64 (Int.fdiv (IntKind.wrap .u64 (w64 (q161 + q162))) (2 ^ (min (Int.toNat 1) (IntKind.bits .u64))))) + 1), q162, hq187, hE.pick _ ⟨rfl, rfl, rfl, rfl, rfl, trivial⟩, hS⟩
              · replace hq187 := iteF hc194 hq187
                refine W.region ?_
                refine WL.vS hS hE (runs_plain rfl) (Gives.p hE rfl) rfl ?_; clear hE a; intro a hE
                refine WL.vS hS hE (runs_plain rfl) (Gives.p hE rfl) rfl ?_; clear hE a; intro a hE
                refine WL.nil ?_
                subst hK193
                exact ⟨q161, w64 (Int.fdiv (IntKind.wrap .u64 (w64 (q161 + q162))) (2 ^ (min (Int.toNat 1) (IntKind.bits .u64)))), hq187, hE.pick _ ⟨rfl, rfl, rfl, rfl, rfl, trivial⟩, hS⟩
            · clear hE hS a w; rintro a w ⟨q191, q192, rfl, hE, hS⟩
              dsimp only at hq155
              subst hK163
              exact ⟨n157, Nat.lt_succ_self _, n157, q191, q192, rfl, hq155, hE.pick _ ⟨rfl, rfl, rfl, rfl, rfl, trivial⟩, hS⟩
          · replace hq155 := iteF hc164 hq155
            subst hK163
            refine W.exit rfl ?_
            exact ⟨q161, q162, Option.some.inj hq155, hE.pick _ ⟨rfl, rfl, rfl, trivial⟩, hS⟩
        · clear hE hS a w; rintro a w ⟨q161, q162, rfl, hE, hS⟩
          dsimp only at hr
          refine W.seq ?_
          refine W.seq ?_
          refine W.region ?_
          refine WL.vS hS hE (runs_plain rfl) (Gives.p hE rfl) rfl ?_; clear hE a; intro a hE
          refine WL.vS hS hE (runs_plain rfl) (Gives.p hE rfl) rfl ?_; clear hE a; intro a hE
          refine WL.nil ?_
          obtain ⟨q196, hq195, hr⟩ := bindS hr
          refine W.cut (fun a w => ∃ (q201 : Int), ∃ (q202 : List Int), ∃ (cs206 : List Value), (q201, q202) = q196 ∧ Ev 1 (RI .i64) s cs206 q202 ∧ q202.length = x0.length ∧ Rep a 220 [] ∧ St w s (pt pb0 (.cells #[.pointer (some ⟨pb3, 0, none⟩)] 23 (0, 0)) :: pt pb1 (.cells #[.int .i64 y1] 3 (0, 0)) :: pt pb2 (.cells #[.int .i64 y2] 3 (0, 0)) :: pt pb3 (.cells #[.int .i64 y3.rows, .int .i64 y3.across, .int .i64 y3.stops, .slice a_v1 y3.bookings.length c_v1, .slice a_v2 y3.cancelled.length c_v2] 48 (0, 0)) :: vecC 3 1 a_v0 c_v0 x0.length cs206 :: vecC 39 4 a_v1 c_v1 y3.bookings.length cs_v1 :: vecC 4 1 a_v2 c_v2 y3.cancelled.length cs_v2 :: R)) ?_ ?_
          · refine W.block ?_
            refine W.loop (fun m a w => ∃ (n197 : Nat), ∃ (q201 : Int), ∃ (q202 : List Int), ∃ (cs206 : List Value), n197 = m ∧ SlicessymMergeCmpFuncint_v1.loop4 q161 n197 q201 q202 = some q196 ∧ Ev 1 (RI .i64) s cs206 q202 ∧ q202.length = x0.length ∧ Rep a 220 [(0, .slice a_v0 x0.length c_v0), (14, .int .i64 q161), (17, .int .i64 q201)] ∧ St w s (pt pb0 (.cells #[.pointer (some ⟨pb3, 0, none⟩)] 23 (0, 0)) :: pt pb1 (.cells #[.int .i64 y1] 3 (0, 0)) :: pt pb2 (.cells #[.int .i64 y2] 3 (0, 0)) :: pt pb3 (.cells #[.int .i64 y3.rows, .int .i64 y3.across, .int .i64 y3.stops, .slice a_v1 y3.bookings.length c_v1, .slice a_v2 y3.cancelled.length c_v2] 48 (0, 0)) :: vecC 3 1 a_v0 c_v0 x0.length cs206 :: vecC 39 4 a_v1 c_v1 y3.bookings.length cs_v1 :: vecC 4 1 a_v2 c_v2 y3.cancelled.length cs_v2 :: R)) (m := fu) ⟨fu, x2, x0, cs_v0, rfl, hq195, h_v0, (rfl), hE.pick _ ⟨rfl, rfl, rfl, trivial⟩, hS⟩ ?_
            clear hE hS a w hq195; rintro m198 a w ⟨n197, q201, q202, cs206, rfl, hq195, h205, hn207, hE, hS⟩
            refine W.gen fun K208 hK208 => ?_
            rcases n197 with _ | n197
            · rw [SlicessymMergeCmpFuncint_v1.loop4] at hq195; exact absurd hq195 (by simp)
            rw [SlicessymMergeCmpFuncint_v1.loop4] at hq195
            refine W.seq ?_
            refine W.seq ?_
            refine W.region ?_
            refine WL.vS hS hE (runs_plain rfl) (Gives.p hE rfl) rfl ?_; clear hE a; intro a hE
            refine WL.vS hS hE (runs_plain rfl) (Gives.p hE rfl) rfl ?_; clear hE a; intro a hE
            refine WL.vS hS hE (runs_plain rfl) (Gives.p hE rfl) rfl ?_; clear hE a; intro a hE
            refine WL.nil ?_
            refine W.cond hE rfl (fun hc209 => ?_) (fun hc209 => ?_)
            · replace hq195 := iteT hc209 hq195
              refine W.skip ?_
              refine W.seq ?_
              refine W.block ?_
              refine W.gen fun K210 hK210 => ?_
              refine rE hS [] [4] [0, 1, 2, 3, 4, 5, 6, 7, 8, 9, 10, 11, 12, 13, 14, 16] [0, 1, 2, 3, 4, 5, 6, 7, 8, 9, 10, 11, 12, 13, 14, 15, 16, 17] mixed ?_
              replace hS := hS.drew
              refine Rg.takeP (i := 0) hE rfl (by kernel_rfl) (runs_plain rfl) (Gives.p hE rfl) rfl (tw_sel (fun _ => hS) (fun _ => (hS.dropAt 4))) ?_; clear hE a; intro a hE
              refine Rg.takeP (i := 1) hE rfl (by kernel_rfl) (runs_plain rfl) (Gives.p hE rfl) rfl (tw_sel (fun _ => hS) (fun _ => (hS.dropAt 4))) ?_; clear hE a; intro a hE
              refine Rg.takeP (i := 2) hE rfl (by kernel_rfl) (runs_plain rfl) (Gives.p hE rfl) rfl (tw_sel (fun _ => hS) (fun _ => (hS.dropAt 4))) ?_; clear hE a; intro a hE
              refine Rg.takeP (i := 3) hE rfl (by kernel_rfl) (runs_plain rfl) (Gives.p hE rfl) rfl (tw_sel (fun _ => hS) (fun _ => (hS.dropAt 4))) ?_; clear hE a; intro a hE
              refine Rg.takeP (i := 4) hE rfl (by kernel_rfl) (runs_plain rfl) (Gives.p hE rfl) rfl (tw_sel (fun _ => hS) (fun _ => (hS.dropAt 4))) ?_; clear hE a; intro a hE
              refine Rg.takeP (i := 5) hE rfl (by kernel_rfl) (runs_plain rfl) (Gives.p hE rfl) rfl (tw_sel (fun _ => hS) (fun _ => (hS.dropAt 4))) ?_; clear hE a; intro a hE
              refine Rg.takeP (i := 6) hE rfl (by kernel_rfl) (runs_plain rfl) (Gives.p hE rfl) rfl (tw_sel (fun _ => hS) (fun _ => (hS.dropAt 4))) ?_; clear hE a; intro a hE
              refine Rg.takeP (i := 7) hE rfl (by kernel_rfl) (runs_plain rfl) (Gives.p hE rfl) rfl (tw_sel (fun _ => hS) (fun _ => (hS.dropAt 4))) ?_; clear hE a; intro a hE
              obtain ⟨x211, hx212, hq195⟩ := bindS hq195
              obtain ⟨hi213, hlt214, hy215⟩ := gx_some hx212
              obtain ⟨vs216, hl217, hR218, hd219, hget220⟩ := h205.at hy215
              subst hR218
              refine Rg.takeP (i := 8) hE rfl (by kernel_rfl) (runs_plain rfl) (Gives.idx hE ((w64 (q201 - 1)).toNat) rfl rfl sl22 hi213 (by have := hn207; omega) (hS.vecAok 4 rfl (by have := hn207; omega : (w64 (q201 - 1)).toNat < x0.length))) rfl (tw_sel (fun _ => hS) (fun _ => (hS.dropAt 4))) ?_; clear hE a; intro a hE
              refine Rg.take (i := 9) true rfl hE rfl (by kernel_rfl) (runs_plain rfl) (Gives.load1 hE rfl (fun w h => St.vecSees h 4 rfl ((w64 (q201 - 1)).toNat * 1) _ hget220) ty3) rfl (tw_sel (fun _ => hS) (fun _ => (hS.dropAt 4))) ?_; clear hE a; intro a hE
              refine Rg.takeP (i := 10) hE rfl (by kernel_rfl) (runs_plain rfl) (Gives.p hE rfl) rfl (tw_sel (fun _ => hS) (fun _ => (hS.dropAt 4))) ?_; clear hE a; intro a hE
              refine Rg.takeP (i := 11) hE rfl (by kernel_rfl) (runs_plain rfl) (Gives.p hE rfl) rfl (tw_sel (fun _ => hS) (fun _ => (hS.dropAt 4))) ?_; clear hE a; intro a hE
              obtain ⟨x221, hx222, hq195⟩ := bindS hq195
              obtain ⟨hi223, hlt224, hy225⟩ := gx_some hx222
              obtain ⟨vs226, hl227, hR228, hd229, hget230⟩ := h205.at hy225
              subst hR228
              refine Rg.takeP (i := 12) hE rfl (by kernel_rfl) (runs_plain rfl) (Gives.idx hE ((q201).toNat) rfl rfl sl22 hi223 (by have := hn207; omega) (hS.vecAok 4 rfl (by have := hn207; omega : (q201).toNat < x0.length))) rfl (tw_sel (fun _ => hS) (fun _ => (hS.dropAt 4))) ?_; clear hE a; intro a hE
              refine Rg.take (i := 13) true rfl hE rfl (by kernel_rfl) (runs_plain rfl) (Gives.load1 hE rfl (fun w h => St.vecSees h 4 rfl ((q201).toNat * 1) _ hget230) ty3) rfl (tw_sel (fun _ => hS) (fun _ => (hS.dropAt 4))) ?_; clear hE a; intro a hE
              obtain ⟨_, hx232, hq195⟩ := bindS hq195
              obtain ⟨h233, h234⟩ := ix_some hx232
              refine Rg.takeP (i := 14) hE rfl (by kernel_rfl) (runs_plain rfl) (Gives.idx hE ((q201).toNat) rfl rfl sl22 h233 (by have := hn207; omega) (hS.vecAok 4 rfl (by have := hn207; omega : (q201).toNat < x0.length))) rfl (tw_sel (fun _ => hS) (fun _ => (hS.dropAt 4))) ?_; clear hE a; intro a hE
              refine Rg.one (i := 15) false true rfl (by kernel_rfl) (by kernel_rfl) (by kernel_rfl) ?_
              obtain ⟨x236, hx237, hq195⟩ := bindS hq195
              refine WL.setD hE hS 4 rfl (runs_plain rfl) rfl rfl (vs := [.int .i64 x211]) rfl ty3 rfl rfl rfl h205 hn207 (sx_some hx237).1 hx237 rfl rfl ?_; clear hE hS a w; intro cs238 a w h239 hn240 hE hS
              refine WL.nil ?_
              refine ⟨⟨fun h => absurd h (by decide), fun _ => (hS.dropAt 4)⟩, ?_⟩
              obtain ⟨_, hx242, hq195⟩ := bindS hq195
              obtain ⟨h243, h244⟩ := ix_some hx242
              refine Rg.takeP (i := 16) hE rfl (by kernel_rfl) (runs_plain rfl) (Gives.idx hE ((w64 (q201 - 1)).toNat) rfl rfl sl22 h243 (by have := hn240; omega) (hS.vecAok 4 rfl (by have := hn240; omega : (w64 (q201 - 1)).toNat < x0.length))) rfl (tw_sel (fun h => absurd h (by decide)) (fun _ => (hS.dropAt 4))) ?_; clear hE a; intro a hE
              refine Rg.one (i := 17) false true rfl (by kernel_rfl) (by kernel_rfl) (by kernel_rfl) ?_
              obtain ⟨x246, hx247, hq195⟩ := bindS hq195
              refine WL.setD hE hS 4 rfl (runs_plain rfl) rfl rfl (vs := [.int .i64 x221]) rfl ty3 rfl rfl rfl h239 hn240 (sx_some hx247).1 hx247 rfl rfl ?_; clear hE hS a w; intro cs248 a w h249 hn250 hE hS
              refine WL.nil ?_
              refine ⟨⟨fun h => absurd h (by decide), fun _ => (hS.dropAt 4)⟩, ?_⟩
              refine Rg.done (by kernel_rfl) ?_
              subst hK210
              refine W.region ?_
              refine WL.vS hS hE (runs_plain rfl) (Gives.p hE rfl) rfl ?_; clear hE a; intro a hE
              refine WL.vS hS hE (runs_plain rfl) (Gives.p hE rfl) rfl ?_; clear hE a; intro a hE
              refine WL.vS hS hE (runs_plain rfl) (Gives.p hE rfl) rfl ?_; clear hE a; intro a hE
              refine WL.nil ?_
              subst hK208
              exact ⟨n197, Nat.lt_succ_self _, n197, (w64 (q201 - 1)), x246, cs248, rfl, hq195, h249, hn250, hE.pick _ ⟨rfl, rfl, rfl, trivial⟩, hS⟩
            · replace hq195 := iteF hc209 hq195
              subst hK208
              refine W.exit rfl ?_
              exact ⟨q201, q202, cs206, Option.some.inj hq195, h205, hn207, hE.pick _ trivial, hS⟩
          · clear hE hS a w; rintro a w ⟨q201, q202, cs206, rfl, h205, hn207, hE, hS⟩
            dsimp only at hr
            refine W.ret ?_
            refine finG (fn := Try.f47) (rs := []) (vs := []) hE rfl trivial ?_
            obtain rfl := Option.some.inj hr
            exact ⟨cs206, rfl, h205, hn207, hS⟩
      · replace hr := iteF hc154 hr
        refine W.skip ?_
        refine W.seq ?_
        refine W.region ?_
        refine WL.vS hS hE (runs_plain rfl) (Gives.p hE rfl) rfl ?_; clear hE a; intro a hE
        refine WL.vS hS hE (runs_plain rfl) (Gives.p hE rfl) rfl ?_; clear hE a; intro a hE
        refine WL.vS hS hE (runs_plain rfl) (Gives.p hE rfl) rfl ?_; clear hE a; intro a hE
        refine WL.vS hS hE (runs_plain rfl) (Gives.conv hE rfl hu3 ui71) rfl ?_; clear hE a; intro a hE
        refine WL.vS hS hE (runs_plain rfl) (Gives.shr hE rfl rfl (by decide)) rfl ?_; clear hE a; intro a hE
        refine WL.vS hS hE (runs_plain rfl) (Gives.conv hE rfl hu71 ui3) rfl ?_; clear hE a; intro a hE
        refine WL.vS hS hE (runs_plain rfl) (Gives.p hE rfl) rfl ?_; clear hE a; intro a hE
        refine WL.nil ?_
        refine W.seq ?_
        refine W.region ?_
        refine WL.vS hS hE (runs_plain rfl) (Gives.p hE rfl) rfl ?_; clear hE a; intro a hE
        refine WL.vS hS hE (runs_plain rfl) (Gives.p hE rfl) rfl ?_; clear hE a; intro a hE
        refine WL.vS hS hE (runs_plain rfl) (Gives.p hE rfl) rfl ?_; clear hE a; intro a hE
        refine WL.vS hS hE (runs_plain rfl) (Gives.p hE rfl) rfl ?_; clear hE a; intro a hE
        refine WL.nil ?_
        refine W.seq ?_
        refine W.region ?_
        refine WL.vS hS hE (runs_plain rfl) (Gives.p hE rfl) rfl ?_; clear hE a; intro a hE
        refine WL.vS hS hE (runs_plain rfl) (Gives.p hE rfl) rfl ?_; clear hE a; intro a hE
        refine WL.nil ?_
        refine W.seq ?_
        refine W.seq ?_
        refine W.region ?_
        refine WL.vS hS hE (runs_plain rfl) (Gives.p hE rfl) rfl ?_; clear hE a; intro a hE
        refine WL.vS hS hE (runs_plain rfl) (Gives.p hE rfl) rfl ?_; clear hE a; intro a hE
        refine WL.vS hS hE (runs_plain rfl) (Gives.p hE rfl) rfl ?_; clear hE a; intro a hE
        refine WL.nil ?_
        obtain ⟨q252, hq251, hr⟩ := bndS hr
        refine W.cut (fun a w => ∃ (q255 : Int), ∃ (q256 : Int), (q255, q256) = q252 ∧ Rep a 220 [(0, .slice a_v0 x0.length c_v0), (1, .int .i64 x1), (2, .int .i64 x2), (3, .int .i64 x3), (4, .func (.func 33) #[] #[.pointer (some ⟨pb0, 0, none⟩), .pointer (some ⟨pb1, 0, none⟩), .pointer (some ⟨pb2, 0, none⟩)]), (18, .int .i64 (w64 (Int.fdiv (IntKind.wrap .u64 (w64 (x1 + x3))) (2 ^ (min (Int.toNat 1) (IntKind.bits .u64)))))), (19, .int .i64 (w64 ((w64 (Int.fdiv (IntKind.wrap .u64 (w64 (x1 + x3))) (2 ^ (min (Int.toNat 1) (IntKind.bits .u64))))) + x2))), (20, .int .i64 q255), (21, .int .i64 q256)] ∧ St w s (pt pb0 (.cells #[.pointer (some ⟨pb3, 0, none⟩)] 23 (0, 0)) :: pt pb1 (.cells #[.int .i64 y1] 3 (0, 0)) :: pt pb2 (.cells #[.int .i64 y2] 3 (0, 0)) :: pt pb3 (.cells #[.int .i64 y3.rows, .int .i64 y3.across, .int .i64 y3.stops, .slice a_v1 y3.bookings.length c_v1, .slice a_v2 y3.cancelled.length c_v2] 48 (0, 0)) :: vecC 3 1 a_v0 c_v0 x0.length cs_v0 :: vecC 39 4 a_v1 c_v1 y3.bookings.length cs_v1 :: vecC 4 1 a_v2 c_v2 y3.cancelled.length cs_v2 :: R)) ?_ ?_
        · refine W.gen fun K257 hK257 => ?_
          refine W.cond hE rfl (fun hc258 => ?_) (fun hc258 => ?_)
          · replace hq251 := iteT hc258 hq251
            refine W.seq ?_
            refine W.region ?_
            refine WL.vS hS hE (runs_plain rfl) (Gives.p hE rfl) rfl ?_; clear hE a; intro a hE
            refine WL.vS hS hE (runs_plain rfl) (Gives.p hE rfl) rfl ?_; clear hE a; intro a hE
            refine WL.vS hS hE (runs_plain rfl) (Gives.p hE rfl) rfl ?_; clear hE a; intro a hE
            refine WL.vS hS hE (runs_plain rfl) (Gives.p hE rfl) rfl ?_; clear hE a; intro a hE
            refine WL.nil ?_
            refine W.region ?_
            refine WL.vS hS hE (runs_plain rfl) (Gives.p hE rfl) rfl ?_; clear hE a; intro a hE
            refine WL.vS hS hE (runs_plain rfl) (Gives.p hE rfl) rfl ?_; clear hE a; intro a hE
            refine WL.nil ?_
            subst hK257
            exact ⟨w64 ((w64 ((w64 (Int.fdiv (IntKind.wrap .u64 (w64 (x1 + x3))) (2 ^ (min (Int.toNat 1) (IntKind.bits .u64))))) + x2)) - x3), w64 (Int.fdiv (IntKind.wrap .u64 (w64 (x1 + x3))) (2 ^ (min (Int.toNat 1) (IntKind.bits .u64)))), hq251, hE.pick _ ⟨rfl, rfl, rfl, rfl, rfl, rfl, rfl, rfl, rfl, trivial⟩, hS⟩
          · replace hq251 := iteF hc258 hq251
            refine W.seq ?_
            refine W.region ?_
            refine WL.vS hS hE (runs_plain rfl) (Gives.p hE rfl) rfl ?_; clear hE a; intro a hE
            refine WL.vS hS hE (runs_plain rfl) (Gives.p hE rfl) rfl ?_; clear hE a; intro a hE
            refine WL.nil ?_
            refine W.region ?_
            refine WL.vS hS hE (runs_plain rfl) (Gives.p hE rfl) rfl ?_; clear hE a; intro a hE
            refine WL.vS hS hE (runs_plain rfl) (Gives.p hE rfl) rfl ?_; clear hE a; intro a hE
            refine WL.nil ?_
            subst hK257
            exact ⟨x1, x2, hq251, hE.pick _ ⟨rfl, rfl, rfl, rfl, rfl, rfl, rfl, rfl, rfl, trivial⟩, hS⟩
        · clear hE hS a w; rintro a w ⟨q255, q256, rfl, hE, hS⟩
          dsimp only at hr
          refine W.seq ?_
          refine W.region ?_
          refine WL.vS hS hE (runs_plain rfl) (Gives.p hE rfl) rfl ?_; clear hE a; intro a hE
          refine WL.vS hS hE (runs_plain rfl) (Gives.p hE rfl) rfl ?_; clear hE a; intro a hE
          refine WL.vS hS hE (runs_plain rfl) (Gives.p hE rfl) rfl ?_; clear hE a; intro a hE
          refine WL.nil ?_
          refine W.seq ?_
          obtain ⟨q260, hq259, hr⟩ := bindS hr
          refine W.cut (fun a w => ∃ (q265 : Int), ∃ (q266 : Int), (q265, q266) = q260 ∧ Rep a 220 [(0, .slice a_v0 x0.length c_v0), (1, .int .i64 x1), (2, .int .i64 x2), (3, .int .i64 x3), (4, .func (.func 33) #[] #[.pointer (some ⟨pb0, 0, none⟩), .pointer (some ⟨pb1, 0, none⟩), .pointer (some ⟨pb2, 0, none⟩)]), (18, .int .i64 (w64 (Int.fdiv (IntKind.wrap .u64 (w64 (x1 + x3))) (2 ^ (min (Int.toNat 1) (IntKind.bits .u64)))))), (19, .int .i64 (w64 ((w64 (Int.fdiv (IntKind.wrap .u64 (w64 (x1 + x3))) (2 ^ (min (Int.toNat 1) (IntKind.bits .u64))))) + x2))), (20, .int .i64 q265)] ∧ St w s (pt pb0 (.cells #[.pointer (some ⟨pb3, 0, none⟩)] 23 (0, 0)) :: pt pb1 (.cells #[.int .i64 y1] 3 (0, 0)) :: pt pb2 (.cells #[.int .i64 y2] 3 (0, 0)) :: pt pb3 (.cells #[.int .i64 y3.rows, .int .i64 y3.across, .int .i64 y3.stops, .slice a_v1 y3.bookings.length c_v1, .slice a_v2 y3.cancelled.length c_v2] 48 (0, 0)) :: vecC 3 1 a_v0 c_v0 x0.length cs_v0 :: vecC 39 4 a_v1 c_v1 y3.bookings.length cs_v1 :: vecC 4 1 a_v2 c_v2 y3.cancelled.length cs_v2 :: R)) ?_ ?_
          · refine W.block ?_
            refine W.loop (fun m a w => ∃ (n261 : Nat), ∃ (q265 : Int), ∃ (q266 : Int), n261 = m ∧ SlicessymMergeCmpFuncint_v1.loop5 x0 x1 x2 x3 y1 y2 y3 n261 q265 q266 = some q260 ∧ Rep a 220 [(0, .slice a_v0 x0.length c_v0), (1, .int .i64 x1), (2, .int .i64 x2), (3, .int .i64 x3), (4, .func (.func 33) #[] #[.pointer (some ⟨pb0, 0, none⟩), .pointer (some ⟨pb1, 0, none⟩), .pointer (some ⟨pb2, 0, none⟩)]), (18, .int .i64 (w64 (Int.fdiv (IntKind.wrap .u64 (w64 (x1 + x3))) (2 ^ (min (Int.toNat 1) (IntKind.bits .u64)))))), (19, .int .i64 (w64 ((w64 (Int.fdiv (IntKind.wrap .u64 (w64 (x1 + x3))) (2 ^ (min (Int.toNat 1) (IntKind.bits .u64))))) + x2))), (20, .int .i64 q265), (21, .int .i64 q266), (22, .int .i64 (w64 ((w64 ((w64 (Int.fdiv (IntKind.wrap .u64 (w64 (x1 + x3))) (2 ^ (min (Int.toNat 1) (IntKind.bits .u64))))) + x2)) - 1)))] ∧ St w s (pt pb0 (.cells #[.pointer (some ⟨pb3, 0, none⟩)] 23 (0, 0)) :: pt pb1 (.cells #[.int .i64 y1] 3 (0, 0)) :: pt pb2 (.cells #[.int .i64 y2] 3 (0, 0)) :: pt pb3 (.cells #[.int .i64 y3.rows, .int .i64 y3.across, .int .i64 y3.stops, .slice a_v1 y3.bookings.length c_v1, .slice a_v2 y3.cancelled.length c_v2] 48 (0, 0)) :: vecC 3 1 a_v0 c_v0 x0.length cs_v0 :: vecC 39 4 a_v1 c_v1 y3.bookings.length cs_v1 :: vecC 4 1 a_v2 c_v2 y3.cancelled.length cs_v2 :: R)) (m := fu) ⟨fu, q255, q256, rfl, hq259, hE.pick _ ⟨rfl, rfl, rfl, rfl, rfl, rfl, rfl, rfl, rfl, rfl, trivial⟩, hS⟩ ?_
            clear hE hS a w hq259; rintro m262 a w ⟨n261, q265, q266, rfl, hq259, hE, hS⟩
            refine W.gen fun K267 hK267 => ?_
            rcases n261 with _ | n261
            · rw [SlicessymMergeCmpFuncint_v1.loop5] at hq259; exact absurd hq259 (by simp)
            rw [SlicessymMergeCmpFuncint_v1.loop5] at hq259
            refine W.seq ?_
            refine W.seq ?_
            refine W.region ?_
            refine WL.vS hS hE (runs_plain rfl) (Gives.p hE rfl) rfl ?_; clear hE a; intro a hE
            refine WL.vS hS hE (runs_plain rfl) (Gives.p hE rfl) rfl ?_; clear hE a; intro a hE
            refine WL.vS hS hE (runs_plain rfl) (Gives.p hE rfl) rfl ?_; clear hE a; intro a hE
            refine WL.nil ?_
            refine W.cond hE rfl (fun hc268 => ?_) (fun hc268 => ?_)
            · replace hq259 := iteT hc268 hq259
              refine W.skip ?_
              refine W.block ?_
              refine W.seq ?_
              refine W.region ?_
              refine WL.vS hS hE (runs_plain rfl) (Gives.p hE rfl) rfl ?_; clear hE a; intro a hE
              refine WL.vS hS hE (runs_plain rfl) (Gives.p hE rfl) rfl ?_; clear hE a; intro a hE
              refine WL.vS hS hE (runs_plain rfl) (Gives.p hE rfl) rfl ?_; clear hE a; intro a hE
              refine WL.vS hS hE (runs_plain rfl) (Gives.conv hE rfl hu3 ui71) rfl ?_; clear hE a; intro a hE
              refine WL.vS hS hE (runs_plain rfl) (Gives.shr hE rfl rfl (by decide)) rfl ?_; clear hE a; intro a hE
              refine WL.vS hS hE (runs_plain rfl) (Gives.conv hE rfl hu71 ui3) rfl ?_; clear hE a; intro a hE
              refine WL.vS hS hE (runs_plain rfl) (Gives.p hE rfl) rfl ?_; clear hE a; intro a hE
              refine WL.nil ?_
              refine W.seq ?_
              refine W.regionQ (C := fun w => St w s (pt pb0 (.cells #[.pointer (some ⟨pb3, 0, none⟩)] 23 (0, 0)) :: pt pb1 (.cells #[.int .i64 y1] 3 (0, 0)) :: pt pb2 (.cells #[.int .i64 y2] 3 (0, 0)) :: pt pb3 (.cells #[.int .i64 y3.rows, .int .i64 y3.across, .int .i64 y3.stops, .slice a_v1 y3.bookings.length c_v1, .slice a_v2 y3.cancelled.length c_v2] 48 (0, 0)) :: vecC 3 1 a_v0 c_v0 x0.length cs_v0 :: vecC 39 4 a_v1 c_v1 y3.bookings.length cs_v1 :: vecC 4 1 a_v2 c_v2 y3.cancelled.length cs_v2 :: R)) mixed (by kernel_rfl) hS.drew ?_
              refine QL.v hE (runs_plain rfl) (Gives.p hE rfl) rfl ?_; clear hE a; intro a hE
              refine QL.v hE (runs_plain rfl) (Gives.p hE rfl) rfl ?_; clear hE a; intro a hE
              refine QL.v hE (runs_plain rfl) (Gives.p hE rfl) rfl ?_; clear hE a; intro a hE
              refine QL.v hE (runs_plain rfl) (Gives.p hE rfl) rfl ?_; clear hE a; intro a hE
              refine QL.v hE (runs_plain rfl) (Gives.p hE rfl) rfl ?_; clear hE a; intro a hE
              obtain ⟨x269, hx270, hq259⟩ := bindS hq259
              obtain ⟨hi271, hlt272, hy273⟩ := gx_some hx270
              obtain ⟨vs274, hl275, hR276, hd277, hget278⟩ := h_v0.at hy273
              subst hR276
              refine QL.v hE (runs_plain rfl) (Gives.idx hE ((w64 ((w64 ((w64 ((w64 (Int.fdiv (IntKind.wrap .u64 (w64 (x1 + x3))) (2 ^ (min (Int.toNat 1) (IntKind.bits .u64))))) + x2)) - 1)) - (w64 (Int.fdiv (IntKind.wrap .u64 (w64 (q265 + q266))) (2 ^ (min (Int.toNat 1) (IntKind.bits .u64))))))).toNat) rfl rfl sl22 hi271 (by omega) (hS.vecAok 4 rfl (by omega : (w64 ((w64 ((w64 ((w64 (Int.fdiv (IntKind.wrap .u64 (w64 (x1 + x3))) (2 ^ (min (Int.toNat 1) (IntKind.bits .u64))))) + x2)) - 1)) - (w64 (Int.fdiv (IntKind.wrap .u64 (w64 (q265 + q266))) (2 ^ (min (Int.toNat 1) (IntKind.bits .u64))))))).toNat < x0.length))) rfl ?_; clear hE a; intro a hE
              refine QL.v hE (runs_plain rfl) (Gives.load1 hE rfl (fun w h => St.vecSees h 4 rfl ((w64 ((w64 ((w64 ((w64 (Int.fdiv (IntKind.wrap .u64 (w64 (x1 + x3))) (2 ^ (min (Int.toNat 1) (IntKind.bits .u64))))) + x2)) - 1)) - (w64 (Int.fdiv (IntKind.wrap .u64 (w64 (q265 + q266))) (2 ^ (min (Int.toNat 1) (IntKind.bits .u64))))))).toNat * 1) _ hget278) ty3) rfl ?_; clear hE a; intro a hE
              refine QL.v hE (runs_plain rfl) (Gives.p hE rfl) rfl ?_; clear hE a; intro a hE
              refine QL.v hE (runs_plain rfl) (Gives.p hE rfl) rfl ?_; clear hE a; intro a hE
              obtain ⟨x279, hx280, hq259⟩ := bindS hq259
              obtain ⟨hi281, hlt282, hy283⟩ := gx_some hx280
              obtain ⟨vs284, hl285, hR286, hd287, hget288⟩ := h_v0.at hy283
              subst hR286
              refine QL.v hE (runs_plain rfl) (Gives.idx hE ((w64 (Int.fdiv (IntKind.wrap .u64 (w64 (q265 + q266))) (2 ^ (min (Int.toNat 1) (IntKind.bits .u64))))).toNat) rfl rfl sl22 hi281 (by omega) (hS.vecAok 4 rfl (by omega : (w64 (Int.fdiv (IntKind.wrap .u64 (w64 (q265 + q266))) (2 ^ (min (Int.toNat 1) (IntKind.bits .u64))))).toNat < x0.length))) rfl ?_; clear hE a; intro a hE
              refine QL.v hE (runs_plain rfl) (Gives.load1 hE rfl (fun w h => St.vecSees h 4 rfl ((w64 (Int.fdiv (IntKind.wrap .u64 (w64 (q265 + q266))) (2 ^ (min (Int.toNat 1) (IntKind.bits .u64))))).toNat * 1) _ hget288) ty3) rfl ?_; clear hE a; intro a hE
              obtain ⟨q289, hq290, hq259⟩ := bindS hq259
              refine QL.fnw hE (fun w hS => (FareCarchoose_1_v1_ok (y3 := y3) (St.front (St.front (St.front (St.front (St.front (St.front hS 6 rfl) 6 rfl) 5 rfl) 5 rfl) 5 rfl) 5 rfl) h_v1 (rfl) h_v2 (rfl) hq290).mono fun _ _ ⟨he, hq⟩ => ⟨he, (St.unfront 6 rfl (St.unfront 6 rfl (St.unfront 5 rfl (St.unfront 5 rfl (St.unfront 5 rfl (St.unfront 5 rfl hq))))))⟩) rfl (runs_plain rfl) bd33 rfl rfl rfl ?_; clear hE a; intro a hE
              refine QL.v hE (runs_plain rfl) (Gives.p hE rfl) rfl ?_; clear hE a; intro a hE
              refine QL.v hE (runs_plain rfl) (Gives.p hE rfl) rfl ?_; clear hE a; intro a hE
              refine QL.nil ?_; clear hS w; intro w hS
              obtain ⟨q292, hq291, hq259⟩ := bndS hq259
              refine W.cut (fun a w => ∃ (q295 : Int), ∃ (q296 : Int), (q295, q296) = q292 ∧ Rep a 220 [(0, .slice a_v0 x0.length c_v0), (1, .int .i64 x1), (2, .int .i64 x2), (3, .int .i64 x3), (4, .func (.func 33) #[] #[.pointer (some ⟨pb0, 0, none⟩), .pointer (some ⟨pb1, 0, none⟩), .pointer (some ⟨pb2, 0, none⟩)]), (18, .int .i64 (w64 (Int.fdiv (IntKind.wrap .u64 (w64 (x1 + x3))) (2 ^ (min (Int.toNat 1) (IntKind.bits .u64)))))), (19, .int .i64 (w64 ((w64 (Int.fdiv (IntKind.wrap .u64 (w64 (x1 + x3))) (2 ^ (min (Int.toNat 1) (IntKind.bits .u64))))) + x2))), (20, .int .i64 q295), (21, .int .i64 q296), (22, .int .i64 (w64 ((w64 ((w64 (Int.fdiv (IntKind.wrap .u64 (w64 (x1 + x3))) (2 ^ (min (Int.toNat 1) (IntKind.bits .u64))))) + x2)) - 1)))] ∧ St w s (pt pb0 (.cells #[.pointer (some ⟨pb3, 0, none⟩)] 23 (0, 0)) :: pt pb1 (.cells #[.int .i64 y1] 3 (0, 0)) :: pt pb2 (.cells #[.int .i64 y2] 3 (0, 0)) :: pt pb3 (.cells #[.int .i64 y3.rows, .int .i64 y3.across, .int .i64 y3.stops, .slice a_v1 y3.bookings.length c_v1, .slice a_v2 y3.cancelled.length c_v2] 48 (0, 0)) :: vecC 3 1 a_v0 c_v0 x0.length cs_v0 :: vecC 39 4 a_v1 c_v1 y3.bookings.length cs_v1 :: vecC 4 1 a_v2 c_v2 y3.cancelled.length cs_v2 :: R)) ?_ ?_
              · refine W.gen fun K297 hK297 => ?_
                refine W.cond hE rfl (fun hc298 => ?_) (fun hc298 => ?_)
                · replace hq291 := iteT hc298 hq291
                  refine W.region ?_
                  refine WL.vS hS hE (runs_plain rfl) (Gives.p hE rfl) rfl ?_; clear hE a; intro a hE
                  refine WL.vS hS hE (runs_plain rfl) (Gives.p hE rfl) rfl ?_; clear hE a; intro a hE
                  refine WL.vS hS hE (runs_plain rfl) (Gives.p hE rfl) rfl ?_; clear hE a; intro a hE
                  refine WL.nil ?_
                  subst hK297
                  exact ⟨w64 ((w64 (Int.fdiv (IntKind.wrap .u64 (w64 (q265 + q266))) (2 ^ (min (Int.toNat 1) (IntKind.bits .u64))))) + 1), q266, hq291, hE.pick _ ⟨rfl, rfl, rfl, rfl, rfl, rfl, rfl, rfl, rfl, rfl, trivial⟩, hS⟩
                · replace hq291 := iteF hc298 hq291
                  refine W.region ?_
                  refine WL.vS hS hE (runs_plain rfl) (Gives.p hE rfl) rfl ?_; clear hE a; intro a hE
                  refine WL.vS hS hE (runs_plain rfl) (Gives.p hE rfl) rfl ?_; clear hE a; intro a hE
                  refine WL.nil ?_
                  subst hK297
                  exact ⟨q265, w64 (Int.fdiv (IntKind.wrap .u64 (w64 (q265 + q266))) (2 ^ (min (Int.toNat 1) (IntKind.bits .u64)))), hq291, hE.pick _ ⟨rfl, rfl, rfl, rfl, rfl, rfl, rfl, rfl, rfl, rfl, trivial⟩, hS⟩
              · clear hE hS a w; rintro a w ⟨q295, q296, rfl, hE, hS⟩
                dsimp only at hq259
                subst hK267
                exact ⟨n261, Nat.lt_succ_self _, n261, q295, q296, rfl, hq259, hE.pick _ ⟨rfl, rfl, rfl, rfl, rfl, rfl, rfl, rfl, rfl, rfl, trivial⟩, hS⟩
            · replace hq259 := iteF hc268 hq259
              subst hK267
              refine W.exit rfl ?_
              exact ⟨q265, q266, Option.some.inj hq259, hE.pick _ ⟨rfl, rfl, rfl, rfl, rfl, rfl, rfl, rfl, trivial⟩, hS⟩
          · clear hE hS a w; rintro a w ⟨q265, q266, rfl, hE, hS⟩
            dsimp only at hr
            refine W.seq ?_
            refine W.region ?_
            refine WL.vS hS hE (runs_plain rfl) (Gives.p hE rfl) rfl ?_; clear hE a; intro a hE
            refine WL.vS hS hE (runs_plain rfl) (Gives.p hE rfl) rfl ?_; clear hE a; intro a hE
            refine WL.vS hS hE (runs_plain rfl) (Gives.p hE rfl) rfl ?_; clear hE a; intro a hE
            refine WL.vS hS hE (runs_plain rfl) (Gives.p hE rfl) rfl ?_; clear hE a; intro a hE
            refine WL.nil ?_
            refine W.seq ?_
            refine W.seq ?_
            obtain ⟨q300, hq299, hr⟩ := bndS hr
            refine W.cut (fun a w => ∃ (q303 : Bool), q303 = q300 ∧ Rep a 220 [(0, .slice a_v0 x0.length c_v0), (1, .int .i64 x1), (2, .int .i64 x2), (3, .int .i64 x3), (4, .func (.func 33) #[] #[.pointer (some ⟨pb0, 0, none⟩), .pointer (some ⟨pb1, 0, none⟩), .pointer (some ⟨pb2, 0, none⟩)]), (18, .int .i64 (w64 (Int.fdiv (IntKind.wrap .u64 (w64 (x1 + x3))) (2 ^ (min (Int.toNat 1) (IntKind.bits .u64)))))), (20, .int .i64 q265), (24, .int .i64 (w64 ((w64 ((w64 (Int.fdiv (IntKind.wrap .u64 (w64 (x1 + x3))) (2 ^ (min (Int.toNat 1) (IntKind.bits .u64))))) + x2)) - q265))), (185, .bool q303)] ∧ St w s (pt pb0 (.cells #[.pointer (some ⟨pb3, 0, none⟩)] 23 (0, 0)) :: pt pb1 (.cells #[.int .i64 y1] 3 (0, 0)) :: pt pb2 (.cells #[.int .i64 y2] 3 (0, 0)) :: pt pb3 (.cells #[.int .i64 y3.rows, .int .i64 y3.across, .int .i64 y3.stops, .slice a_v1 y3.bookings.length c_v1, .slice a_v2 y3.cancelled.length c_v2] 48 (0, 0)) :: vecC 3 1 a_v0 c_v0 x0.length cs_v0 :: vecC 39 4 a_v1 c_v1 y3.bookings.length cs_v1 :: vecC 4 1 a_v2 c_v2 y3.cancelled.length cs_v2 :: R)) ?_ ?_
            · refine W.gen fun K304 hK304 => ?_
              refine W.region ?_
              refine WL.vS hS hE (runs_plain rfl) (Gives.p hE rfl) rfl ?_; clear hE a; intro a hE
              refine WL.vS hS hE (runs_plain rfl) (Gives.p hE rfl) rfl ?_; clear hE a; intro a hE
              refine WL.vS hS hE (runs_plain rfl) (Gives.p hE rfl) rfl ?_; clear hE a; intro a hE
              refine WL.vS hS hE (runs_plain rfl) (Gives.p hE rfl) rfl ?_; clear hE a; intro a hE
              rcases Bool.eq_false_or_eq_true (decide (q265 < x2)) with hg305 | hg305
              · replace hq299 := iteT hg305 hq299
                refine WL.vS hS hE (runs_if hE rfl rfl rfl hg305) (Gives.p hE rfl) rfl ?_; clear hE a; intro a hE
                refine WL.vS hS hE (runs_if hE rfl rfl rfl hg305) (Gives.p hE rfl) rfl ?_; clear hE a; intro a hE
                refine WL.vS hS hE (runs_if hE rfl rfl rfl hg305) (Gives.p hE rfl) rfl ?_; clear hE a; intro a hE
                refine WL.vS hS hE (runs_plain rfl) (Gives.pickT hE rfl hg305 rfl) rfl ?_; clear hE a; intro a hE
                refine WL.nil ?_
                subst hK304
                exact ⟨decide (x2 < (w64 ((w64 ((w64 (Int.fdiv (IntKind.wrap .u64 (w64 (x1 + x3))) (2 ^ (min (Int.toNat 1) (IntKind.bits .u64))))) + x2)) - q265))), hq299, hE.pick _ ⟨rfl, rfl, rfl, rfl, rfl, rfl, rfl, rfl, rfl, trivial⟩, hS⟩
              · replace hq299 := iteF hg305 hq299
                refine WL.no hE (runs_not hE rfl rfl rfl (by rw [hg305]; decide)) rfl ?_; clear hE a; intro a hE
                refine WL.no hE (runs_not hE rfl rfl rfl (by rw [hg305]; decide)) rfl ?_; clear hE a; intro a hE
                refine WL.no hE (runs_not hE rfl rfl rfl (by rw [hg305]; decide)) rfl ?_; clear hE a; intro a hE
                refine WL.vS hS hE (runs_plain rfl) (Gives.pickF hE rfl hg305 rfl) rfl ?_; clear hE a; intro a hE
                refine WL.nil ?_
                subst hK304
                exact ⟨false, hq299, hE.pick _ ⟨rfl, rfl, rfl, rfl, rfl, rfl, rfl, rfl, rfl, trivial⟩, hS⟩
            · clear hE hS a w; rintro a w ⟨q303, rfl, hE, hS⟩
              refine W.cond hE rfl (fun hc306 => ?_) (fun hc306 => ?_)
              · replace hr := iteT hc306 hr
                refine W.region ?_
                refine WL.vS hS hE (runs_plain rfl) (Gives.p hE rfl) rfl ?_; clear hE a; intro a hE
                refine WL.vS hS hE (runs_plain rfl) (Gives.p hE rfl) rfl ?_; clear hE a; intro a hE
                refine WL.vS hS hE (runs_plain rfl) (Gives.p hE rfl) rfl ?_; clear hE a; intro a hE
                refine WL.vS hS hE (runs_plain rfl) (Gives.p hE rfl) rfl ?_; clear hE a; intro a hE
                refine WL.vS hS hE (runs_plain rfl) (Gives.p hE rfl) rfl ?_; clear hE a; intro a hE
                obtain ⟨q307, hq308, hr⟩ := bindS hr
                have hc_ := SlicesrotateCmpFuncint_v1_ok (y3 := y3) hS h_v0 (rfl) h_v1 (rfl) h_v2 (rfl) hq308
                refine WL.fnq hE (hc_) (runs_plain rfl) bd59 rfl rfl rfl ?_
                clear hE hS hc_; rintro e w ⟨cs309, rfl, h310, hn311, hS⟩; refine ⟨_, rfl, ?_⟩; clear a; intro a hE
                refine WL.nil ?_
                refine W.seq ?_
                refine W.seq ?_
                obtain ⟨q313, hq312, hr⟩ := bndS hr
                refine W.cut (fun a w => ∃ (q316 : Bool), q316 = q313 ∧ Rep a 220 [(0, .slice a_v0 x0.length c_v0), (1, .int .i64 x1), (3, .int .i64 x3), (4, .func (.func 33) #[] #[.pointer (some ⟨pb0, 0, none⟩), .pointer (some ⟨pb1, 0, none⟩), .pointer (some ⟨pb2, 0, none⟩)]), (18, .int .i64 (w64 (Int.fdiv (IntKind.wrap .u64 (w64 (x1 + x3))) (2 ^ (min (Int.toNat 1) (IntKind.bits .u64)))))), (20, .int .i64 q265), (24, .int .i64 (w64 ((w64 ((w64 (Int.fdiv (IntKind.wrap .u64 (w64 (x1 + x3))) (2 ^ (min (Int.toNat 1) (IntKind.bits .u64))))) + x2)) - q265))), (199, .bool q316)] ∧ St w s (pt pb0 (.cells #[.pointer (some ⟨pb3, 0, none⟩)] 23 (0, 0)) :: pt pb1 (.cells #[.int .i64 y1] 3 (0, 0)) :: pt pb2 (.cells #[.int .i64 y2] 3 (0, 0)) :: pt pb3 (.cells #[.int .i64 y3.rows, .int .i64 y3.across, .int .i64 y3.stops, .slice a_v1 y3.bookings.length c_v1, .slice a_v2 y3.cancelled.length c_v2] 48 (0, 0)) :: vecC 3 1 a_v0 c_v0 x0.length cs309 :: vecC 39 4 a_v1 c_v1 y3.bookings.length cs_v1 :: vecC 4 1 a_v2 c_v2 y3.cancelled.length cs_v2 :: R)) ?_ ?_
                · refine W.gen fun K317 hK317 => ?_
                  refine W.region ?_
                  refine WL.vS hS hE (runs_plain rfl) (Gives.p hE rfl) rfl ?_; clear hE a; intro a hE
                  refine WL.vS hS hE (runs_plain rfl) (Gives.p hE rfl) rfl ?_; clear hE a; intro a hE
                  refine WL.vS hS hE (runs_plain rfl) (Gives.p hE rfl) rfl ?_; clear hE a; intro a hE
                  refine WL.vS hS hE (runs_plain rfl) (Gives.p hE rfl) rfl ?_; clear hE a; intro a hE
                  rcases Bool.eq_false_or_eq_true (decide (x1 < q265)) with hg318 | hg318
                  · replace hq312 := iteT hg318 hq312
                    refine WL.vS hS hE (runs_if hE rfl rfl rfl hg318) (Gives.p hE rfl) rfl ?_; clear hE a; intro a hE
                    refine WL.vS hS hE (runs_if hE rfl rfl rfl hg318) (Gives.p hE rfl) rfl ?_; clear hE a; intro a hE
                    refine WL.vS hS hE (runs_if hE rfl rfl rfl hg318) (Gives.p hE rfl) rfl ?_; clear hE a; intro a hE
                    refine WL.vS hS hE (runs_plain rfl) (Gives.pickT hE rfl hg318 rfl) rfl ?_; clear hE a; intro a hE
                    refine WL.nil ?_
                    subst hK317
                    exact ⟨decide (q265 < (w64 (Int.fdiv (IntKind.wrap .u64 (w64 (x1 + x3))) (2 ^ (min (Int.toNat 1) (IntKind.bits .u64)))))), hq312, hE.pick _ ⟨rfl, rfl, rfl, rfl, rfl, rfl, rfl, rfl, trivial⟩, hS⟩
                  · replace hq312 := iteF hg318 hq312
                    refine WL.no hE (runs_not hE rfl rfl rfl (by rw [hg318]; decide)) rfl ?_; clear hE a; intro a hE
                    refine WL.no hE (runs_not hE rfl rfl rfl (by rw [hg318]; decide)) rfl ?_; clear hE a; intro a hE
                    refine WL.no hE (runs_not hE rfl rfl rfl (by rw [hg318]; decide)) rfl ?_; clear hE a; intro a hE
                    refine WL.vS hS hE (runs_plain rfl) (Gives.pickF hE rfl hg318 rfl) rfl ?_; clear hE a; intro a hE
                    refine WL.nil ?_
                    subst hK317
                    exact ⟨false, hq312, hE.pick _ ⟨rfl, rfl, rfl, rfl, rfl, rfl, rfl, rfl, trivial⟩, hS⟩
                · clear hE hS a w; rintro a w ⟨q316, rfl, hE, hS⟩
                  refine W.cond hE rfl (fun hc319 => ?_) (fun hc319 => ?_)
                  · replace hr := iteT hc319 hr
                    refine W.region ?_
                    refine WL.vS hS hE (runs_plain rfl) (Gives.p hE rfl) rfl ?_; clear hE a; intro a hE
                    refine WL.vS hS hE (runs_plain rfl) (Gives.p hE rfl) rfl ?_; clear hE a; intro a hE
                    refine WL.vS hS hE (runs_plain rfl) (Gives.p hE rfl) rfl ?_; clear hE a; intro a hE
                    refine WL.vS hS hE (runs_plain rfl) (Gives.p hE rfl) rfl ?_; clear hE a; intro a hE
                    refine WL.vS hS hE (runs_plain rfl) (Gives.p hE rfl) rfl ?_; clear hE a; intro a hE
                    obtain ⟨q320, hq321, hr⟩ := bindS hr
                    have hc_ := ih_SlicessymMergeCmpFuncint_v1 (y3 := y3) hS h310 hn311 h_v1 (rfl) h_v2 (rfl) hq321
                    refine WL.fnq hE (hc_) (runs_plain rfl) bd47 rfl rfl rfl ?_
                    clear hE hS hc_; rintro e w ⟨cs322, rfl, h323, hn324, hS⟩; refine ⟨_, rfl, ?_⟩; clear a; intro a hE
                    refine WL.nil ?_
                    refine W.seq ?_
                    obtain ⟨q326, hq325, hr⟩ := bndS hr
                    refine W.cut (fun a w => ∃ (q329 : Bool), q329 = q326 ∧ Rep a 220 [(0, .slice a_v0 x0.length c_v0), (3, .int .i64 x3), (4, .func (.func 33) #[] #[.pointer (some ⟨pb0, 0, none⟩), .pointer (some ⟨pb1, 0, none⟩), .pointer (some ⟨pb2, 0, none⟩)]), (18, .int .i64 (w64 (Int.fdiv (IntKind.wrap .u64 (w64 (x1 + x3))) (2 ^ (min (Int.toNat 1) (IntKind.bits .u64)))))), (24, .int .i64 (w64 ((w64 ((w64 (Int.fdiv (IntKind.wrap .u64 (w64 (x1 + x3))) (2 ^ (min (Int.toNat 1) (IntKind.bits .u64))))) + x2)) - q265))), (213, .bool q329)] ∧ St w s (pt pb0 (.cells #[.pointer (some ⟨pb3, 0, none⟩)] 23 (0, 0)) :: pt pb1 (.cells #[.int .i64 y1] 3 (0, 0)) :: pt pb2 (.cells #[.int .i64 y2] 3 (0, 0)) :: pt pb3 (.cells #[.int .i64 y3.rows, .int .i64 y3.across, .int .i64 y3.stops, .slice a_v1 y3.bookings.length c_v1, .slice a_v2 y3.cancelled.length c_v2] 48 (0, 0)) :: vecC 3 1 a_v0 c_v0 x0.length cs322 :: vecC 39 4 a_v1 c_v1 y3.bookings.length cs_v1 :: vecC 4 1 a_v2 c_v2 y3.cancelled.length cs_v2 :: R)) ?_ ?_
                    · refine W.gen fun K330 hK330 => ?_
                      refine W.region ?_
                      refine WL.vS hS hE (runs_plain rfl) (Gives.p hE rfl) rfl ?_; clear hE a; intro a hE
                      refine WL.vS hS hE (runs_plain rfl) (Gives.p hE rfl) rfl ?_; clear hE a; intro a hE
                      refine WL.vS hS hE (runs_plain rfl) (Gives.p hE rfl) rfl ?_; clear hE a; intro a hE
                      refine WL.vS hS hE (runs_plain rfl) (Gives.p hE rfl) rfl ?_; clear hE a; intro a hE
                      rcases Bool.eq_false_or_eq_true (decide ((w64 (Int.fdiv (IntKind.wrap .u64 (w64 (x1 + x3))) (2 ^ (min (Int.toNat 1) (IntKind.bits .u64))))) < (w64 ((w64 ((w64 (Int.fdiv (IntKind.wrap .u64 (w64 (x1 + x3))) (2 ^ (min (Int.toNat 1) (IntKind.bits .u64))))) + x2)) - q265)))) with hg331 | hg331
                      · replace hq325 := iteT hg331 hq325
                        refine WL.vS hS hE (runs_if hE rfl rfl rfl hg331) (Gives.p hE rfl) rfl ?_; clear hE a; intro a hE
                        refine WL.vS hS hE (runs_if hE rfl rfl rfl hg331) (Gives.p hE rfl) rfl ?_; clear hE a; intro a hE
                        refine WL.vS hS hE (runs_if hE rfl rfl rfl hg331) (Gives.p hE rfl) rfl ?_; clear hE a; intro a hE
                        refine WL.vS hS hE (runs_plain rfl) (Gives.pickT hE rfl hg331 rfl) rfl ?_; clear hE a; intro a hE
                        refine WL.nil ?_
                        subst hK330
                        exact ⟨decide ((w64 ((w64 ((w64 (Int.fdiv (IntKind.wrap .u64 (w64 (x1 + x3))) (2 ^ (min (Int.toNat 1) (IntKind.bits .u64))))) + x2)) - q265)) < x3), hq325, hE.pick _ ⟨rfl, rfl, rfl, rfl, rfl, rfl, trivial⟩, hS⟩
                      · replace hq325 := iteF hg331 hq325
                        refine WL.no hE (runs_not hE rfl rfl rfl (by rw [hg331]; decide)) rfl ?_; clear hE a; intro a hE
                        refine WL.no hE (runs_not hE rfl rfl rfl (by rw [hg331]; decide)) rfl ?_; clear hE a; intro a hE
                        refine WL.no hE (runs_not hE rfl rfl rfl (by rw [hg331]; decide)) rfl ?_; clear hE a; intro a hE
                        refine WL.vS hS hE (runs_plain rfl) (Gives.pickF hE rfl hg331 rfl) rfl ?_; clear hE a; intro a hE
                        refine WL.nil ?_
                        subst hK330
                        exact ⟨false, hq325, hE.pick _ ⟨rfl, rfl, rfl, rfl, rfl, rfl, trivial⟩, hS⟩
                    · clear hE hS a w; rintro a w ⟨q329, rfl, hE, hS⟩
                      refine W.cond hE rfl (fun hc332 => ?_) (fun hc332 => ?_)
                      · replace hr := iteT hc332 hr
                        refine W.region ?_
                        refine WL.vS hS hE (runs_plain rfl) (Gives.p hE rfl) rfl ?_; clear hE a; intro a hE
                        refine WL.vS hS hE (runs_plain rfl) (Gives.p hE rfl) rfl ?_; clear hE a; intro a hE
                        refine WL.vS hS hE (runs_plain rfl) (Gives.p hE rfl) rfl ?_; clear hE a; intro a hE
                        refine WL.vS hS hE (runs_plain rfl) (Gives.p hE rfl) rfl ?_; clear hE a; intro a hE
                        refine WL.vS hS hE (runs_plain rfl) (Gives.p hE rfl) rfl ?_; clear hE a; intro a hE
                        obtain ⟨q333, hq334, hr⟩ := bindS hr
                        have hc_ := ih_SlicessymMergeCmpFuncint_v1 (y3 := y3) hS h323 hn324 h_v1 (rfl) h_v2 (rfl) hq334
                        refine WL.fnq hE (hc_) (runs_plain rfl) bd47 rfl rfl rfl ?_
                        clear hE hS hc_; rintro e w ⟨cs335, rfl, h336, hn337, hS⟩; refine ⟨_, rfl, ?_⟩; clear a; intro a hE
                        refine WL.nil ?_
                        refine finG (fn := Try.f47) (rs := []) (vs := []) hE rfl trivial ?_
                        obtain rfl := Option.some.inj hr
                        exact ⟨cs335, rfl, h336, hn337, hS⟩
                      · replace hr := iteF hc332 hr
                        refine W.skip ?_
                        refine finG (fn := Try.f47) (rs := []) (vs := []) hE rfl trivial ?_
                        obtain rfl := Option.some.inj hr
                        exact ⟨cs322, rfl, h323, hn324, hS⟩
                  · replace hr := iteF hc319 hr
                    refine W.skip ?_
                    refine W.seq ?_
                    obtain ⟨q339, hq338, hr⟩ := bndS hr
                    refine W.cut (fun a w => ∃ (q342 : Bool), q342 = q339 ∧ Rep a 220 [(0, .slice a_v0 x0.length c_v0), (3, .int .i64 x3), (4, .func (.func 33) #[] #[.pointer (some ⟨pb0, 0, none⟩), .pointer (some ⟨pb1, 0, none⟩), .pointer (some ⟨pb2, 0, none⟩)]), (18, .int .i64 (w64 (Int.fdiv (IntKind.wrap .u64 (w64 (x1 + x3))) (2 ^ (min (Int.toNat 1) (IntKind.bits .u64)))))), (24, .int .i64 (w64 ((w64 ((w64 (Int.fdiv (IntKind.wrap .u64 (w64 (x1 + x3))) (2 ^ (min (Int.toNat 1) (IntKind.bits .u64))))) + x2)) - q265))), (213, .bool q342)] ∧ St w s (pt pb0 (.cells #[.pointer (some ⟨pb3, 0, none⟩)] 23 (0, 0)) :: pt pb1 (.cells #[.int .i64 y1] 3 (0, 0)) :: pt pb2 (.cells #[.int .i64 y2] 3 (0, 0)) :: pt pb3 (.cells #[.int .i64 y3.rows, .int .i64 y3.across, .int .i64 y3.stops, .slice a_v1 y3.bookings.length c_v1, .slice a_v2 y3.cancelled.length c_v2] 48 (0, 0)) :: vecC 3 1 a_v0 c_v0 x0.length cs309 :: vecC 39 4 a_v1 c_v1 y3.bookings.length cs_v1 :: vecC 4 1 a_v2 c_v2 y3.cancelled.length cs_v2 :: R)) ?_ ?_
                    · refine W.gen fun K343 hK343 => ?_
                      refine W.region ?_
                      refine WL.vS hS hE (runs_plain rfl) (Gives.p hE rfl) rfl ?_; clear hE a; intro a hE
                      refine WL.vS hS hE (runs_plain rfl) (Gives.p hE rfl) rfl ?_; clear hE a; intro a hE
                      refine WL.vS hS hE (runs_plain rfl) (Gives.p hE rfl) rfl ?_; clear hE a; intro a hE
                      refine WL.vS hS hE (runs_plain rfl) (Gives.p hE rfl) rfl ?_; clear hE a; intro a hE
                      rcases Bool.eq_false_or_eq_true (decide ((w64 (Int.fdiv (IntKind.wrap .u64 (w64 (x1 + x3))) (2 ^ (min (Int.toNat 1) (IntKind.bits .u64))))) < (w64 ((w64 ((w64 (Int.fdiv (IntKind.wrap .u64 (w64 (x1 + x3))) (2 ^ (min (Int.toNat 1) (IntKind.bits .u64))))) + x2)) - q265)))) with hg344 | hg344
                      · replace hq338 := iteT hg344 hq338
                        refine WL.vS hS hE (runs_if hE rfl rfl rfl hg344) (Gives.p hE rfl) rfl ?_; clear hE a; intro a hE
                        refine WL.vS hS hE (runs_if hE rfl rfl rfl hg344) (Gives.p hE rfl) rfl ?_; clear hE a; intro a hE
                        refine WL.vS hS hE (runs_if hE rfl rfl rfl hg344) (Gives.p hE rfl) rfl ?_; clear hE a; intro a hE
                        refine WL.vS hS hE (runs_plain rfl) (Gives.pickT hE rfl hg344 rfl) rfl ?_; clear hE a; intro a hE
                        refine WL.nil ?_
                        subst hK343
                        exact ⟨decide ((w64 ((w64 ((w64 (Int.fdiv (IntKind.wrap .u64 (w64 (x1 + x3))) (2 ^ (min (Int.toNat 1) (IntKind.bits .u64))))) + x2)) - q265)) < x3), hq338, hE.pick _ ⟨rfl, rfl, rfl, rfl, rfl, rfl, trivial⟩, hS⟩
                      · replace hq338 := iteF hg344 hq338
                        refine WL.no hE (runs_not hE rfl rfl rfl (by rw [hg344]; decide)) rfl ?_; clear hE a; intro a hE
                        refine WL.no hE (runs_not hE rfl rfl rfl (by rw [hg344]; decide)) rfl ?_; clear hE a; intro a hE
                        refine WL.no hE (runs_not hE rfl rfl rfl (by rw [hg344]; decide)) rfl ?_; clear hE a; intro a hE
                        refine WL.vS hS hE (runs_plain rfl) (Gives.pickF hE rfl hg344 rfl) rfl ?_; clear hE a; intro a hE
                        refine WL.nil ?_
                        subst hK343
                        exact ⟨false, hq338, hE.pick _ ⟨rfl, rfl, rfl, rfl, rfl, rfl, trivial⟩, hS⟩
                    · clear hE hS a w; rintro a w ⟨q342, rfl, hE, hS⟩
                      refine W.cond hE rfl (fun hc345 => ?_) (fun hc345 => ?_)
                      · replace hr := iteT hc345 hr
                        refine W.region ?_
                        refine WL.vS hS hE (runs_plain rfl) (Gives.p hE rfl) rfl ?_; clear hE a; intro a hE
                        refine WL.vS hS hE (runs_plain rfl) (Gives.p hE rfl) rfl ?_; clear hE a; intro a hE
                        refine WL.vS hS hE (runs_plain rfl) (Gives.p hE rfl) rfl ?_; clear hE a; intro a hE
                        refine WL.vS hS hE (runs_plain rfl) (Gives.p hE rfl) rfl ?_; clear hE a; intro a hE
                        refine WL.vS hS hE (runs_plain rfl) (Gives.p hE rfl) rfl ?_; clear hE a; intro a hE
                        obtain ⟨q346, hq347, hr⟩ := bindS hr
                        have hc_ := ih_SlicessymMergeCmpFuncint_v1 (y3 := y3) hS h310 hn311 h_v1 (rfl) h_v2 (rfl) hq347
                        refine WL.fnq hE (hc_) (runs_plain rfl) bd47 rfl rfl rfl ?_
                        clear hE hS hc_; rintro e w ⟨cs348, rfl, h349, hn350, hS⟩; refine ⟨_, rfl, ?_⟩; clear a; intro a hE
                        refine WL.nil ?_
                        refine finG (fn := Try.f47) (rs := []) (vs := []) hE rfl trivial ?_
                        obtain rfl := Option.some.inj hr
                        exact ⟨cs348, rfl, h349, hn350, hS⟩
                      · replace hr := iteF hc345 hr
                        refine W.skip ?_
                        refine finG (fn := Try.f47) (rs := []) (vs := []) hE rfl trivial ?_
                        obtain rfl := Option.some.inj hr
                        exact ⟨cs309, rfl, h310, hn311, hS⟩
              · replace hr := iteF hc306 hr
                refine W.skip ?_
                refine W.seq ?_
                refine W.seq ?_
                obtain ⟨q352, hq351, hr⟩ := bndS hr
                refine W.cut (fun a w => ∃ (q355 : Bool), q355 = q352 ∧ Rep a 220 [(0, .slice a_v0 x0.length c_v0), (1, .int .i64 x1), (3, .int .i64 x3), (4, .func (.func 33) #[] #[.pointer (some ⟨pb0, 0, none⟩), .pointer (some ⟨pb1, 0, none⟩), .pointer (some ⟨pb2, 0, none⟩)]), (18, .int .i64 (w64 (Int.fdiv (IntKind.wrap .u64 (w64 (x1 + x3))) (2 ^ (min (Int.toNat 1) (IntKind.bits .u64)))))), (20, .int .i64 q265), (24, .int .i64 (w64 ((w64 ((w64 (Int.fdiv (IntKind.wrap .u64 (w64 (x1 + x3))) (2 ^ (min (Int.toNat 1) (IntKind.bits .u64))))) + x2)) - q265))), (199, .bool q355)] ∧ St w s (pt pb0 (.cells #[.pointer (some ⟨pb3, 0, none⟩)] 23 (0, 0)) :: pt pb1 (.cells #[.int .i64 y1] 3 (0, 0)) :: pt pb2 (.cells #[.int .i64 y2] 3 (0, 0)) :: pt pb3 (.cells #[.int .i64 y3.rows, .int .i64 y3.across, .int .i64 y3.stops, .slice a_v1 y3.bookings.length c_v1, .slice a_v2 y3.cancelled.length c_v2] 48 (0, 0)) :: vecC 3 1 a_v0 c_v0 x0.length cs_v0 :: vecC 39 4 a_v1 c_v1 y3.bookings.length cs_v1 :: vecC 4 1 a_v2 c_v2 y3.cancelled.length cs_v2 :: R)) ?_ ?_
                · refine W.gen fun K356 hK356 => ?_
                  refine W.region ?_
                  refine WL.vS hS hE (runs_plain rfl) (Gives.p hE rfl) rfl ?_; clear hE a; intro a hE
                  refine WL.vS hS hE (runs_plain rfl) (Gives.p hE rfl) rfl ?_; clear hE a; intro a hE
                  refine WL.vS hS hE (runs_plain rfl) (Gives.p hE rfl) rfl ?_; clear hE a; intro a hE
                  refine WL.vS hS hE (runs_plain rfl) (Gives.p hE rfl) rfl ?_; clear hE a; intro a hE
                  rcases Bool.eq_false_or_eq_true (decide (x1 < q265)) with hg357 | hg357
                  · replace hq351 := iteT hg357 hq351
                    refine WL.vS hS hE (runs_if hE rfl rfl rfl hg357) (Gives.p hE rfl) rfl ?_; clear hE a; intro a hE
                    refine WL.vS hS hE (runs_if hE rfl rfl rfl hg357) (Gives.p hE rfl) rfl ?_; clear hE a; intro a hE
                    refine WL.vS hS hE (runs_if hE rfl rfl rfl hg357) (Gives.p hE rfl) rfl ?_; clear hE a; intro a hE
                    refine WL.vS hS hE (runs_plain rfl) (Gives.pickT hE rfl hg357 rfl) rfl ?_; clear hE a; intro a hE
                    refine WL.nil ?_
                    subst hK356
                    exact ⟨decide (q265 < (w64 (Int.fdiv (IntKind.wrap .u64 (w64 (x1 + x3))) (2 ^ (min (Int.toNat 1) (IntKind.bits .u64)))))), hq351, hE.pick _ ⟨rfl, rfl, rfl, rfl, rfl, rfl, rfl, rfl, trivial⟩, hS⟩
                  · replace hq351 := iteF hg357 hq351
                    refine WL.no hE (runs_not hE rfl rfl rfl (by rw [hg357]; decide)) rfl ?_; clear hE a; intro a hE
                    refine WL.no hE (runs_not hE rfl rfl rfl (by rw [hg357]; decide)) rfl ?_; clear hE a; intro a hE
                    refine WL.no hE (runs_not hE rfl rfl rfl (by rw [hg357]; decide)) rfl ?_; clear hE a; intro a hE
                    refine WL.vS hS hE (runs_plain rfl) (Gives.pickF hE rfl hg357 rfl) rfl ?_; clear hE a; intro a hE
                    refine WL.nil ?_
                    subst hK356
                    exact ⟨false, hq351, hE.pick _ ⟨rfl, rfl, rfl, rfl, rfl, rfl, rfl, rfl, trivial⟩, hS⟩
                · clear hE hS a w; rintro a w ⟨q355, rfl, hE, hS⟩
                  refine W.cond hE rfl (fun hc358 => ?_) (fun hc358 => ?_)
                  · replace hr := iteT hc358 hr
                    refine W.region ?_
                    refine WL.vS hS hE (runs_plain rfl) (Gives.p hE rfl) rfl ?_; clear hE a; intro a hE
                    refine WL.vS hS hE (runs_plain rfl) (Gives.p hE rfl) rfl ?_; clear hE a; intro a hE
                    refine WL.vS hS hE (runs_plain rfl) (Gives.p hE rfl) rfl ?_; clear hE a; intro a hE
                    refine WL.vS hS hE (runs_plain rfl) (Gives.p hE rfl) rfl ?_; clear hE a; intro a hE
                    refine WL.vS hS hE (runs_plain rfl) (Gives.p hE rfl) rfl ?_; clear hE a; intro a hE
                    obtain ⟨q359, hq360, hr⟩ := bindS hr
                    have hc_ := ih_SlicessymMergeCmpFuncint_v1 (y3 := y3) hS h_v0 (rfl) h_v1 (rfl) h_v2 (rfl) hq360
                    refine WL.fnq hE (hc_) (runs_plain rfl) bd47 rfl rfl rfl ?_
                    clear hE hS hc_; rintro e w ⟨cs361, rfl, h362, hn363, hS⟩; refine ⟨_, rfl, ?_⟩; clear a; intro a hE
                    refine WL.nil ?_
                    refine W.seq ?_
                    obtain ⟨q365, hq364, hr⟩ := bndS hr
                    refine W.cut (fun a w => ∃ (q368 : Bool), q368 = q365 ∧ Rep a 220 [(0, .slice a_v0 x0.length c_v0), (3, .int .i64 x3), (4, .func (.func 33) #[] #[.pointer (some ⟨pb0, 0, none⟩), .pointer (some ⟨pb1, 0, none⟩), .pointer (some ⟨pb2, 0, none⟩)]), (18, .int .i64 (w64 (Int.fdiv (IntKind.wrap .u64 (w64 (x1 + x3))) (2 ^ (min (Int.toNat 1) (IntKind.bits .u64)))))), (24, .int .i64 (w64 ((w64 ((w64 (Int.fdiv (IntKind.wrap .u64 (w64 (x1 + x3))) (2 ^ (min (Int.toNat 1) (IntKind.bits .u64))))) + x2)) - q265))), (213, .bool q368)] ∧ St w s (pt pb0 (.cells #[.pointer (some ⟨pb3, 0, none⟩)] 23 (0, 0)) :: pt pb1 (.cells #[.int .i64 y1] 3 (0, 0)) :: pt pb2 (.cells #[.int .i64 y2] 3 (0, 0)) :: pt pb3 (.cells #[.int .i64 y3.rows, .int .i64 y3.across, .int .i64 y3.stops, .slice a_v1 y3.bookings.length c_v1, .slice a_v2 y3.cancelled.length c_v2] 48 (0, 0)) :: vecC 3 1 a_v0 c_v0 x0.length cs361 :: vecC 39 4 a_v1 c_v1 y3.bookings.length cs_v1 :: vecC 4 1 a_v2 c_v2 y3.cancelled.length cs_v2 :: R)) ?_ ?_
                    · refine W.gen fun K369 hK369 => ?_
                      refine W.region ?_
                      refine WL.vS hS hE (runs_plain rfl) (Gives.p hE rfl) rfl ?_; clear hE a; intro a hE
                      refine WL.vS hS hE (runs_plain rfl) (Gives.p hE rfl) rfl ?_; clear hE a; intro a hE
                      refine WL.vS hS hE (runs_plain rfl) (Gives.p hE rfl) rfl ?_; clear hE a; intro a hE
                      refine WL.vS hS hE (runs_plain rfl) (Gives.p hE rfl) rfl ?_; clear hE a; intro a hE
                      rcases Bool.eq_false_or_eq_true (decide ((w64 (Int.fdiv (IntKind.wrap .u64 (w64 (x1 + x3))) (2 ^ (min (Int.toNat 1) (IntKind.bits .u64))))) < (w64 ((w64 ((w64 (Int.fdiv (IntKind.wrap .u64 (w64 (x1 + x3))) (2 ^ (min (Int.toNat 1) (IntKind.bits .u64))))) + x2)) - q265)))) with hg370 | hg370
                      · replace hq364 := iteT hg370 hq364
                        refine WL.vS hS hE (runs_if hE rfl rfl rfl hg370) (Gives.p hE rfl) rfl ?_; clear hE a; intro a hE
                        refine WL.vS hS hE (runs_if hE rfl rfl rfl hg370) (Gives.p hE rfl) rfl ?_; clear hE a; intro a hE
                        refine WL.vS hS hE (runs_if hE rfl rfl rfl hg370) (Gives.p hE rfl) rfl ?_; clear hE a; intro a hE
                        refine WL.vS hS hE (runs_plain rfl) (Gives.pickT hE rfl hg370 rfl) rfl ?_; clear hE a; intro a hE
                        refine WL.nil ?_
                        subst hK369
                        exact ⟨decide ((w64 ((w64 ((w64 (Int.fdiv (IntKind.wrap .u64 (w64 (x1 + x3))) (2 ^ (min (Int.toNat 1) (IntKind.bits .u64))))) + x2)) - q265)) < x3), hq364, hE.pick _ ⟨rfl, rfl, rfl, rfl, rfl, rfl, trivial⟩, hS⟩
                      · replace hq364 := iteF hg370 hq364
                        refine WL.no hE (runs_not hE rfl rfl rfl (by rw [hg370]; decide)) rfl ?_; clear hE a; intro a hE
                        refine WL.no hE (runs_not hE rfl rfl rfl (by rw [hg370]; decide)) rfl ?_; clear hE a; intro a hE
                        refine WL.no hE (runs_not hE rfl rfl rfl (by rw [hg370]; decide)) rfl ?_; clear hE a; intro a hE
                        refine WL.vS hS hE (runs_plain rfl) (Gives.pickF hE rfl hg370 rfl) rfl ?_; clear hE a; intro a hE
                        refine WL.nil ?_
                        subst hK369
                        exact ⟨false, hq364, hE.pick _ ⟨rfl, rfl, rfl, rfl, rfl, rfl, trivial⟩, hS⟩
                    · clear hE hS a w; rintro a w ⟨q368, rfl, hE, hS⟩
                      refine W.cond hE rfl (fun hc371 => ?_) (fun hc371 => ?_)
                      · replace hr := iteT hc371 hr
                        refine W.region ?_
                        refine WL.vS hS hE (runs_plain rfl) (Gives.p hE rfl) rfl ?_; clear hE a; intro a hE
                        refine WL.vS hS hE (runs_plain rfl) (Gives.p hE rfl) rfl ?_; clear hE a; intro a hE
                        refine WL.vS hS hE (runs_plain rfl) (Gives.p hE rfl) rfl ?_; clear hE a; intro a hE
                        refine WL.vS hS hE (runs_plain rfl) (Gives.p hE rfl) rfl ?_; clear hE a; intro a hE
                        refine WL.vS hS hE (runs_plain rfl) (Gives.p hE rfl) rfl ?_; clear hE a; intro a hE
                        obtain ⟨q372, hq373, hr⟩ := bindS hr
                        have hc_ := ih_SlicessymMergeCmpFuncint_v1 (y3 := y3) hS h362 hn363 h_v1 (rfl) h_v2 (rfl) hq373
                        refine WL.fnq hE (hc_) (runs_plain rfl) bd47 rfl rfl rfl ?_
                        clear hE hS hc_; rintro e w ⟨cs374, rfl, h375, hn376, hS⟩; refine ⟨_, rfl, ?_⟩; clear a; intro a hE
                        refine WL.nil ?_
                        refine finG (fn := Try.f47) (rs := []) (vs := []) hE rfl trivial ?_
                        obtain rfl := Option.some.inj hr
                        exact ⟨cs374, rfl, h375, hn376, hS⟩
                      · replace hr := iteF hc371 hr
                        refine W.skip ?_
                        refine finG (fn := Try.f47) (rs := []) (vs := []) hE rfl trivial ?_
                        obtain rfl := Option.some.inj hr
                        exact ⟨cs361, rfl, h362, hn363, hS⟩
                  · replace hr := iteF hc358 hr
                    refine W.skip ?_
                    refine W.seq ?_
                    obtain ⟨q378, hq377, hr⟩ := bndS hr
                    refine W.cut (fun a w => ∃ (q381 : Bool), q381 = q378 ∧ Rep a 220 [(0, .slice a_v0 x0.length c_v0), (3, .int .i64 x3), (4, .func (.func 33) #[] #[.pointer (some ⟨pb0, 0, none⟩), .pointer (some ⟨pb1, 0, none⟩), .pointer (some ⟨pb2, 0, none⟩)]), (18, .int .i64 (w64 (Int.fdiv (IntKind.wrap .u64 (w64 (x1 + x3))) (2 ^ (min (Int.toNat 1) (IntKind.bits .u64)))))), (24, .int .i64 (w64 ((w64 ((w64 (Int.fdiv (IntKind.wrap .u64 (w64 (x1 + x3))) (2 ^ (min (Int.toNat 1) (IntKind.bits .u64))))) + x2)) - q265))), (213, .bool q381)] ∧ St w s (pt pb0 (.cells #[.pointer (some ⟨pb3, 0, none⟩)] 23 (0, 0)) :: pt pb1 (.cells #[.int .i64 y1] 3 (0, 0)) :: pt pb2 (.cells #[.int .i64 y2] 3 (0, 0)) :: pt pb3 (.cells #[.int .i64 y3.rows, .int .i64 y3.across, .int .i64 y3.stops, .slice a_v1 y3.bookings.length c_v1, .slice a_v2 y3.cancelled.length c_v2] 48 (0, 0)) :: vecC 3 1 a_v0 c_v0 x0.length cs_v0 :: vecC 39 4 a_v1 c_v1 y3.bookings.length cs_v1 :: vecC 4 1 a_v2 c_v2 y3.cancelled.length cs_v2 :: R)) ?_ ?_
                    · refine W.gen fun K382 hK382 => ?_
                      refine W.region ?_
                      refine WL.vS hS hE (runs_plain rfl) (Gives.p hE rfl) rfl ?_; clear hE a; intro a hE
                      refine WL.vS hS hE (runs_plain rfl) (Gives.p hE rfl) rfl ?_; clear hE a; intro a hE
                      refine WL.vS hS hE (runs_plain rfl) (Gives.p hE rfl) rfl ?_; clear hE a; intro a hE
                      refine WL.vS hS hE (runs_plain rfl) (Gives.p hE rfl) rfl ?_; clear hE a; intro a hE
                      rcases Bool.eq_false_or_eq_true (decide ((w64 (Int.fdiv (IntKind.wrap .u64 (w64 (x1 + x3))) (2 ^ (min (Int.toNat 1) (IntKind.bits .u64))))) < (w64 ((w64 ((w64 (Int.fdiv (IntKind.wrap .u64 (w64 (x1 + x3))) (2 ^ (min (Int.toNat 1) (IntKind.bits .u64))))) + x2)) - q265)))) with hg383 | hg383
                      · replace hq377 := iteT hg383 hq377
                        refine WL.vS hS hE (runs_if hE rfl rfl rfl hg383) (Gives.p hE rfl) rfl ?_; clear hE a; intro a hE
                        refine WL.vS hS hE (runs_if hE rfl rfl rfl hg383) (Gives.p hE rfl) rfl ?_; clear hE a; intro a hE
                        refine WL.vS hS hE (runs_if hE rfl rfl rfl hg383) (Gives.p hE rfl) rfl ?_; clear hE a; intro a hE
                        refine WL.vS hS hE (runs_plain rfl) (Gives.pickT hE rfl hg383 rfl) rfl ?_; clear hE a; intro a hE
                        refine WL.nil ?_
                        subst hK382
                        exact ⟨decide ((w64 ((w64 ((w64 (Int.fdiv (IntKind.wrap .u64 (w64 (x1 + x3))) (2 ^ (min (Int.toNat 1) (IntKind.bits .u64))))) + x2)) - q265)) < x3), hq377, hE.pick _ ⟨rfl, rfl, rfl, rfl, rfl, rfl, trivial⟩, hS⟩
                      · replace hq377 := iteF hg383 hq377
                        refine WL.no hE (runs_not hE rfl rfl rfl (by rw [hg383]; decide)) rfl ?_; clear hE a; intro a hE
                        refine WL.no hE (runs_not hE rfl rfl rfl (by rw [hg383]; decide)) rfl ?_; clear hE a; intro a hE
                        refine WL.no hE (runs_not hE rfl rfl rfl (by rw [hg383]; decide)) rfl ?_; clear hE a; intro a hE
                        refine WL.vS hS hE (runs_plain rfl) (Gives.pickF hE rfl hg383 rfl) rfl ?_; clear hE a; intro a hE
                        refine WL.nil ?_
                        subst hK382
                        exact ⟨false, hq377, hE.pick _ ⟨rfl, rfl, rfl, rfl, rfl, rfl, trivial⟩, hS⟩
                    · clear hE hS a w; rintro a w ⟨q381, rfl, hE, hS⟩
                      refine W.cond hE rfl (fun hc384 => ?_) (fun hc384 => ?_)
                      · replace hr := iteT hc384 hr
                        refine W.region ?_
                        refine WL.vS hS hE (runs_plain rfl) (Gives.p hE rfl) rfl ?_; clear hE a; intro a hE
                        refine WL.vS hS hE (runs_plain rfl) (Gives.p hE rfl) rfl ?_; clear hE a; intro a hE
                        refine WL.vS hS hE (runs_plain rfl) (Gives.p hE rfl) rfl ?_; clear hE a; intro a hE
                        refine WL.vS hS hE (runs_plain rfl) (Gives.p hE rfl) rfl ?_; clear hE a; intro a hE
                        refine WL.vS hS hE (runs_plain rfl) (Gives.p hE rfl) rfl ?_; clear hE a; intro a hE
                        obtain ⟨q385, hq386, hr⟩ := bindS hr
                        have hc_ := ih_SlicessymMergeCmpFuncint_v1 (y3 := y3) hS h_v0 (rfl) h_v1 (rfl) h_v2 (rfl) hq386
                        refine WL.fnq hE (hc_) (runs_plain rfl) bd47 rfl rfl rfl ?_
                        clear hE hS hc_; rintro e w ⟨cs387, rfl, h388, hn389, hS⟩; refine ⟨_, rfl, ?_⟩; clear a; intro a hE
                        refine WL.nil ?_
                        refine finG (fn := Try.f47) (rs := []) (vs := []) hE rfl trivial ?_
                        obtain rfl := Option.some.inj hr
                        exact ⟨cs387, rfl, h388, hn389, hS⟩
                      · replace hr := iteF hc384 hr
                        refine W.skip ?_
                        refine finG (fn := Try.f47) (rs := []) (vs := []) hE rfl trivial ?_
                        obtain rfl := Option.some.inj hr
                        exact ⟨cs_v0, rfl, h_v0, (rfl), hS⟩
end Go.Proofs.Yteeeklfggbfenaa
