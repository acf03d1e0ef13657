/- The walks of the functions that FareWays reaches: each call comes to what its mirror says. The conditions are those of each contract. -/
import Derived.Test.YtckhpgbcajnpnaaProg
import Derived.Test.YtckhpgbcajnpnaaFareWaysM
import Derived.Test.YtckhpgbcajnpnaaFpAllS
import Derived.Test.YtckhpgbcajnpnaaFareWaysS
import Derived.Test.YtckhpgbcajnpnaaFpRgn
set_option maxRecDepth 10000
namespace Go.Proofs.Ytckhpgbcajnpnaa
open Go Go.Fp
theorem ap22 : apOk Try.prog 22 23 1 = true := by kernel_rfl
theorem ap23 : apOk Try.prog 23 3 1 = true := by kernel_rfl
theorem bd10 : bodied Try.prog 10 = true := by kernel_rfl
theorem bd11 : bodied Try.prog 11 = true := by kernel_rfl
theorem bd12 : bodied Try.prog 12 = true := by kernel_rfl
theorem bd13 : bodied Try.prog 13 = true := by kernel_rfl
theorem bd14 : bodied Try.prog 14 = true := by kernel_rfl
theorem bd15 : bodied Try.prog 15 = true := by kernel_rfl
theorem bd16 : bodied Try.prog 16 = true := by kernel_rfl
theorem bd17 : bodied Try.prog 17 = true := by kernel_rfl
theorem bd18 : bodied Try.prog 18 = true := by kernel_rfl
theorem bd19 : bodied Try.prog 19 = true := by kernel_rfl
theorem bd20 : bodied Try.prog 20 = true := by kernel_rfl
theorem bd22 : bodied Try.prog 22 = true := by kernel_rfl
theorem bd23 : bodied Try.prog 23 = true := by kernel_rfl
theorem bd24 : bodied Try.prog 24 = true := by kernel_rfl
theorem bd26 : bodied Try.prog 26 = true := by kernel_rfl
theorem bd27 : bodied Try.prog 27 = true := by kernel_rfl
theorem bd30 : bodied Try.prog 30 = true := by kernel_rfl
theorem bd31 : bodied Try.prog 31 = true := by kernel_rfl
theorem bd32 : bodied Try.prog 32 = true := by kernel_rfl
theorem bd33 : bodied Try.prog 33 = true := by kernel_rfl
theorem bd34 : bodied Try.prog 34 = true := by kernel_rfl
theorem bd35 : bodied Try.prog 35 = true := by kernel_rfl
theorem bd4 : bodied Try.prog 4 = true := by kernel_rfl
theorem bd47 : bodied Try.prog 47 = true := by kernel_rfl
theorem bd48 : bodied Try.prog 48 = true := by kernel_rfl
theorem bd49 : bodied Try.prog 49 = true := by kernel_rfl
theorem bd5 : bodied Try.prog 5 = true := by kernel_rfl
theorem bd50 : bodied Try.prog 50 = true := by kernel_rfl
theorem bd51 : bodied Try.prog 51 = true := by kernel_rfl
theorem bd52 : bodied Try.prog 52 = true := by kernel_rfl
theorem bd53 : bodied Try.prog 53 = true := by kernel_rfl
theorem bd6 : bodied Try.prog 6 = true := by kernel_rfl
theorem bd60 : bodied Try.prog 60 = true := by kernel_rfl
theorem bd61 : bodied Try.prog 61 = true := by kernel_rfl
theorem bd62 : bodied Try.prog 62 = true := by kernel_rfl
theorem bd7 : bodied Try.prog 7 = true := by kernel_rfl
theorem bd8 : bodied Try.prog 8 = true := by kernel_rfl
theorem bd9 : bodied Try.prog 9 = true := by kernel_rfl
theorem cp23 : cpOk Try.prog 23 3 1 = true := by kernel_rfl
theorem fl41_0 : fldOk Try.prog 41 0 0 = true := by kernel_rfl
theorem fl41_1 : fldOk Try.prog 41 1 1 = true := by kernel_rfl
theorem fl45_0 : fldOk Try.prog 45 0 0 = true := by kernel_rfl
theorem fl45_1 : fldOk Try.prog 45 1 1 = true := by kernel_rfl
theorem fl45_2 : fldOk Try.prog 45 2 2 = true := by kernel_rfl
theorem fl45_3 : fldOk Try.prog 45 3 3 = true := by kernel_rfl
theorem fl47_0 : fldOk Try.prog 47 0 0 = true := by kernel_rfl
theorem fl47_1 : fldOk Try.prog 47 1 4 = true := by kernel_rfl
theorem fl47_2 : fldOk Try.prog 47 2 5 = true := by kernel_rfl
theorem fl47_3 : fldOk Try.prog 47 3 6 = true := by kernel_rfl
theorem fl50_0 : fldOk Try.prog 50 0 0 = true := by kernel_rfl
theorem fl50_1 : fldOk Try.prog 50 1 1 = true := by kernel_rfl
theorem fl50_2 : fldOk Try.prog 50 2 2 = true := by kernel_rfl
theorem fl50_3 : fldOk Try.prog 50 3 3 = true := by kernel_rfl
theorem fl54_0 : fldOk Try.prog 54 0 0 = true := by kernel_rfl
theorem fl54_1 : fldOk Try.prog 54 1 1 = true := by kernel_rfl
theorem fl54_2 : fldOk Try.prog 54 2 2 = true := by kernel_rfl
theorem fl54_3 : fldOk Try.prog 54 3 3 = true := by kernel_rfl
theorem fl54_4 : fldOk Try.prog 54 4 4 = true := by kernel_rfl
theorem fl54_5 : fldOk Try.prog 54 5 5 = true := by kernel_rfl
theorem hu3 : (Try.prog.underlying 3).isSome = true := by kernel_rfl
theorem hu56 : (Try.prog.underlying 56).isSome = true := by kernel_rfl
theorem isl23 : isSl Try.prog 23 = true := by kernel_rfl
theorem mixed : Try.prog.follows .mixedOrders = true := by kernel_rfl
theorem mp34 : mpOk Try.prog keyI.ok 34 3 4 = true := by kernel_rfl
theorem sl22 : slOk Try.prog 22 23 1 = true := by kernel_rfl
theorem sl23 : slOk Try.prog 23 3 1 = true := by kernel_rfl
theorem sl42 : slOk Try.prog 42 41 2 = true := by kernel_rfl
theorem sl43 : slOk Try.prog 43 45 4 = true := by kernel_rfl
theorem sl48 : slOk Try.prog 48 47 7 = true := by kernel_rfl
theorem ty22 : tyOk Try.prog 22 false 1 = true := by kernel_rfl
theorem ty23 : tyOk Try.prog 23 false 1 = true := by kernel_rfl
theorem ty3 : tyOk Try.prog 3 false 1 = true := by kernel_rfl
theorem ty31 : tyOk Try.prog 31 false 1 = true := by kernel_rfl
theorem ty4 : tyOk Try.prog 4 false 1 = true := by kernel_rfl
theorem ty41 : tyOk Try.prog 41 true 2 = true := by kernel_rfl
theorem ty42 : tyOk Try.prog 42 false 1 = true := by kernel_rfl
theorem ty43 : tyOk Try.prog 43 false 1 = true := by kernel_rfl
theorem ty45 : tyOk Try.prog 45 true 4 = true := by kernel_rfl
theorem ty47 : tyOk Try.prog 47 true 7 = true := by kernel_rfl
theorem ty48 : tyOk Try.prog 48 false 1 = true := by kernel_rfl
theorem ty50 : tyOk Try.prog 50 true 4 = true := by kernel_rfl
theorem ty54 : tyOk Try.prog 54 true 6 = true := by kernel_rfl
theorem ui3 : Try.prog.underlying 3 = some (.int .i64) := by kernel_rfl
theorem ui56 : Try.prog.underlying 56 = some (.int .u64) := by kernel_rfl
theorem zm4 : (Try.prog.info? 4).bind (fun i => i.zero) = some (Value.bool false) := by kernel_rfl
theorem zr3 : (Try.prog.info? 3).bind (fun i => i.zero.map fun z => z.cells.toList) = some [.int .i64 0] := by kernel_rfl
theorem zr31 : (Try.prog.info? 31).bind (fun i => i.zero.map fun z => z.cells.toList) = some [.nilFunc] := by kernel_rfl
theorem zr41 : (Try.prog.info? 41).bind (fun i => i.zero.map fun z => z.cells.toList) = some [.int .i64 0, .int .i64 0] := by kernel_rfl
theorem zr45 : (Try.prog.info? 45).bind (fun i => i.zero.map fun z => z.cells.toList) = some [.int .i64 0, .int .i64 0, .int .i64 0, .slice none 0 0] := by kernel_rfl
theorem zr47 : (Try.prog.info? 47).bind (fun i => i.zero.map fun z => z.cells.toList) = some [.int .i64 0, .int .i64 0, .int .i64 0, .slice none 0 0, .int .i64 0, .int .i64 0, .bool false] := by kernel_rfl
theorem zr50 : (Try.prog.info? 50).bind (fun i => i.zero.map fun z => z.cells.toList) = some [.bool false, .slice none 0 0, .int .i64 0, .slice none 0 0] := by kernel_rfl
section
open Go.RowKit Go.Shelf
attribute [local go_sem] Oper.semAt_some
def itUpto {α : Type} (f : Nat → α) (k : Nat) : List α := (List.range k).map f
theorem itUpto_succ {α : Type} (f : Nat → α) (k : Nat) : itUpto f (k + 1) = itUpto f k ++ [f k] := by simp [itUpto, List.range_succ]
theorem itUpto_length {α : Type} (f : Nat → α) (k : Nat) : (itUpto f k).length = k := by simp [itUpto]
theorem itUpto_all (zs : List Int) : itUpto (fun j => zs[j]?.getD 0) zs.length = zs := by
  apply List.ext_getElem
  · simp [itUpto]
  · intro i h1 h2
    simp [itUpto, h2]

set_option maxRecDepth 100000 in
set_option maxHeartbeats 2000000 in
theorem itVals1_in (F : Fence) (n : Nat) (h7 : F.fn 21) (hro : F.round = none) (hn : 1 ≤ n) (l Bs n₀ b off len cap : Nat) (zs : List Int) (hreach : len * 8 ≤ 140737488351232) (hb : b < n₀) (J Jx : List Int → World → Prop)
    (hY : ∀ pre x W, J pre W → pre.length < len → YieldAt F (n - 1) Try.prog l #[.int .i64 x] W fun e W' =>
      (e = .returned (.bool true) ∧ J (pre ++ [x]) W' ∧ Below n₀ W W') ∨ (e = .returned (.bool false) ∧ Jx (pre ++ [x]) W'))
    (W : World) (hBs : W.cell? ⟨Bs, 0, none⟩ = some (.slice (some ⟨b, off, none⟩) len cap)) (hc : ∀ j, j < len → W.cell? ⟨b, off + j, none⟩ = some (.int .i64 (zs[j]?.getD 0))) (h0 : J [] W) :
    CallsIn F n Try.prog 21 #[.func (.yield l) #[] #[], .pointer (some ⟨Bs, 0, none⟩)] W fun e W' => (∃ v, e = .returned v) ∧
      ((∃ ys, ys = itUpto (fun j => zs[j]?.getD 0) len ∧ J ys W') ∨ (∃ pre, (∃ k, k ≤ len ∧ pre = itUpto (fun j => zs[j]?.getD 0) k) ∧ Jx pre W')) := by
  refine callsIn_of_wp Try.func21 rfl h7 ?_ hro
  simp only [Try.ntmps21, List.size_toArray, List.length_cons, List.length_nil, Nat.reduceAdd, Nat.reduceSub, Array.replicate_succ, Array.replicate_zero, List.push_toArray, List.append_toArray, List.nil_append, List.cons_append]
  gi_wp2
  gi_loopw [7] (fun i wr => ∃ k : Nat, k ≤ len ∧ i = .int .i64 k ∧ J (itUpto (fun j => zs[j]?.getD 0) k) wr ∧ Below n₀ W wr)
    (fun i _ => len - (intOf i).toNat)
  case atStart => exact ⟨0, Nat.zero_le _, rfl, h0, Below.refl _ _⟩
  case round =>
    obtain ⟨k, hk, rfl, hJs, hnx⟩ := hrel
    have hcx : k < len → wr.cell? ⟨b, off + k, none⟩ = some (.int .i64 (zs[k]?.getD 0)) := fun h => (hnx.cell (p := ⟨b, off + k, none⟩) hb).trans (hc k h)
    by_cases hlt : k < len
    · obtain ⟨fn, tmps, assign, body, hy, hR⟩ := hY _ (zs[k]?.getD 0) wr hJs (by rw [itUpto_length]; exact hlt)
      have hcx' := hcx hlt
      gi_wp2
      refine hR.mono ?_
      rintro e W3 (⟨rfl, hJ3, hk3⟩ | ⟨rfl, hJx3⟩)
      · -- THE ROUND GOES ON
        gi_wp2
        go_roundw
        case rel => exact ⟨k + 1, by omega, by simp, by rw [itUpto_succ]; exact hJ3, hnx.trans hk3⟩
        case measure => simp [intOf]; omega
      · gi_wp2
        refine bodyPost_ret (results_none rfl _ _ _) rfl ?_
        exact ⟨⟨_, rfl⟩, .inr ⟨_, ⟨k + 1, by omega, (itUpto_succ _ _).symm⟩, hJx3⟩⟩
    · obtain rfl : k = len := by omega
      gi_wp2
      go_end0
      exact ⟨⟨_, rfl⟩, .inl ⟨_, rfl, hJs⟩⟩

theorem itUpto_take (zs : List Int) {k : Nat} (hk : k ≤ zs.length) : itUpto (fun j => zs[j]?.getD 0) k = zs.take k := by
  apply List.ext_getElem
  · simp [itUpto, hk]
  · intro i h1 h2
    have : i < zs.length := by simp [itUpto] at h1; omega
    simp [itUpto, this]

def ItInts (n₀ : Nat) (W : World) (sv : Value) (zs : List Int) : Prop :=
  (∃ sa cap, sv = .slice sa 0 cap ∧ zs = []) ∨ ∃ b off cap, sv = .slice (some ⟨b, off, none⟩) zs.length cap ∧ b < n₀ ∧ ∀ j, j < zs.length → W.cell? ⟨b, off + j, none⟩ = some (.int .i64 (zs[j]?.getD 0))
theorem ItInts.below {n₀ : Nat} {A B : World} (h : Below n₀ A B) {sv : Value} {zs : List Int} : ItInts n₀ A sv zs → ItInts n₀ B sv zs
  | .inl e => .inl e
  | .inr ⟨b, off, cap, e, hb, hc⟩ => .inr ⟨b, off, cap, e, hb, fun j hj => (h.cell (p := ⟨b, off + j, none⟩) hb).trans (hc j hj)⟩

set_option maxRecDepth 100000 in
set_option maxHeartbeats 1000000 in
theorem itNil_in (F : Fence) (n : Nat) (h7 : F.fn 21) (hro : F.round = none) (l Bs cap : Nat) (sa : Option Addr) (J : List Int → World → Prop) (W : World) (hBs : W.cell? ⟨Bs, 0, none⟩ = some (.slice sa 0 cap)) (h0 : J [] W) :
    CallsIn F n Try.prog 21 #[.func (.yield l) #[] #[], .pointer (some ⟨Bs, 0, none⟩)] W fun e W' => (∃ v, e = .returned v) ∧ J [] W' := by
  refine callsIn_of_wp Try.func21 rfl h7 ?_ hro
  simp only [Try.ntmps21, List.size_toArray, List.length_cons, List.length_nil, Nat.reduceAdd, Nat.reduceSub, Array.replicate_succ, Array.replicate_zero, List.push_toArray, List.append_toArray, List.nil_append, List.cons_append]
  gi_wp2
  gi_loopw [7] (fun i wr => i = .int .i64 0 ∧ J [] wr) (fun _ _ => 0)
  case atStart => exact ⟨rfl, h0⟩
  case round =>
    obtain ⟨rfl, hJs⟩ := hrel
    gi_wp2
    go_end0
    exact ⟨⟨_, rfl⟩, hJs⟩

set_option maxRecDepth 100000 in
set_option maxHeartbeats 1000000 in
theorem itStops (F : Fence) (n : Nat) (h7 : F.fn 21) (hro : F.round = none) (hn : 1 ≤ n) (Bs n₀ : Nat) (sv : Value) (zs : List Int) (hreach : zs.length * 8 ≤ 140737488351232) (w : World) (hBs : Bs < w.heap.size) (hn₀ : n₀ ≤ w.heap.size)
    (hc : w.cell? ⟨Bs, 0, none⟩ = some sv) (hI : ItInts n₀ w sv zs) :
    SeqStopsK F n Try.prog 21 #[.pointer (some ⟨Bs, 0, none⟩)] (fun x : Int => #[Value.int .i64 x]) (Below n₀) (fun ys => ys = zs) (fun pre => pre <+: zs) zs.length w := fun l J Jx W hW _ _ hY h0 => by
  have hc' := (hW.cell (p := ⟨Bs, 0, none⟩) hBs).trans hc
  rcases hI.below (hW.mono hn₀) with ⟨sa, cap, rfl, rfl⟩ | ⟨b, off, cap, rfl, hb, hcs⟩
  · exact (itNil_in F n h7 hro l Bs cap sa J W hc' h0).mono fun e W' ⟨he, hj⟩ => ⟨he, .inl ⟨_, rfl, hj⟩⟩
  · refine (itVals1_in F n h7 hro hn l Bs n₀ b off zs.length cap zs hreach hb J Jx hY W hc' hcs h0).mono ?_
    rintro e W' ⟨he, ⟨ys, rfl, hj⟩ | ⟨pre, ⟨k, hk, rfl⟩, hj⟩⟩
    · exact ⟨he, .inl ⟨_, itUpto_all zs, hj⟩⟩
    · exact ⟨he, .inr ⟨_, by rw [itUpto_take zs hk]; exact List.take_prefix _ _, hj⟩⟩

theorem itInfo : (Try.prog.info? 3).map (fun i => (i.zero, i.size, i.bytes)) = some (some (.int .i64 0), 1, 8) := by kernel_rfl

set_option maxRecDepth 100000 in
set_option maxHeartbeats 2000000 in
theorem itSeq_in (F : Fence) (n : Nat) (h3 : F.fn 27) (h5 : F.fn 21) (hro : F.round = none) (hn : 3 ≤ n) (Bs : Nat) (sv : Value) (xs : List Int) (hlen : xs.length ≤ maxLen) (hbytes : xs.length * 8 ≤ 140737488351232) (w : World) (hBs : Bs < w.heap.size) (hcs : w.cell? ⟨Bs, 0, none⟩ = some sv) (hI : ItInts w.heap.size w sv xs) :
    CallsIn F n Try.prog 27 #[.slice none 0 0, .func (.func 21) #[] #[.pointer (some ⟨Bs, 0, none⟩)]] w fun e W' => ∃ v, e = .returned v ∧ W'.ownsRow w.heap.size 3 1 v xs.length (xs.map (Value.int .i64)) ∧ Below w.heap.size w W' := by
  have h1 : 1 ≤ n := by omega
  obtain ⟨i0, hi, hz0, hz1, hz2⟩ := info_parts itInfo
  refine callsIn_of_wp_marks Try.func27 rfl h3 ?_ hro
  simp only [Try.ntmps27, List.size_toArray, List.length_cons, List.length_nil, Nat.reduceAdd, Nat.reduceSub, Array.replicate_succ, Array.replicate_zero, List.push_toArray, List.append_toArray, List.nil_append, List.cons_append]
  gi_wp2
  have bO := Boxed.new w 23 (.slice none 0 0)
  have hB0 : Below w.heap.size w (w.alloc (.cells #[.slice none 0 0] 23)) := (Below.refl _ w).alloc (Nat.le_refl _) _
  refine wpIn_rangeFunc_ownG hro h1 (gf := 21) (lb := #[.pointer (some ⟨Bs, 0, none⟩)]) rfl h5 (enters_of Try.func21 (by kernel_rfl) rfl)
    (itStops F (n - 1) h5 hro (by omega) Bs w.heap.size _ xs hbytes _ (by simp; omega) (by simp) ((hB0.cell (p := ⟨Bs, 0, none⟩) hBs).trans hcs) (hI.below hB0)) belowK_t (belowK_b (by simp)) (Below.refl _ _) (fun _ => rfl)
    (fun pre W => (∃ v, Boxed W w.heap.size 23 v ∧ W.ownsRow w.heap.size 3 1 v pre.length (pre.map (Value.int .i64)) ∧ True) ∧ Below w.heap.size w W)
    (fun _ _ _ => False)
    (OwnFrom.and (Own.from (holdsRow_own w.heap.size w.heap.size 23 3 1 (fun pre : List Int => pre.length) (fun pre => pre.map (Value.int .i64)) (fun _ _ => True)) _) (ownFrom_below (Nat.le_refl _) (by simp)))
    (fun _ _ _ _ _ hs _ _ => hs)
    ⟨⟨_, bO, World.ownsRow_nil _ _ _ _, trivial⟩, hB0⟩
    (fun x => { tmps := #[.slice none 0 0, .func (.func 21) #[] #[.pointer (some ⟨Bs, 0, none⟩)], .pointer (some ⟨w.heap.size, 0, none⟩), undef, .slice none 0 0, .int .i64 x, .func (.func 21) #[] #[.pointer (some ⟨Bs, 0, none⟩)], .int .i64 x, undef, undef, undef, undef, undef], defers := [] }) ?assign ?body ?done ?stop
  case assign =>
    intro l x W K hK
    gi_wp2
    exact hK
  case body =>
    rintro l pre x W ⟨⟨v, hv, hrow, _⟩, hB⟩ hlt
    have hc := hv.cell
    gi_wp2_with (gi_at_builtin; refine wpListIn_append_own _ rfl _ _ 23 rfl w.heap.size 3 i0 (.int .i64 0) 1 8 Try.underlying23 hi hz0 hz1 hz2 rfl (by decide) _ _ _ rfl (hrow.alloc _) ⟨W.heap.size, 0, none⟩ 1 1 [.int .i64 x] rfl rfl (cell_one_new _ _ _) (by simp [Value.oneCell']) (by omega) (by omega) (by have := hB.size; simp; omega) ?_; intro v' w1 hown' hgrow _; obtain ⟨g', cap', rfl⟩ := ownsRow_succ hown'; obtain ⟨hv1, hv2, hr2, hk2, hb2⟩ := hv.appended (by decide) hrow hB.size (Nat.le_refl _) hown' hgrow; have hc1 := hv1.cell; have hf1 := hv1.frozen)
    exact ⟨hk2.from _, hb2, ⟨_, hv2, by simpa using hr2, trivial⟩, hB.trans hb2⟩
  case done =>
    rintro D ys W hD rfl ⟨⟨v, hv, hrow, _⟩, hB⟩ hK
    have hc := hv.cell
    gi_wp2
    refine ⟨by simp, .inl ⟨_, _, rfl, run_takeDeferred hK, ?_⟩⟩
    exact ⟨_, results_tmp rfl _ _ _, v, rfl, ownsRow_putObj hrow _ hK rfl, hB.trans (belowK_b (w := w) (Nat.le_refl _) W D _ _ (by simp at hD; omega) hK rfl rfl)⟩
  case stop =>
    rintro D c pre W _ _ h _
    exact h.elim

theorem itSeq_ok {w : World} {s : Sg} {R : List HP} {b : Nat} {a : Option Addr} {c : Nat} {l r : List Int} (hS : St w s (pt b (.cells [.slice a l.length c].toArray 23 (0, 0)) :: R)) (h : Sl 1 (RI .i64) s a c l) (hr : apw 8 [] l = some r) :
    Calls Try.prog 27 [.slice none 0 0, .func (.func 21) #[] #[.pointer (some ⟨b, 0, none⟩)]].toArray w (fun e w => ∃ (a0 : Option Addr) (c0 n0 : Nat) (cs0 : List Value), e = .returned (.slice a0 n0 c0) ∧ Ev 1 (RI .i64) s cs0 r ∧ r.length = n0 ∧ St w s (vecC 3 1 a0 c0 n0 cs0 :: pt b (.cells [.slice a l.length c].toArray 23 (0, 0)) :: R)) := by
  obtain ⟨h1, h2⟩ := apw_some hr
  rw [List.nil_append] at h2
  subst r
  simp only [List.length_nil, Nat.zero_add] at h1
  have hb := hS.at
  have hI : ItInts w.heap.size w (.slice a l.length c) l := by
    rcases Nat.eq_zero_or_pos l.length with hz | hz
    · have : l = [] := List.eq_nil_of_length_eq_zero hz
      subst this
      exact .inl ⟨a, c, rfl, rfl⟩
    · obtain ⟨b0, o0, rfl⟩ := h.aok hz
      have hcell : ∀ j, j < l.length → w.cell? ⟨b0, o0 + j, none⟩ = some (.int .i64 (l[j]?.getD 0)) := by
        intro j hj
        obtain ⟨cs, e1, e2, e3⟩ := h.el j l[j] (List.getElem?_eq_getElem hj)
        have e3' : cs = [.int .i64 l[j]] := e3
        subst e3'
        have := hS.sees e2 0 _ rfl
        simpa [ab, ao, hj] using this
      refine .inr ⟨b0, o0, c, rfl, ?_, hcell⟩
      have := hcell 0 hz
      rcases Nat.lt_or_ge b0 w.heap.size with hlt | hge
      · exact hlt
      · simp [World.cell?, Array.getElem?_eq_none hge] at this
  have hlt : b < w.heap.size := by
    rcases Nat.lt_or_ge b w.heap.size with hlt | hge
    · exact hlt
    · rw [Array.getElem?_eq_none hge] at hb; cases hb
  refine ((callsIn_wide (n := 3)).1 (itSeq_in Fence.wide 3 trivial trivial rfl (by decide) b (.slice a l.length c) l (by unfold maxLen; omega) (by omega) w hlt (by simp [World.cell?, hb]) hI)).mono ?_
  rintro e w' ⟨v, rfl, hrow, hB⟩
  obtain ⟨a0, c0, rfl, hS'⟩ := hS.rowC hB hrow
  exact ⟨a0, c0, l.length, _, rfl, Ev.ofMap l, rfl, hS'⟩

theorem itVals_ok {w : World} {s : Sg} {R : List HP} {sa : Option Addr} {m c : Nat} (hS : St w s R) : Calls Try.prog 14 [.slice sa m c].toArray w (fun e w => ∃ (b : Nat), e = .returned (.func (.func 21) #[] #[.pointer (some ⟨b, 0, none⟩)]) ∧ St w s (pt b (.cells [.slice sa m c].toArray 23 (0, 0)) :: R)) := by
  refine enter Try.func14 rfl rfl rfl fun a hE => ?_
  refine W.seq ?_
  refine W.region ?_
  refine WL.box hE hS (runs_plain rfl) rfl rfl rfl ?_; clear hE hS a w; intro b a w hE hS
  refine WL.vS hS hE (runs_plain rfl) (Gives.p hE rfl) rfl ?_; clear hE a; intro a hE
  refine WL.nil ?_
  refine W.seq ?_
  refine W.region ?_
  refine WL.vS hS hE (runs_plain rfl) (Gives.mkfn hE (vs := [.pointer (some ⟨b, 0, none⟩)]) rfl) rfl ?_; clear hE a; intro a hE
  refine WL.vS hS hE (runs_plain rfl) (Gives.p hE rfl) rfl ?_; clear hE a; intro a hE
  refine WL.nil ?_
  refine W.ret ?_
  refine finG (fn := Try.f14) (rs := [.tmp 2]) (vs := [_]) hE rfl ⟨rfl, trivial⟩ ?_
  exact ⟨b, rfl, hS⟩
end
theorem itSort_ok {w : World} {s : Sg} {R : List HP} {a : Option Addr} {c n : Nat} {cs : List Value} {l r : List Int} (hS : St w s (vecC 3 1 a c n cs :: R)) (h : Ev 1 (RI .i64) s cs l) (hn : l.length = n) (hr : srw l = some r) :
    Calls Try.prog 20 [.slice a n c].toArray w (fun e w => ∃ (cs0 : List Value), e = .returned (.tuple #[]) ∧ Ev 1 (RI .i64) s cs0 r ∧ r.length = n ∧ St w s (vecC 3 1 a c n cs0 :: R)) := by
  obtain ⟨h1, rfl⟩ := srw_some hr
  rcases Nat.eq_zero_or_pos n with hz | hz
  · subst hz
    have : l = [] := List.eq_nil_of_length_eq_zero hn
    subst this
    refine (Try.slices_Sort_int_none a c w).mono ?_
    rintro e w' ⟨rfl, rfl⟩
    exact ⟨cs, rfl, by simpa [isort] using h, by simp [isort], hS⟩
  · obtain ⟨b, o, rfl⟩ := hS.vecAok 0 rfl hz
    have hb : b < w.heap.size := by
      rcases hS.vec 0 rfl with ⟨_, ⟨h0, _⟩ | ⟨b', o', cur, e1, e2, _⟩⟩
      · cases h0
      · cases e1
        rcases Nat.lt_or_ge b w.heap.size with hl | hg
        · exact hl
        · rw [Array.getElem?_eq_none hg] at e2; cases e2
    have hc := Try.slices_Sort_int b o c l w (hS.holds h) hb (by omega)
    rw [hn] at hc
    refine hc.mono ?_
    rintro e w' ⟨rfl, q, os, rfl⟩
    exact ⟨_, rfl, Ev.ofMap (isort l), by rw [isort_length, hn], hS.putRow (r := isort l) (by rw [isort_length, hn])⟩
set_option maxHeartbeats 8000000 in
theorem Farewithin_ok  {w : World} {s : Sg} {R : List HP} {x0 : Int} {x1 : Int} {x2 : Int} (hS : St w s (R))  {r : Bool} (hr : Farewithin x0 x1 x2 = r) :
    Calls Try.prog 9 [.int .i64 x0, .int .i64 x1, .int .i64 x2].toArray w (fun e w => e = .returned (.bool r) ∧ St w s (R)) := by
  refine enter Try.func9 rfl rfl rfl fun a hE => ?_
  rw [Farewithin] at hr
  refine W.seq ?_
  refine W.region ?_
  refine WL.vS hS hE (runs_plain rfl) (Gives.p hE rfl) rfl ?_; clear hE a; intro a hE
  refine WL.nil ?_
  refine W.seq ?_
  obtain ⟨q52, hq51, hr⟩ := bndS hr
  refine W.cut (fun a w => ∃ (q55 : Bool), q55 = q52 ∧ Rep a 15 [(6, .bool q55)] ∧ St w s (R)) ?_ ?_
  · refine W.gen fun K56 hK56 => ?_
    refine W.region ?_
    refine WL.vS hS hE (runs_plain rfl) (Gives.p hE rfl) rfl ?_; clear hE a; intro a hE
    refine WL.vS hS hE (runs_plain rfl) (Gives.p hE rfl) rfl ?_; clear hE a; intro a hE
    refine WL.vS hS hE (runs_plain rfl) (Gives.p hE rfl) rfl ?_; clear hE a; intro a hE
    refine WL.vS hS hE (runs_plain rfl) (Gives.p hE rfl) rfl ?_; clear hE a; intro a hE
    rcases Bool.eq_false_or_eq_true (decide (x0 ≥ x1)) with hg57 | hg57
    · replace hq51 := iteT hg57 hq51
      refine WL.vS hS hE (runs_if hE rfl rfl rfl hg57) (Gives.p hE rfl) rfl ?_; clear hE a; intro a hE
      refine WL.vS hS hE (runs_if hE rfl rfl rfl hg57) (Gives.p hE rfl) rfl ?_; clear hE a; intro a hE
      refine WL.vS hS hE (runs_if hE rfl rfl rfl hg57) (Gives.p hE rfl) rfl ?_; clear hE a; intro a hE
      refine WL.vS hS hE (runs_plain rfl) (Gives.pickT hE rfl hg57 rfl) rfl ?_; clear hE a; intro a hE
      refine WL.vS hS hE (runs_plain rfl) (Gives.p hE rfl) rfl ?_; clear hE a; intro a hE
      refine WL.nil ?_
      subst hK56
      exact ⟨decide (x0 ≤ x2), hq51, hE.pick _ ⟨rfl, trivial⟩, hS⟩
    · replace hq51 := iteF hg57 hq51
      refine WL.no hE (runs_not hE rfl rfl rfl (by rw [hg57]; decide)) rfl ?_; clear hE a; intro a hE
      refine WL.no hE (runs_not hE rfl rfl rfl (by rw [hg57]; decide)) rfl ?_; clear hE a; intro a hE
      refine WL.no hE (runs_not hE rfl rfl rfl (by rw [hg57]; decide)) rfl ?_; clear hE a; intro a hE
      refine WL.vS hS hE (runs_plain rfl) (Gives.pickF hE rfl hg57 rfl) rfl ?_; clear hE a; intro a hE
      refine WL.vS hS hE (runs_plain rfl) (Gives.p hE rfl) rfl ?_; clear hE a; intro a hE
      refine WL.nil ?_
      subst hK56
      exact ⟨false, hq51, hE.pick _ ⟨rfl, trivial⟩, hS⟩
  · clear hE hS a w; rintro a w ⟨q55, rfl, hE, hS⟩
    refine W.ret ?_
    refine finG (fn := Try.f9) (rs := [.tmp 6]) (vs := [_]) hE rfl ⟨rfl, trivial⟩ ?_
    subst hr
    exact ⟨rfl, hS⟩
set_option maxHeartbeats 8000000 in
theorem FareWay_1_v1_ok  {w : World} {s : Sg} {R : List HP} {pb0 : Nat} {x0 : Int} {y0 : List (List Int)} {a_y0_0 : Option Addr} {c_y0_0 : Nat} (hS : St w s (pt pb0 (.cells #[.slice a_y0_0 y0.length c_y0_0] 22 (0, 0)) :: R)) (_h_y0_0 : Sl 1 (RL 1 (RI .i64)) s a_y0_0 c_y0_0 y0) {r : Bool} (hr : FareWay_1_v1 x0 y0 = r) :
    Calls Try.prog 8 [.int .i64 x0, .pointer (some ⟨pb0, 0, none⟩)].toArray w (fun e w => e = .returned (.bool r) ∧ St w s (pt pb0 (.cells #[.slice a_y0_0 y0.length c_y0_0] 22 (0, 0)) :: R)) := by
  refine enter Try.func8 rfl rfl rfl fun a hE => ?_
  rw [FareWay_1_v1] at hr
  refine W.seq ?_
  refine W.region ?_
  refine WL.vS hS hE (runs_plain rfl) (Gives.p hE rfl) rfl ?_; clear hE a; intro a hE
  refine WL.nil ?_
  refine W.seq ?_
  refine W.region ?_
  refine WL.vS hS hE (runs_plain rfl) (Gives.p hE rfl) rfl ?_; clear hE a; intro a hE
  refine WL.vS hS hE (runs_plain rfl) (Gives.loadB hE 0 rfl rfl rfl ty22) rfl ?_; clear hE a; intro a hE
  refine WL.vS hS hE (runs_plain rfl) (Gives.len hE rfl sl22) rfl ?_; clear hE a; intro a hE
  refine WL.vS hS hE (runs_plain rfl) (Gives.p hE rfl) rfl ?_; clear hE a; intro a hE
  refine WL.fnq hE (Farewithin_ok hS  rfl (r := Farewithin x0 0 (w64 (((y0).length : Int) - 1)))) (runs_plain rfl) bd9 rfl rfl rfl ?_
  clear hE hS; rintro e w ⟨rfl, hS⟩; refine ⟨_, rfl, ?_⟩; clear a; intro a hE
  refine WL.vS hS hE (runs_plain rfl) (Gives.p hE rfl) rfl ?_; clear hE a; intro a hE
  refine WL.nil ?_
  refine W.ret ?_
  refine finG (fn := Try.f8) (rs := [.tmp 3]) (vs := [_]) hE rfl ⟨rfl, trivial⟩ ?_
  subst hr
  exact ⟨rfl, hS⟩
set_option maxHeartbeats 8000000 in
theorem FareWay_2_v1_ok  {w : World} {s : Sg} {R : List HP} {pb0 : Nat} {pb1 : Nat} {x0 : Int} {y1 : List (List Int)} {a_y1_0 : Option Addr} {c_y1_0 : Nat} (hS : St w s (pt pb0 (.cells #[.func (.func 8) #[] #[.pointer (some ⟨pb1, 0, none⟩)]] 31 (0, 0)) :: pt pb1 (.cells #[.slice a_y1_0 y1.length c_y1_0] 22 (0, 0)) :: R)) (h_y1_0 : Sl 1 (RL 1 (RI .i64)) s a_y1_0 c_y1_0 y1) {r : Bool} (hr : FareWay_2_v1 x0 y1 = r) :
    Calls Try.prog 11 [.int .i64 x0, .pointer (some ⟨pb0, 0, none⟩)].toArray w (fun e w => e = .returned (.bool r) ∧ St w s (pt pb0 (.cells #[.func (.func 8) #[] #[.pointer (some ⟨pb1, 0, none⟩)]] 31 (0, 0)) :: pt pb1 (.cells #[.slice a_y1_0 y1.length c_y1_0] 22 (0, 0)) :: R)) := by
  refine enter Try.func11 rfl rfl rfl fun a hE => ?_
  rw [FareWay_2_v1] at hr
  refine W.seq ?_
  refine W.region ?_
  refine WL.vS hS hE (runs_plain rfl) (Gives.p hE rfl) rfl ?_; clear hE a; intro a hE
  refine WL.nil ?_
  refine W.seq ?_
  refine W.region ?_
  refine WL.vS hS hE (runs_plain rfl) (Gives.loadB hE 0 rfl rfl rfl ty31) rfl ?_; clear hE a; intro a hE
  refine WL.vS hS hE (runs_plain rfl) (Gives.p hE rfl) rfl ?_; clear hE a; intro a hE
  replace hS := hS.front 1 rfl
  refine WL.fnw hE (FareWay_1_v1_ok hS h_y1_0 rfl (r := FareWay_1_v1 x0 y1)) rfl (runs_plain rfl) bd8 rfl rfl rfl ?_
  clear hE hS; rintro e w ⟨rfl, hS⟩; refine ⟨_, rfl, ?_⟩; clear a; intro a hE
  refine WL.vS hS hE (runs_plain rfl) (Gives.p hE rfl) rfl ?_; clear hE a; intro a hE
  refine WL.vS hS hE (runs_plain rfl) (Gives.p hE rfl) rfl ?_; clear hE a; intro a hE
  refine WL.nil ?_
  refine W.ret ?_
  refine finG (fn := Try.f11) (rs := [.tmp 3]) (vs := [_]) hE rfl ⟨rfl, trivial⟩ ?_
  subst hr
  replace hS := hS.front 1 rfl
  exact ⟨rfl, hS⟩
set_option maxHeartbeats 8000000 in
theorem SlicesIndexFuncLint_v1_ok  {w : World} {s : Sg} {R : List HP} {pb0 : Nat} {pb1 : Nat} {x0 : List Int} {a0 : Option Addr} {c0 : Nat} {y1 : List (List Int)} {a_y1_0 : Option Addr} {c_y1_0 : Nat} (hS : St w s (pt pb0 (.cells #[.func (.func 8) #[] #[.pointer (some ⟨pb1, 0, none⟩)]] 31 (0, 0)) :: pt pb1 (.cells #[.slice a_y1_0 y1.length c_y1_0] 22 (0, 0)) :: R)) (h0 : Sl 1 (RI .i64) s a0 c0 x0) (h_y1_0 : Sl 1 (RL 1 (RI .i64)) s a_y1_0 c_y1_0 y1) {r : Int} (hr : SlicesIndexFuncLint_v1 x0 y1 = r) :
    Calls Try.prog 17 [.slice a0 x0.length c0, .func (.func 11) #[] #[.pointer (some ⟨pb0, 0, none⟩)]].toArray w (fun e w => e = .returned (.int .i64 r) ∧ St w s (pt pb0 (.cells #[.func (.func 8) #[] #[.pointer (some ⟨pb1, 0, none⟩)]] 31 (0, 0)) :: pt pb1 (.cells #[.slice a_y1_0 y1.length c_y1_0] 22 (0, 0)) :: R)) := by
  refine enter Try.func17 rfl rfl rfl fun a hE => ?_
  rw [SlicesIndexFuncLint_v1] at hr
  refine W.seq ?_
  refine W.region ?_
  refine WL.vS hS hE (runs_plain rfl) (Gives.p hE rfl) rfl ?_; clear hE a; intro a hE
  refine WL.nil ?_
  refine W.seq ?_
  refine W.seq ?_
  refine W.region ?_
  refine WL.vS hS hE (runs_plain rfl) (Gives.p hE rfl) rfl ?_; clear hE a; intro a hE
  refine WL.vS hS hE (runs_plain rfl) (Gives.len hE rfl sl23) rfl ?_; clear hE a; intro a hE
  refine WL.vS hS hE (runs_plain rfl) (Gives.p hE rfl) rfl ?_; clear hE a; intro a hE
  refine WL.nil ?_
  obtain ⟨q52, hq51, hr⟩ := bndS hr
  refine W.cut (fun a w => (.next ()) = q52 ∧ Rep a 19 [] ∧ St w s (pt pb0 (.cells #[.func (.func 8) #[] #[.pointer (some ⟨pb1, 0, none⟩)]] 31 (0, 0)) :: pt pb1 (.cells #[.slice a_y1_0 y1.length c_y1_0] 22 (0, 0)) :: R)) ?_ ?_
  · refine W.block ?_
    refine W.loop (fun m a w => ∃ (rest55 : List Int) (k53 : Nat), rest55.length = m ∧ x0.drop k53 = rest55 ∧ SlicesIndexFuncLint_v1.loop1 y1 rest55 k53 = q52 ∧ Rep a 19 [(0, .slice a0 x0.length c0), (1, .func (.func 11) #[] #[.pointer (some ⟨pb0, 0, none⟩)]), (7, .int .i64 ((x0).length : Int)), (8, .int .i64 ((k53 : Nat) : Int))] ∧ St w s (pt pb0 (.cells #[.func (.func 8) #[] #[.pointer (some ⟨pb1, 0, none⟩)]] 31 (0, 0)) :: pt pb1 (.cells #[.slice a_y1_0 y1.length c_y1_0] 22 (0, 0)) :: R)) (m := x0.length) ⟨x0, 0, rfl, rfl, hq51, hE.pick _ ⟨rfl, rfl, rfl, rfl, trivial⟩, hS⟩ ?_
    clear hE hS a w hq51; rintro m59 a w ⟨rest55, k53, rfl, hd56, hq51, hE, hS⟩
    refine W.gen fun K62 hK62 => ?_
    rcases rest55 with _ | ⟨x54, rest55⟩
    · have hlt57 := drop_nil hd56
      refine W.seq ?_
      refine W.region ?_
      refine WL.vS hS hE (runs_plain rfl) (Gives.p hE rfl) rfl ?_; clear hE a; intro a hE
      refine WL.nil ?_
      refine W.seq ?_
      refine W.condF hE rfl (decide_eq_false (by omega)) ?_
      subst hK62
      refine W.exit rfl ?_
      exact ⟨hq51, hE.pick _ trivial, hS⟩
    · obtain ⟨hlt57, hx58, hd56⟩ := drop_cons hd56
      rw [SlicesIndexFuncLint_v1.loop1] at hq51
      refine W.seq ?_
      refine W.region ?_
      refine WL.vS hS hE (runs_plain rfl) (Gives.p hE rfl) rfl ?_; clear hE a; intro a hE
      refine WL.nil ?_
      refine W.seq ?_
      refine W.condT hE rfl (decide_eq_true (by omega)) ?_
      refine W.skip ?_
      refine W.seq ?_
      refine W.block ?_
      refine W.seq ?_
      refine W.region ?_
      refine WL.vS hS hE (runs_plain rfl) (Gives.p hE rfl) rfl ?_; clear hE a; intro a hE
      refine WL.vS hS hE (runs_plain rfl) (Gives.p hE rfl) rfl ?_; clear hE a; intro a hE
      refine WL.nil ?_
      refine W.seq ?_
      refine W.region ?_
      refine WL.vS hS hE (runs_plain rfl) (Gives.p hE rfl) rfl ?_; clear hE a; intro a hE
      refine WL.vS hS hE (runs_plain rfl) (Gives.p hE rfl) rfl ?_; clear hE a; intro a hE
      refine WL.vS hS hE (runs_plain rfl) (Gives.p hE rfl) rfl ?_; clear hE a; intro a hE
      obtain ⟨cs63, hl64, hR65, hat66⟩ := h0.at hx58
      subst hR65
      refine WL.vS hS hE (runs_plain rfl) (Gives.idx hE k53 rfl rfl sl23 rfl hlt57 (h0.aok hlt57)) rfl ?_; clear hE a; intro a hE
      refine WL.vS hS hE (runs_plain rfl) (Gives.load1 hE rfl (fun w h => hat66 w _ h) ty3) rfl ?_; clear hE a; intro a hE
      refine WL.fnw hE (FareWay_2_v1_ok hS h_y1_0 rfl (r := FareWay_2_v1 x54 y1)) rfl (runs_plain rfl) bd11 rfl rfl rfl ?_
      clear hE hS; rintro e w ⟨rfl, hS⟩; refine ⟨_, rfl, ?_⟩; clear a; intro a hE
      refine WL.nil ?_
      refine W.cond hE rfl (fun hc67 => ?_) (fun hc67 => ?_)
      · replace hq51 := iteT hc67 hq51
        refine W.seq ?_
        refine W.region ?_
        refine WL.vS hS hE (runs_plain rfl) (Gives.p hE rfl) rfl ?_; clear hE a; intro a hE
        refine WL.vS hS hE (runs_plain rfl) (Gives.p hE rfl) rfl ?_; clear hE a; intro a hE
        refine WL.nil ?_
        refine W.ret ?_
        subst hK62
        rw [← hq51] at hr
        dsimp only at hr
        refine finG (fn := Try.f17) (rs := [.tmp 4]) (vs := [_]) hE rfl ⟨rfl, trivial⟩ ?_
        subst hr
        exact ⟨rfl, hS⟩
      · replace hq51 := iteF hc67 hq51
        refine W.skip ?_
        refine W.region ?_
        refine WL.vS hS hE (runs_plain rfl) (Gives.inc hE rfl (by have := h0.small; omega)) rfl ?_; clear hE a; intro a hE
        refine WL.vS hS hE (runs_plain rfl) (Gives.p hE rfl) rfl ?_; clear hE a; intro a hE
        refine WL.nil ?_
        subst hK62
        exact ⟨rest55.length, Nat.lt_succ_self _, rest55, k53 + 1, rfl, hd56, hq51, hE.pick _ ⟨rfl, rfl, rfl, rfl, trivial⟩, hS⟩
  · clear hE hS a w; rintro a w ⟨rfl, hE, hS⟩
    dsimp only at hr
    refine W.seq ?_
    refine W.region ?_
    refine WL.vS hS hE (runs_plain rfl) (Gives.p hE rfl) rfl ?_; clear hE a; intro a hE
    refine WL.nil ?_
    refine W.ret ?_
    refine finG (fn := Try.f17) (rs := [.tmp 4]) (vs := [_]) hE rfl ⟨rfl, trivial⟩ ?_
    subst hr
    exact ⟨rfl, hS⟩
set_option maxHeartbeats 8000000 in
theorem SlicesContainsFuncLint_v1_ok  {w : World} {s : Sg} {R : List HP} {pb0 : Nat} {pb1 : Nat} {x0 : List Int} {a0 : Option Addr} {c0 : Nat} {y1 : List (List Int)} {a_y1_0 : Option Addr} {c_y1_0 : Nat} (hS : St w s (pt pb0 (.cells #[.func (.func 8) #[] #[.pointer (some ⟨pb1, 0, none⟩)]] 31 (0, 0)) :: pt pb1 (.cells #[.slice a_y1_0 y1.length c_y1_0] 22 (0, 0)) :: R)) (h0 : Sl 1 (RI .i64) s a0 c0 x0) (h_y1_0 : Sl 1 (RL 1 (RI .i64)) s a_y1_0 c_y1_0 y1) {r : Bool} (hr : SlicesContainsFuncLint_v1 x0 y1 = r) :
    Calls Try.prog 10 [.slice a0 x0.length c0, .func (.func 11) #[] #[.pointer (some ⟨pb0, 0, none⟩)]].toArray w (fun e w => e = .returned (.bool r) ∧ St w s (pt pb0 (.cells #[.func (.func 8) #[] #[.pointer (some ⟨pb1, 0, none⟩)]] 31 (0, 0)) :: pt pb1 (.cells #[.slice a_y1_0 y1.length c_y1_0] 22 (0, 0)) :: R)) := by
  refine enter Try.func10 rfl rfl rfl fun a hE => ?_
  rw [SlicesContainsFuncLint_v1] at hr
  refine W.seq ?_
  refine W.region ?_
  refine WL.vS hS hE (runs_plain rfl) (Gives.p hE rfl) rfl ?_; clear hE a; intro a hE
  refine WL.nil ?_
  refine W.seq ?_
  refine W.region ?_
  refine WL.vS hS hE (runs_plain rfl) (Gives.p hE rfl) rfl ?_; clear hE a; intro a hE
  refine WL.vS hS hE (runs_plain rfl) (Gives.p hE rfl) rfl ?_; clear hE a; intro a hE
  refine WL.fnq hE (SlicesIndexFuncLint_v1_ok hS h0 h_y1_0 rfl (r := SlicesIndexFuncLint_v1 x0 y1)) (runs_plain rfl) bd17 rfl rfl rfl ?_
  clear hE hS; rintro e w ⟨rfl, hS⟩; refine ⟨_, rfl, ?_⟩; clear a; intro a hE
  refine WL.vS hS hE (runs_plain rfl) (Gives.p hE rfl) rfl ?_; clear hE a; intro a hE
  refine WL.vS hS hE (runs_plain rfl) (Gives.p hE rfl) rfl ?_; clear hE a; intro a hE
  refine WL.nil ?_
  refine W.ret ?_
  refine finG (fn := Try.f10) (rs := [.tmp 4]) (vs := [_]) hE rfl ⟨rfl, trivial⟩ ?_
  subst hr
  exact ⟨rfl, hS⟩
set_option maxHeartbeats 8000000 in
theorem MathBitsMul64_ok  {w : World} {s : Sg} {R : List HP} {x0 : Int} {x1 : Int} (hS : St w s (R))  {r : Int × Int} (hr : MathBitsMul64 x0 x1 = r) :
    Calls Try.prog 26 [.int .u64 x0, .int .u64 x1].toArray w (fun e w => e = .returned (.tuple #[.int .u64 r.1, .int .u64 r.2]) ∧ St w s (R)) := by
  refine enter Try.func26 rfl rfl rfl fun a hE => ?_
  rw [MathBitsMul64] at hr
  refine W.seq ?_
  refine W.region ?_
  refine WL.vS hS hE (runs_plain rfl) (Gives.p hE rfl) rfl ?_; clear hE a; intro a hE
  refine WL.vS hS hE (runs_plain rfl) (Gives.p hE rfl) rfl ?_; clear hE a; intro a hE
  refine WL.nil ?_
  refine W.seq ?_
  refine W.region ?_
  refine WL.vS hS hE (runs_plain rfl) (Gives.p hE rfl) rfl ?_; clear hE a; intro a hE
  refine WL.vS hS hE (runs_plain rfl) (Gives.p hE rfl) rfl ?_; clear hE a; intro a hE
  refine WL.vS hS hE (runs_plain rfl) (Gives.p hE rfl) rfl ?_; clear hE a; intro a hE
  refine WL.nil ?_
  refine W.seq ?_
  refine W.region ?_
  refine WL.vS hS hE (runs_plain rfl) (Gives.p hE rfl) rfl ?_; clear hE a; intro a hE
  refine WL.vS hS hE (runs_plain rfl) (Gives.shr hE rfl rfl (by decide)) rfl ?_; clear hE a; intro a hE
  refine WL.vS hS hE (runs_plain rfl) (Gives.p hE rfl) rfl ?_; clear hE a; intro a hE
  refine WL.nil ?_
  refine W.seq ?_
  refine W.region ?_
  refine WL.vS hS hE (runs_plain rfl) (Gives.p hE rfl) rfl ?_; clear hE a; intro a hE
  refine WL.vS hS hE (runs_plain rfl) (Gives.p hE rfl) rfl ?_; clear hE a; intro a hE
  refine WL.vS hS hE (runs_plain rfl) (Gives.p hE rfl) rfl ?_; clear hE a; intro a hE
  refine WL.nil ?_
  refine W.seq ?_
  refine W.region ?_
  refine WL.vS hS hE (runs_plain rfl) (Gives.p hE rfl) rfl ?_; clear hE a; intro a hE
  refine WL.vS hS hE (runs_plain rfl) (Gives.shr hE rfl rfl (by decide)) rfl ?_; clear hE a; intro a hE
  refine WL.vS hS hE (runs_plain rfl) (Gives.p hE rfl) rfl ?_; clear hE a; intro a hE
  refine WL.nil ?_
  refine W.seq ?_
  refine W.region ?_
  refine WL.vS hS hE (runs_plain rfl) (Gives.p hE rfl) rfl ?_; clear hE a; intro a hE
  refine WL.vS hS hE (runs_plain rfl) (Gives.p hE rfl) rfl ?_; clear hE a; intro a hE
  refine WL.vS hS hE (runs_plain rfl) (Gives.p hE rfl) rfl ?_; clear hE a; intro a hE
  refine WL.vS hS hE (runs_plain rfl) (Gives.p hE rfl) rfl ?_; clear hE a; intro a hE
  refine WL.nil ?_
  refine W.seq ?_
  refine W.region ?_
  refine WL.vS hS hE (runs_plain rfl) (Gives.p hE rfl) rfl ?_; clear hE a; intro a hE
  refine WL.vS hS hE (runs_plain rfl) (Gives.p hE rfl) rfl ?_; clear hE a; intro a hE
  refine WL.vS hS hE (runs_plain rfl) (Gives.p hE rfl) rfl ?_; clear hE a; intro a hE
  refine WL.vS hS hE (runs_plain rfl) (Gives.p hE rfl) rfl ?_; clear hE a; intro a hE
  refine WL.vS hS hE (runs_plain rfl) (Gives.shr hE rfl rfl (by decide)) rfl ?_; clear hE a; intro a hE
  refine WL.vS hS hE (runs_plain rfl) (Gives.p hE rfl) rfl ?_; clear hE a; intro a hE
  refine WL.vS hS hE (runs_plain rfl) (Gives.p hE rfl) rfl ?_; clear hE a; intro a hE
  refine WL.nil ?_
  refine W.seq ?_
  refine W.region ?_
  refine WL.vS hS hE (runs_plain rfl) (Gives.p hE rfl) rfl ?_; clear hE a; intro a hE
  refine WL.vS hS hE (runs_plain rfl) (Gives.p hE rfl) rfl ?_; clear hE a; intro a hE
  refine WL.vS hS hE (runs_plain rfl) (Gives.p hE rfl) rfl ?_; clear hE a; intro a hE
  refine WL.nil ?_
  refine W.seq ?_
  refine W.region ?_
  refine WL.vS hS hE (runs_plain rfl) (Gives.p hE rfl) rfl ?_; clear hE a; intro a hE
  refine WL.vS hS hE (runs_plain rfl) (Gives.shr hE rfl rfl (by decide)) rfl ?_; clear hE a; intro a hE
  refine WL.vS hS hE (runs_plain rfl) (Gives.p hE rfl) rfl ?_; clear hE a; intro a hE
  refine WL.nil ?_
  refine W.seq ?_
  refine W.region ?_
  refine WL.vS hS hE (runs_plain rfl) (Gives.p hE rfl) rfl ?_; clear hE a; intro a hE
  refine WL.vS hS hE (runs_plain rfl) (Gives.p hE rfl) rfl ?_; clear hE a; intro a hE
  refine WL.vS hS hE (runs_plain rfl) (Gives.p hE rfl) rfl ?_; clear hE a; intro a hE
  refine WL.vS hS hE (runs_plain rfl) (Gives.p hE rfl) rfl ?_; clear hE a; intro a hE
  refine WL.vS hS hE (runs_plain rfl) (Gives.p hE rfl) rfl ?_; clear hE a; intro a hE
  refine WL.vS hS hE (runs_plain rfl) (Gives.p hE rfl) rfl ?_; clear hE a; intro a hE
  refine WL.nil ?_
  refine W.seq ?_
  refine W.region ?_
  refine WL.vS hS hE (runs_plain rfl) (Gives.p hE rfl) rfl ?_; clear hE a; intro a hE
  refine WL.vS hS hE (runs_plain rfl) (Gives.p hE rfl) rfl ?_; clear hE a; intro a hE
  refine WL.vS hS hE (runs_plain rfl) (Gives.p hE rfl) rfl ?_; clear hE a; intro a hE
  refine WL.vS hS hE (runs_plain rfl) (Gives.p hE rfl) rfl ?_; clear hE a; intro a hE
  refine WL.vS hS hE (runs_plain rfl) (Gives.p hE rfl) rfl ?_; clear hE a; intro a hE
  refine WL.vS hS hE (runs_plain rfl) (Gives.p hE rfl) rfl ?_; clear hE a; intro a hE
  refine WL.vS hS hE (runs_plain rfl) (Gives.shr hE rfl rfl (by decide)) rfl ?_; clear hE a; intro a hE
  refine WL.vS hS hE (runs_plain rfl) (Gives.p hE rfl) rfl ?_; clear hE a; intro a hE
  refine WL.vS hS hE (runs_plain rfl) (Gives.p hE rfl) rfl ?_; clear hE a; intro a hE
  refine WL.nil ?_
  refine W.seq ?_
  refine W.region ?_
  refine WL.vS hS hE (runs_plain rfl) (Gives.p hE rfl) rfl ?_; clear hE a; intro a hE
  refine WL.vS hS hE (runs_plain rfl) (Gives.p hE rfl) rfl ?_; clear hE a; intro a hE
  refine WL.vS hS hE (runs_plain rfl) (Gives.p hE rfl) rfl ?_; clear hE a; intro a hE
  refine WL.vS hS hE (runs_plain rfl) (Gives.p hE rfl) rfl ?_; clear hE a; intro a hE
  refine WL.nil ?_
  refine W.ret ?_
  refine finG (fn := Try.f26) (rs := [.tmp 4, .tmp 5]) (vs := [_, _]) hE rfl ⟨rfl, rfl, trivial⟩ ?_
  subst hr
  exact ⟨rfl, hS⟩
set_option maxHeartbeats 8000000 in
theorem MathBitsMul_ok  {w : World} {s : Sg} {R : List HP} {x0 : Int} {x1 : Int} (hS : St w s (R))  {r : Int × Int} (hr : MathBitsMul x0 x1 = r) :
    Calls Try.prog 18 [.int .u64 x0, .int .u64 x1].toArray w (fun e w => e = .returned (.tuple #[.int .u64 r.1, .int .u64 r.2]) ∧ St w s (R)) := by
  refine enter Try.func18 rfl rfl rfl fun a hE => ?_
  rw [MathBitsMul] at hr
  refine W.seq ?_
  refine W.region ?_
  refine WL.vS hS hE (runs_plain rfl) (Gives.p hE rfl) rfl ?_; clear hE a; intro a hE
  refine WL.vS hS hE (runs_plain rfl) (Gives.p hE rfl) rfl ?_; clear hE a; intro a hE
  refine WL.nil ?_
  refine W.seq ?_
  refine W.condF hE rfl rfl ?_
  refine W.skip ?_
  refine W.seq ?_
  refine W.region ?_
  refine WL.vS hS hE (runs_plain rfl) (Gives.p hE rfl) rfl ?_; clear hE a; intro a hE
  refine WL.vS hS hE (runs_plain rfl) (Gives.p hE rfl) rfl ?_; clear hE a; intro a hE
  obtain ⟨q51, hq52, hr⟩ := bndS hr
  have hc_ := MathBitsMul64_ok hS  hq52
  refine WL.fnq hE (hc_) (runs_plain rfl) bd26 rfl rfl rfl ?_
  clear hE hS hc_; rintro e w ⟨rfl, hS⟩; refine ⟨_, rfl, ?_⟩; clear a; intro a hE
  refine WL.vS hS hE (runs_plain rfl) (Gives.p hE rfl) rfl ?_; clear hE a; intro a hE
  refine WL.vS hS hE (runs_plain rfl) (Gives.p hE rfl) rfl ?_; clear hE a; intro a hE
  refine WL.vS hS hE (runs_plain rfl) (Gives.p hE rfl) rfl ?_; clear hE a; intro a hE
  refine WL.vS hS hE (runs_plain rfl) (Gives.p hE rfl) rfl ?_; clear hE a; intro a hE
  refine WL.vS hS hE (runs_plain rfl) (Gives.p hE rfl) rfl ?_; clear hE a; intro a hE
  refine WL.nil ?_
  refine W.seq ?_
  refine W.region ?_
  refine WL.vS hS hE (runs_plain rfl) (Gives.p hE rfl) rfl ?_; clear hE a; intro a hE
  refine WL.vS hS hE (runs_plain rfl) (Gives.p hE rfl) rfl ?_; clear hE a; intro a hE
  refine WL.vS hS hE (runs_plain rfl) (Gives.p hE rfl) rfl ?_; clear hE a; intro a hE
  refine WL.vS hS hE (runs_plain rfl) (Gives.p hE rfl) rfl ?_; clear hE a; intro a hE
  refine WL.nil ?_
  refine W.ret ?_
  refine finG (fn := Try.f18) (rs := [.tmp 4, .tmp 5]) (vs := [_, _]) hE rfl ⟨rfl, rfl, trivial⟩ ?_
  subst hr
  exact ⟨rfl, hS⟩
set_option maxHeartbeats 8000000 in
theorem SlicesRepeatLint_ok {fu : Nat}  {w : World} {s : Sg} {R : List HP} {x0 : List Int} {a0 : Option Addr} {c0 : Nat} {x1 : Int} (hS : St w s (R)) (h0 : Sl 1 (RI .i64) s a0 c0 x0) {r : (List Int)} (hr : SlicesRepeatLint fu x0 x1 = some r) :
    Calls Try.prog 12 [.slice a0 x0.length c0, .int .i64 x1].toArray w (fun e w => ∃ (a0 : Option Addr) (c0 n0 : Nat) (cs0 : List Value), e = .returned (.slice a0 n0 c0) ∧ Ev 1 (RI .i64) s cs0 r ∧ r.length = n0 ∧ St w s (vecC 3 1 a0 c0 n0 cs0 :: R)) := by
  refine enter Try.func12 rfl rfl rfl fun a hE => ?_
  rw [SlicesRepeatLint] at hr
  refine W.seq ?_
  refine W.region ?_
  refine WL.vS hS hE (runs_plain rfl) (Gives.p hE rfl) rfl ?_; clear hE a; intro a hE
  refine WL.nil ?_
  refine W.seq ?_
  refine W.seq ?_
  refine W.region ?_
  refine WL.vS hS hE (runs_plain rfl) (Gives.p hE rfl) rfl ?_; clear hE a; intro a hE
  refine WL.vS hS hE (runs_plain rfl) (Gives.p hE rfl) rfl ?_; clear hE a; intro a hE
  refine WL.nil ?_
  refine W.cond hE rfl (fun hc51 => ?_) (fun hc51 => ?_)
  · replace hr := iteT hc51 hr
    refine W.region ?_
    exact absurd hr (by simp)
  · replace hr := iteF hc51 hr
    refine W.skip ?_
    refine W.seq ?_
    refine W.region ?_
    refine WL.vS hS hE (runs_plain rfl) (Gives.p hE rfl) rfl ?_; clear hE a; intro a hE
    refine WL.vS hS hE (runs_plain rfl) (Gives.len hE rfl sl23) rfl ?_; clear hE a; intro a hE
    refine WL.vS hS hE (runs_plain rfl) (Gives.conv hE rfl hu3 ui56) rfl ?_; clear hE a; intro a hE
    refine WL.vS hS hE (runs_plain rfl) (Gives.p hE rfl) rfl ?_; clear hE a; intro a hE
    refine WL.vS hS hE (runs_plain rfl) (Gives.conv hE rfl hu3 ui56) rfl ?_; clear hE a; intro a hE
    obtain ⟨q52, hq53, hr⟩ := bndS hr
    have hc_ := MathBitsMul_ok hS  hq53
    refine WL.fnq hE (hc_) (runs_plain rfl) bd18 rfl rfl rfl ?_
    clear hE hS hc_; rintro e w ⟨rfl, hS⟩; refine ⟨_, rfl, ?_⟩; clear a; intro a hE
    refine WL.vS hS hE (runs_plain rfl) (Gives.p hE rfl) rfl ?_; clear hE a; intro a hE
    refine WL.vS hS hE (runs_plain rfl) (Gives.p hE rfl) rfl ?_; clear hE a; intro a hE
    refine WL.vS hS hE (runs_plain rfl) (Gives.p hE rfl) rfl ?_; clear hE a; intro a hE
    refine WL.vS hS hE (runs_plain rfl) (Gives.p hE rfl) rfl ?_; clear hE a; intro a hE
    refine WL.vS hS hE (runs_plain rfl) (Gives.p hE rfl) rfl ?_; clear hE a; intro a hE
    refine WL.nil ?_
    refine W.seq ?_
    refine W.seq ?_
    obtain ⟨q55, hq54, hr⟩ := bndS hr
    refine W.cut (fun a w => ∃ (q58 : Bool), q58 = q55 ∧ Rep a 48 [(0, .slice a0 x0.length c0), (6, .int .u64 q52.2), (26, .bool q58)] ∧ St w s (R)) ?_ ?_
    · refine W.gen fun K59 hK59 => ?_
      refine W.region ?_
      refine WL.vS hS hE (runs_plain rfl) (Gives.p hE rfl) rfl ?_; clear hE a; intro a hE
      refine WL.vS hS hE (runs_plain rfl) (Gives.p hE rfl) rfl ?_; clear hE a; intro a hE
      refine WL.vS hS hE (runs_plain rfl) (Gives.p hE rfl) rfl ?_; clear hE a; intro a hE
      rcases Bool.eq_false_or_eq_true (decide (q52.1 > 0)) with hg60 | hg60
      · replace hq54 := iteT hg60 hq54
        refine WL.no hE (runs_not hE rfl rfl rfl (by rw [hg60]; decide)) rfl ?_; clear hE a; intro a hE
        refine WL.no hE (runs_not hE rfl rfl rfl (by rw [hg60]; decide)) rfl ?_; clear hE a; intro a hE
        refine WL.vS hS hE (runs_plain rfl) (Gives.pickT hE rfl hg60 rfl) rfl ?_; clear hE a; intro a hE
        refine WL.nil ?_
        subst hK59
        exact ⟨true, hq54, hE.pick _ ⟨rfl, rfl, rfl, trivial⟩, hS⟩
      · replace hq54 := iteF hg60 hq54
        refine WL.vS hS hE (runs_if hE rfl rfl rfl hg60) (Gives.p hE rfl) rfl ?_; clear hE a; intro a hE
        refine WL.vS hS hE (runs_if hE rfl rfl rfl hg60) (Gives.p hE rfl) rfl ?_; clear hE a; intro a hE
        refine WL.vS hS hE (runs_plain rfl) (Gives.pickF hE rfl hg60 rfl) rfl ?_; clear hE a; intro a hE
        refine WL.nil ?_
        subst hK59
        exact ⟨decide (q52.2 > 9223372036854775807), hq54, hE.pick _ ⟨rfl, rfl, rfl, trivial⟩, hS⟩
    · clear hE hS a w; rintro a w ⟨q58, rfl, hE, hS⟩
      refine W.cond hE rfl (fun hc61 => ?_) (fun hc61 => ?_)
      · replace hr := iteT hc61 hr
        refine W.region ?_
        exact absurd hr (by simp)
      · replace hr := iteF hc61 hr
        refine W.skip ?_
        refine W.seq ?_
        refine W.region ?_
        refine WL.vS hS hE (runs_plain rfl) (Gives.p hE rfl) rfl ?_; clear hE a; intro a hE
        refine WL.vS hS hE (runs_plain rfl) (Gives.conv hE rfl hu56 ui3) rfl ?_; clear hE a; intro a hE
        obtain ⟨x62, hx63, hr⟩ := bindS hr
        refine WL.mkD (Rr := RI .i64) hE hS (runs_plain rfl) rfl rfl ap23 zr3 rfl hx63 rfl ?_; clear hE hS a w; intro b64 cs65 a w h66 hE hS
        refine WL.vS hS hE (runs_plain rfl) (Gives.p hE rfl) rfl ?_; clear hE a; intro a hE
        refine WL.nil ?_
        refine W.seq ?_
        refine W.region ?_
        refine WL.vS hS hE (runs_plain rfl) (Gives.p hE rfl) rfl ?_; clear hE a; intro a hE
        refine WL.vS hS hE (runs_plain rfl) (Gives.p hE rfl) rfl ?_; clear hE a; intro a hE
        obtain ⟨x68, hx69, hr⟩ := bndS hr
        refine WL.cpS hE hS 0 (runs_plain rfl) cp23 (by rw [sliced_zero]; rfl) rfl rfl (Nat.zero_le _) (Nat.le_refl _) h66 rfl RI.one h0 rfl rfl ?_; clear hE hS a w; intro cs70 a w h71 hE hS
        have hn72 : x68.length = x62.length := by rw [← hx69, cpl_length (Nat.zero_le _) (by omega)]; try rfl
        rw [hx69] at h71
        refine WL.vS hS hE (runs_plain rfl) (Gives.p hE rfl) rfl ?_; clear hE a; intro a hE
        refine WL.nil ?_
        refine W.seq ?_
        obtain ⟨q74, hq73, hr⟩ := bindS hr
        refine W.cut (fun a w => ∃ (q79 : Int), ∃ (q80 : List Int), ∃ (cs84 : List Value), (q79, q80) = q74 ∧ Ev 1 (RI .i64) s cs84 q80 ∧ q80.length = x62.length ∧ Rep a 48 [(7, .slice (some ⟨b64, 0, none⟩) x62.length x62.length)] ∧ St w s (vecC 3 1 (some ⟨b64, 0, none⟩) x62.length x62.length cs84 :: R)) ?_ ?_
        · refine W.block ?_
          refine W.loop (fun m a w => ∃ (n75 : Nat), ∃ (q79 : Int), ∃ (q80 : List Int), ∃ (cs84 : List Value), n75 = m ∧ SlicesRepeatLint.loop1 x62 n75 q79 q80 = some q74 ∧ Ev 1 (RI .i64) s cs84 q80 ∧ q80.length = x62.length ∧ Rep a 48 [(7, .slice (some ⟨b64, 0, none⟩) x62.length x62.length), (8, .int .i64 q79)] ∧ St w s (vecC 3 1 (some ⟨b64, 0, none⟩) x62.length x62.length cs84 :: R)) (m := fu) ⟨fu, ((min x0.length (x62.length - 0) : Nat) : Int), x68, cs70, rfl, hq73, h71, hn72, hE.pick _ ⟨rfl, rfl, trivial⟩, hS⟩ ?_
          clear hE hS a w hq73; rintro m76 a w ⟨n75, q79, q80, cs84, rfl, hq73, h83, hn85, hE, hS⟩
          refine W.gen fun K86 hK86 => ?_
          rcases n75 with _ | n75
          · rw [SlicesRepeatLint.loop1] at hq73; exact absurd hq73 (by simp)
          rw [SlicesRepeatLint.loop1] at hq73
          refine W.seq ?_
          refine W.seq ?_
          refine W.region ?_
          refine WL.vS hS hE (runs_plain rfl) (Gives.p hE rfl) rfl ?_; clear hE a; intro a hE
          refine WL.vS hS hE (runs_plain rfl) (Gives.p hE rfl) rfl ?_; clear hE a; intro a hE
          refine WL.vS hS hE (runs_plain rfl) (Gives.len hE rfl sl23) rfl ?_; clear hE a; intro a hE
          refine WL.vS hS hE (runs_plain rfl) (Gives.p hE rfl) rfl ?_; clear hE a; intro a hE
          refine WL.nil ?_
          refine W.cond hE rfl (fun hc87 => ?_) (fun hc87 => ?_)
          · replace hq73 := iteT hc87 hq73
            refine W.skip ?_
            refine W.block ?_
            refine W.gen fun K88 hK88 => ?_
            refine rE hS [0] [0] [0, 1, 2, 3, 4, 5, 6, 7, 8, 9] [0, 1, 2, 3, 4, 5, 6, 7, 8, 9] mixed ?_
            replace hS := hS.drew
            refine Rg.takeP (i := 0) hE rfl (by kernel_rfl) (runs_plain rfl) (Gives.p hE rfl) rfl (tw_sel (fun _ => (hS.tail)) (fun _ => (hS.tail))) ?_; clear hE a; intro a hE
            refine Rg.takeP (i := 1) hE rfl (by kernel_rfl) (runs_plain rfl) (Gives.p hE rfl) rfl (tw_sel (fun _ => (hS.tail)) (fun _ => (hS.tail))) ?_; clear hE a; intro a hE
            refine Rg.takeP (i := 2) hE rfl (by kernel_rfl) (runs_plain rfl) (Gives.p hE rfl) rfl (tw_sel (fun _ => (hS.tail)) (fun _ => (hS.tail))) ?_; clear hE a; intro a hE
            obtain ⟨x89, hx90, hq73⟩ := bindS hq73
            obtain ⟨h91, h92, h93, h94, h95, h96⟩ := cutl_some hx90
            have h97 := (hS.vecCap 0 rfl).1
            refine Rg.takeP (i := 3) hE rfl (by kernel_rfl) (runs_plain rfl) (Gives.slL hE sl23 rfl rfl h91 (by have := hn85; omega) rfl) rfl (tw_sel (fun _ => (hS.tail)) (fun _ => (hS.tail))) ?_; clear hE a; intro a hE
            refine Rg.takeP (i := 4) hE rfl (by kernel_rfl) (runs_plain rfl) (Gives.p hE rfl) rfl (tw_sel (fun _ => (hS.tail)) (fun _ => (hS.tail))) ?_; clear hE a; intro a hE
            refine Rg.takeP (i := 5) hE rfl (by kernel_rfl) (runs_plain rfl) (Gives.p hE rfl) rfl (tw_sel (fun _ => (hS.tail)) (fun _ => (hS.tail))) ?_; clear hE a; intro a hE
            obtain ⟨x98, hx99, hq73⟩ := bindS hq73
            obtain ⟨h100, h101, h102, h103, h104, h105⟩ := cutl_some hx99
            have h106 := (hS.vecCap 0 rfl).1
            refine Rg.takeP (i := 6) hE rfl (by kernel_rfl) (runs_plain rfl) (Gives.slH hE sl23 rfl rfl h101 (Int.le_trans h102 (by have := hn85; omega)) rfl) rfl (tw_sel (fun _ => (hS.tail)) (fun _ => (hS.tail))) ?_; clear hE a; intro a hE
            refine Rg.one (i := 7) true true rfl (by kernel_rfl) (by kernel_rfl) (by kernel_rfl) ?_
            obtain ⟨x107, hx108, hq73⟩ := bndS hq73
            refine WL.cpO (lo2 := 0) (hi2 := (q79).toNat) hE hS 0 (runs_plain rfl) cp23 rfl rfl rfl (by have := hn85; omega) (by have := hn85; omega) (by have := hn85; omega) (by have := hn85; omega) h83 hn85 (h83.allOne RI.one) rfl ?_; clear hE hS a w; intro cs109 a w h110 hE hS
            have hn111 : x107.length = x62.length := by rw [← hx108, cpl_length (by have := hn85; omega) (by have := hn85; omega)]; try exact hn85
            rw [hx108] at h110
            refine WL.nil ?_
            refine ⟨⟨fun _ => (hS.tail), fun _ => (hS.tail)⟩, ?_⟩
            refine Rg.takeP (i := 8) hE rfl (by kernel_rfl) (runs_plain rfl) (Gives.p hE rfl) rfl (tw_sel (fun _ => (hS.tail)) (fun _ => (hS.tail))) ?_; clear hE a; intro a hE
            refine Rg.takeP (i := 9) hE rfl (by kernel_rfl) (runs_plain rfl) (Gives.p hE rfl) rfl (tw_sel (fun _ => (hS.tail)) (fun _ => (hS.tail))) ?_; clear hE a; intro a hE
            refine Rg.done (by kernel_rfl) ?_
            subst hK88
            subst hK86
            exact ⟨n75, Nat.lt_succ_self _, n75, (w64 (q79 + ((min ((q80.take ((q79).toNat)).drop 0).length (x62.length - ((q79).toNat)) : Nat) : Int))), x107, cs109, rfl, hq73, h110, hn111, hE.pick _ ⟨rfl, rfl, trivial⟩, hS⟩
          · replace hq73 := iteF hc87 hq73
            subst hK86
            refine W.exit rfl ?_
            exact ⟨q79, q80, cs84, Option.some.inj hq73, h83, hn85, hE.pick _ ⟨rfl, trivial⟩, hS⟩
        · clear hE hS a w; rintro a w ⟨q79, q80, cs84, rfl, h83, hn85, hE, hS⟩
          dsimp only at hr
          refine W.seq ?_
          refine W.region ?_
          refine WL.vS hS hE (runs_plain rfl) (Gives.p hE rfl) rfl ?_; clear hE a; intro a hE
          refine WL.vS hS hE (runs_plain rfl) (Gives.p hE rfl) rfl ?_; clear hE a; intro a hE
          refine WL.nil ?_
          refine W.ret ?_
          refine finG (fn := Try.f12) (rs := [.tmp 4]) (vs := [_]) hE rfl ⟨rfl, trivial⟩ ?_
          obtain rfl := Option.some.inj hr
          exact ⟨(some ⟨b64, 0, none⟩), x62.length, x62.length, cs84, rfl, h83, hn85, hS⟩
set_option maxHeartbeats 8000000 in
theorem FareWay_ok {fu : Nat}  {w : World} {s : Sg} {R : List HP} {x0 : List (List Int)} {a0 : Option Addr} {c0 : Nat} {x1 : Int} {x2 : Int} (hS : St w s (R)) (h0 : Sl 1 (RL 1 (RI .i64)) s a0 c0 x0) {r : (List Int) × Int} (hr : FareWay fu x0 x1 x2 = some r) :
    Calls Try.prog 4 [.slice a0 x0.length c0, .int .i64 x1, .int .i64 x2].toArray w (fun e w => ∃ (a0 : Option Addr) (c0 n0 : Nat) (cs0 : List Value) (t : Sg), e = .returned (.tuple #[.slice a0 n0 c0, .int .i64 r.2]) ∧ s.Le t ∧ Ev 1 (RI .i64) t cs0 r.1 ∧ r.1.length = n0 ∧ St w t (vecC 3 1 a0 c0 n0 cs0 :: R)) := by
  refine enter Try.func4 rfl rfl rfl fun a hE => ?_
  rw [FareWay] at hr
  refine W.seq ?_
  refine W.region ?_
  refine WL.box hE hS (runs_plain rfl) rfl rfl rfl ?_; clear hE hS a w; intro b51 a w hE hS
  refine WL.vS hS hE (runs_plain rfl) (Gives.p hE rfl) rfl ?_; clear hE a; intro a hE
  refine WL.vS hS hE (runs_plain rfl) (Gives.p hE rfl) rfl ?_; clear hE a; intro a hE
  refine WL.nil ?_
  refine W.seq ?_
  refine W.seq ?_
  refine W.region ?_
  refine WL.vS hS hE (runs_plain rfl) (Gives.loadB hE 0 rfl rfl rfl ty22) rfl ?_; clear hE a; intro a hE
  refine WL.vS hS hE (runs_plain rfl) (Gives.len hE rfl sl22) rfl ?_; clear hE a; intro a hE
  refine WL.vS hS hE (runs_plain rfl) (Gives.p hE rfl) rfl ?_; clear hE a; intro a hE
  refine WL.nil ?_
  refine W.cond hE rfl (fun hc52 => ?_) (fun hc52 => ?_)
  · replace hr := iteT hc52 hr
    refine W.seq ?_
    refine W.region ?_
    refine WL.vS hS hE (runs_plain rfl) (Gives.p hE rfl) rfl ?_; clear hE a; intro a hE
    refine WL.vS hS hE (runs_plain rfl) (Gives.p hE rfl) rfl ?_; clear hE a; intro a hE
    refine WL.nil ?_
    refine W.ret ?_
    replace hS := hS.vecNil 3 1
    refine finG (fn := Try.f4) (rs := [.tmp 6, .tmp 7]) (vs := [_, _]) hE rfl ⟨rfl, rfl, trivial⟩ ?_
    obtain rfl := Option.some.inj hr
    replace hS := hS.dropAt 1
    exact ⟨none, 0, 0, [], s, rfl, (Sg.Le.refl _), (Ev.nil), (rfl), hS⟩
  · replace hr := iteF hc52 hr
    refine W.skip ?_
    refine W.seq ?_
    refine W.region ?_
    refine WL.vS hS hE (runs_plain rfl) (Gives.mkfn hE (vs := [.pointer (some ⟨b51, 0, none⟩)]) rfl) rfl ?_; clear hE a; intro a hE
    refine WL.alloc hE hS (runs_plain rfl) zr31 rfl ?_; clear hE hS a w; intro b54 a w hE hS
    refine WL.storeI hE hS 0 rfl [.func (.func 8) #[] #[.pointer (some ⟨b51, 0, none⟩)]] (runs_plain rfl) rfl rfl rfl ty31 rfl rfl rfl rfl ?_; clear hE hS a w; intro a w hE hS
    refine WL.nil ?_
    refine W.seq ?_
    refine W.seq ?_
    refine W.region ?_
    refine WL.vS hS hE (runs_plain rfl) (Gives.loadB hE 1 rfl rfl rfl ty22) rfl ?_; clear hE a; intro a hE
    refine WL.vS hS hE (runs_plain rfl) (Gives.len hE rfl sl22) rfl ?_; clear hE a; intro a hE
    refine WL.vS hS hE (runs_plain rfl) (Gives.p hE rfl) rfl ?_; clear hE a; intro a hE
    refine WL.nil ?_
    obtain ⟨q56, hq55, hr⟩ := bndS hr
    refine W.cut (fun a w => (.next ()) = q56 ∧ Rep a 155 [(1, .int .i64 x1), (2, .int .i64 x2), (3, .pointer (some ⟨b51, 0, none⟩)), (8, .pointer (some ⟨b54, 0, none⟩))] ∧ St w s (pt b54 (.cells #[.func (.func 8) #[] #[.pointer (some ⟨b51, 0, none⟩)]] 31 (0, 0)) :: pt b51 (.cells #[.slice a0 x0.length c0] 22 (0, 0)) :: R)) ?_ ?_
    · refine W.block ?_
      refine W.loop (fun m a w => ∃ (rest59 : List (List Int)) (k57 : Nat), rest59.length = m ∧ x0.drop k57 = rest59 ∧ FareWay.loop1 x0 rest59 = q56 ∧ Rep a 155 [(1, .int .i64 x1), (2, .int .i64 x2), (3, .pointer (some ⟨b51, 0, none⟩)), (8, .pointer (some ⟨b54, 0, none⟩)), (26, .slice a0 x0.length c0), (27, .int .i64 ((x0).length : Int)), (28, .int .i64 ((k57 : Nat) : Int))] ∧ St w s (pt b54 (.cells #[.func (.func 8) #[] #[.pointer (some ⟨b51, 0, none⟩)]] 31 (0, 0)) :: pt b51 (.cells #[.slice a0 x0.length c0] 22 (0, 0)) :: R)) (m := x0.length) ⟨x0, 0, rfl, rfl, hq55, hE.pick _ ⟨rfl, rfl, rfl, rfl, rfl, rfl, rfl, trivial⟩, hS⟩ ?_
      clear hE hS a w hq55; rintro m63 a w ⟨rest59, k57, rfl, hd60, hq55, hE, hS⟩
      refine W.gen fun K66 hK66 => ?_
      rcases rest59 with _ | ⟨x58, rest59⟩
      · have hlt61 := drop_nil hd60
        refine W.seq ?_
        refine W.region ?_
        refine WL.vS hS hE (runs_plain rfl) (Gives.p hE rfl) rfl ?_; clear hE a; intro a hE
        refine WL.nil ?_
        refine W.seq ?_
        refine W.condF hE rfl (decide_eq_false (by omega)) ?_
        subst hK66
        refine W.exit rfl ?_
        exact ⟨hq55, hE.pick _ ⟨rfl, rfl, rfl, rfl, trivial⟩, hS⟩
      · obtain ⟨hlt61, hx62, hd60⟩ := drop_cons hd60
        rw [FareWay.loop1] at hq55
        refine W.seq ?_
        refine W.region ?_
        refine WL.vS hS hE (runs_plain rfl) (Gives.p hE rfl) rfl ?_; clear hE a; intro a hE
        refine WL.nil ?_
        refine W.seq ?_
        refine W.condT hE rfl (decide_eq_true (by omega)) ?_
        refine W.skip ?_
        refine W.seq ?_
        refine W.block ?_
        refine W.seq ?_
        refine W.region ?_
        obtain ⟨cs67, hl68, hR69, hat70⟩ := h0.at hx62
        obtain ⟨a71, c72, rfl, h73⟩ := hR69
        refine WL.vS hS hE (runs_plain rfl) (Gives.idx hE k57 rfl rfl sl22 rfl hlt61 (h0.aok hlt61)) rfl ?_; clear hE a; intro a hE
        refine WL.vS hS hE (runs_plain rfl) (Gives.load1 hE rfl (fun w h => hat70 w _ h) ty23) rfl ?_; clear hE a; intro a hE
        refine WL.vS hS hE (runs_plain rfl) (Gives.p hE rfl) rfl ?_; clear hE a; intro a hE
        refine WL.nil ?_
        refine W.seq ?_
        refine W.region ?_
        refine WL.vS hS hE (runs_plain rfl) (Gives.p hE rfl) rfl ?_; clear hE a; intro a hE
        refine WL.vS hS hE (runs_plain rfl) (Gives.mkfn hE (vs := [.pointer (some ⟨b54, 0, none⟩)]) rfl) rfl ?_; clear hE a; intro a hE
        refine WL.fnq hE (SlicesContainsFuncLint_v1_ok hS h73 h0 rfl (r := SlicesContainsFuncLint_v1 x58 x0)) (runs_plain rfl) bd10 rfl rfl rfl ?_
        clear hE hS; rintro e w ⟨rfl, hS⟩; refine ⟨_, rfl, ?_⟩; clear a; intro a hE
        refine WL.nil ?_
        refine W.cond hE rfl (fun hc74 => ?_) (fun hc74 => ?_)
        · replace hq55 := iteT hc74 hq55
          refine W.seq ?_
          refine W.region ?_
          refine WL.vS hS hE (runs_plain rfl) (Gives.p hE rfl) rfl ?_; clear hE a; intro a hE
          refine WL.vS hS hE (runs_plain rfl) (Gives.p hE rfl) rfl ?_; clear hE a; intro a hE
          refine WL.nil ?_
          refine W.ret ?_
          subst hK66
          rw [← hq55] at hr
          dsimp only at hr
          replace hS := hS.vecNil 3 1
          refine finG (fn := Try.f4) (rs := [.tmp 6, .tmp 7]) (vs := [_, _]) hE rfl ⟨rfl, rfl, trivial⟩ ?_
          obtain rfl := Option.some.inj hr
          replace hS := hS.dropAt 1
          replace hS := hS.dropAt 1
          exact ⟨none, 0, 0, [], s, rfl, (Sg.Le.refl _), (Ev.nil), (rfl), hS⟩
        · replace hq55 := iteF hc74 hq55
          refine W.skip ?_
          refine W.region ?_
          refine WL.vS hS hE (runs_plain rfl) (Gives.inc hE rfl (by have := h0.small; omega)) rfl ?_; clear hE a; intro a hE
          refine WL.vS hS hE (runs_plain rfl) (Gives.p hE rfl) rfl ?_; clear hE a; intro a hE
          refine WL.nil ?_
          subst hK66
          exact ⟨rest59.length, Nat.lt_succ_self _, rest59, k57 + 1, rfl, hd60, hq55, hE.pick _ ⟨rfl, rfl, rfl, rfl, rfl, rfl, rfl, trivial⟩, hS⟩
    · clear hE hS a w; rintro a w ⟨rfl, hE, hS⟩
      dsimp only at hr
      refine W.seq ?_
      refine W.seq ?_
      obtain ⟨q77, hq76, hr⟩ := bndS hr
      refine W.cut (fun a w => ∃ (q80 : Bool), q80 = q77 ∧ Rep a 155 [(1, .int .i64 x1), (2, .int .i64 x2), (3, .pointer (some ⟨b51, 0, none⟩)), (45, .bool q80)] ∧ St w s (pt b54 (.cells #[.func (.func 8) #[] #[.pointer (some ⟨b51, 0, none⟩)]] 31 (0, 0)) :: pt b51 (.cells #[.slice a0 x0.length c0] 22 (0, 0)) :: R)) ?_ ?_
      · refine W.gen fun K81 hK81 => ?_
        refine W.region ?_
        refine WL.vS hS hE (runs_plain rfl) (Gives.loadB hE 0 rfl rfl rfl ty31) rfl ?_; clear hE a; intro a hE
        refine WL.vS hS hE (runs_plain rfl) (Gives.p hE rfl) rfl ?_; clear hE a; intro a hE
        replace hS := hS.front 1 rfl
        refine WL.fnw hE (FareWay_1_v1_ok hS h0 rfl (r := FareWay_1_v1 x1 x0)) rfl (runs_plain rfl) bd8 rfl rfl rfl ?_
        clear hE hS; rintro e w ⟨rfl, hS⟩; refine ⟨_, rfl, ?_⟩; clear a; intro a hE
        refine WL.vS hS hE (runs_plain rfl) (Gives.p hE rfl) rfl ?_; clear hE a; intro a hE
        refine WL.vS hS hE (runs_plain rfl) (Gives.p hE rfl) rfl ?_; clear hE a; intro a hE
        rcases Bool.eq_false_or_eq_true (!(FareWay_1_v1 x1 x0)) with hg82 | hg82
        · replace hq76 := iteT hg82 hq76
          refine WL.no hE (runs_not hE rfl rfl rfl (by rw [hg82]; decide)) rfl ?_; clear hE a; intro a hE
          refine WL.no hE (runs_not hE rfl rfl rfl (by rw [hg82]; decide)) rfl ?_; clear hE a; intro a hE
          refine WL.no hE (runs_not hE rfl rfl rfl (by rw [hg82]; decide)) rfl ?_; clear hE a; intro a hE
          refine WL.no hE (runs_not hE rfl rfl rfl (by rw [hg82]; decide)) rfl ?_; clear hE a; intro a hE
          refine WL.vS hS hE (runs_plain rfl) (Gives.pickT hE rfl hg82 rfl) rfl ?_; clear hE a; intro a hE
          refine WL.nil ?_
          replace hS := hS.front 1 rfl
          subst hK81
          exact ⟨true, hq76, hE.pick _ ⟨rfl, rfl, rfl, rfl, trivial⟩, hS⟩
        · replace hq76 := iteF hg82 hq76
          refine WL.vS hS hE (runs_if hE rfl rfl rfl hg82) (Gives.loadB hE 1 rfl rfl rfl ty31) rfl ?_; clear hE a; intro a hE
          refine WL.vS hS hE (runs_if hE rfl rfl rfl hg82) (Gives.p hE rfl) rfl ?_; clear hE a; intro a hE
          refine WL.fnw hE (FareWay_1_v1_ok hS h0 rfl (r := FareWay_1_v1 x2 x0)) rfl (runs_if hE rfl rfl rfl hg82) bd8 rfl rfl rfl ?_
          clear hE hS; rintro e w ⟨rfl, hS⟩; refine ⟨_, rfl, ?_⟩; clear a; intro a hE
          refine WL.vS hS hE (runs_if hE rfl rfl rfl hg82) (Gives.p hE rfl) rfl ?_; clear hE a; intro a hE
          refine WL.vS hS hE (runs_plain rfl) (Gives.pickF hE rfl hg82 rfl) rfl ?_; clear hE a; intro a hE
          refine WL.nil ?_
          replace hS := hS.front 1 rfl
          subst hK81
          exact ⟨!(FareWay_1_v1 x2 x0), hq76, hE.pick _ ⟨rfl, rfl, rfl, rfl, trivial⟩, hS⟩
      · clear hE hS a w; rintro a w ⟨q80, rfl, hE, hS⟩
        refine W.cond hE rfl (fun hc83 => ?_) (fun hc83 => ?_)
        · replace hr := iteT hc83 hr
          refine W.seq ?_
          refine W.region ?_
          refine WL.vS hS hE (runs_plain rfl) (Gives.p hE rfl) rfl ?_; clear hE a; intro a hE
          refine WL.vS hS hE (runs_plain rfl) (Gives.p hE rfl) rfl ?_; clear hE a; intro a hE
          refine WL.nil ?_
          refine W.ret ?_
          replace hS := hS.vecNil 3 1
          refine finG (fn := Try.f4) (rs := [.tmp 6, .tmp 7]) (vs := [_, _]) hE rfl ⟨rfl, rfl, trivial⟩ ?_
          obtain rfl := Option.some.inj hr
          replace hS := hS.dropAt 1
          replace hS := hS.dropAt 1
          exact ⟨none, 0, 0, [], s, rfl, (Sg.Le.refl _), (Ev.nil), (rfl), hS⟩
        · replace hr := iteF hc83 hr
          refine W.skip ?_
          refine W.seq ?_
          refine W.region ?_
          refine WL.lit hE hS (e := 3) (es := 1) (vs := [(0, .int .i64 (-1))]) (cs := [.int .i64 (-1)]) (runs_plain rfl) rfl (by kernel_rfl) rfl ?_; clear hE hS a w; intro b85 a w hE hS
          replace hS := hS.ptVec (es := 1) (m := 1) rfl (by decide)
          have h87 : Ev 1 (RI .i64) s [.int .i64 (-1)] [(-1)] := (Ev.cons (c1 := [.int .i64 (-1)]) rfl rfl (Ev.nil))
          have hF := hS.fixD RI.mono 0 rfl h87 (rfl); clear hS; obtain ⟨s88, hle89, hS, h90⟩ := hF
          replace h0 := Sl.mono (RL.mono RI.mono) hle89 h0
          refine WL.vS hS hE (runs_plain rfl) (Gives.loadB hE 1 rfl rfl rfl ty22) rfl ?_; clear hE a; intro a hE
          refine WL.vS hS hE (runs_plain rfl) (Gives.len hE rfl sl22) rfl ?_; clear hE a; intro a hE
          obtain ⟨q91, hq92, hr⟩ := bindS hr
          have hc_ := SlicesRepeatLint_ok hS h90 hq92
          refine WL.fnq hE (hc_) (runs_plain rfl) bd12 rfl rfl rfl ?_
          clear hE hS hc_; rintro e w ⟨a93, c94, n95, cs96, rfl, h97, rfl, hS⟩; refine ⟨_, rfl, ?_⟩; clear a; intro a hE
          refine WL.vS hS hE (runs_plain rfl) (Gives.p hE rfl) rfl ?_; clear hE a; intro a hE
          refine WL.nil ?_
          refine W.seq ?_
          refine W.region ?_
          refine WL.vS hS hE (runs_plain rfl) (Gives.p hE rfl) rfl ?_; clear hE a; intro a hE
          refine WL.vS hS hE (runs_plain rfl) (Gives.p hE rfl) rfl ?_; clear hE a; intro a hE
          obtain ⟨_, hx100, hr⟩ := bindS hr
          obtain ⟨h101, h102⟩ := ix_some hx100
          refine WL.vS hS hE (runs_plain rfl) (Gives.idx hE ((x2).toNat) rfl rfl sl23 h101 (by omega) (hS.vecAok 0 rfl (by omega : (x2).toNat < q91.length))) rfl ?_; clear hE a; intro a hE
          obtain ⟨x104, hx105, hr⟩ := bindS hr
          refine WL.setD hE hS 0 rfl (runs_plain rfl) rfl rfl (vs := [.int .i64 0]) rfl ty3 rfl rfl rfl h97 rfl (sx_some hx105).1 hx105 rfl rfl ?_; clear hE hS a w; intro cs106 a w h107 hn108 hE hS
          refine WL.nil ?_
          refine W.seq ?_
          refine W.seq ?_
          refine W.region ?_
          refine WL.vS hS hE (runs_plain rfl) (Gives.p hE rfl) rfl ?_; clear hE a; intro a hE
          refine WL.nil ?_
          obtain ⟨q110, hq109, hr⟩ := bindS hr
          refine W.cut (fun a w => ∃ (q115 : Bool), ∃ (q116 : List Int), ∃ (cs120 : List Value), (q115, q116) = q110 ∧ Ev 1 (RI .i64) s88 cs120 q116 ∧ q116.length = q91.length ∧ Rep a 155 [(1, .int .i64 x1), (2, .int .i64 x2), (3, .pointer (some ⟨b51, 0, none⟩)), (11, .slice a93 q91.length c94)] ∧ St w s88 (vecC 3 1 a93 c94 q91.length cs120 :: pt b54 (.cells #[.func (.func 8) #[] #[.pointer (some ⟨b51, 0, none⟩)]] 31 (0, 0)) :: pt b51 (.cells #[.slice a0 x0.length c0] 22 (0, 0)) :: R)) ?_ ?_
          · refine W.block ?_
            refine W.loop (fun m a w => ∃ (n111 : Nat), ∃ (q115 : Bool), ∃ (q116 : List Int), ∃ (cs120 : List Value), n111 = m ∧ FareWay.loop2 x0 n111 q115 q116 = some q110 ∧ Ev 1 (RI .i64) s88 cs120 q116 ∧ q116.length = q91.length ∧ Rep a 155 [(1, .int .i64 x1), (2, .int .i64 x2), (3, .pointer (some ⟨b51, 0, none⟩)), (11, .slice a93 q91.length c94), (12, .bool q115)] ∧ St w s88 (vecC 3 1 a93 c94 q91.length cs120 :: pt b54 (.cells #[.func (.func 8) #[] #[.pointer (some ⟨b51, 0, none⟩)]] 31 (0, 0)) :: pt b51 (.cells #[.slice a0 x0.length c0] 22 (0, 0)) :: R)) (m := fu) ⟨fu, true, x104, cs106, rfl, hq109, h107, hn108, hE.pick _ ⟨rfl, rfl, rfl, rfl, rfl, trivial⟩, hS⟩ ?_
            clear hE hS a w hq109; rintro m112 a w ⟨n111, q115, q116, cs120, rfl, hq109, h119, hn121, hE, hS⟩
            refine W.gen fun K122 hK122 => ?_
            rcases n111 with _ | n111
            · rw [FareWay.loop2] at hq109; exact absurd hq109 (by simp)
            rw [FareWay.loop2] at hq109
            refine W.seq ?_
            refine W.seq ?_
            refine W.region ?_
            refine WL.vS hS hE (runs_plain rfl) (Gives.p hE rfl) rfl ?_; clear hE a; intro a hE
            refine WL.nil ?_
            refine W.cond hE rfl (fun hc123 => ?_) (fun hc123 => ?_)
            · replace hq109 := iteT hc123 hq109
              refine W.skip ?_
              refine W.block ?_
              refine W.seq ?_
              refine W.region ?_
              refine WL.vS hS hE (runs_plain rfl) (Gives.p hE rfl) rfl ?_; clear hE a; intro a hE
              refine WL.nil ?_
              refine W.seq ?_
              refine W.region ?_
              refine WL.vS hS hE (runs_plain rfl) (Gives.loadB hE 2 rfl rfl rfl ty22) rfl ?_; clear hE a; intro a hE
              refine WL.vS hS hE (runs_plain rfl) (Gives.len hE rfl sl22) rfl ?_; clear hE a; intro a hE
              refine WL.vS hS hE (runs_plain rfl) (Gives.p hE rfl) rfl ?_; clear hE a; intro a hE
              refine WL.nil ?_
              obtain ⟨q125, hq124, hq109⟩ := bindS hq109
              refine W.cut (fun a w => ∃ (q135 : Bool), ∃ (q136 : List Int), ∃ (cs140 : List Value), (q135, q136) = q125 ∧ Ev 1 (RI .i64) s88 cs140 q136 ∧ q136.length = q91.length ∧ Rep a 155 [(1, .int .i64 x1), (2, .int .i64 x2), (3, .pointer (some ⟨b51, 0, none⟩)), (11, .slice a93 q91.length c94), (12, .bool q135)] ∧ St w s88 (vecC 3 1 a93 c94 q91.length cs140 :: pt b54 (.cells #[.func (.func 8) #[] #[.pointer (some ⟨b51, 0, none⟩)]] 31 (0, 0)) :: pt b51 (.cells #[.slice a0 x0.length c0] 22 (0, 0)) :: R)) ?_ ?_
              · refine W.block ?_
                refine W.loop (fun m a w => ∃ (rest128 : List (List Int)) (k126 : Nat), ∃ (q135 : Bool), ∃ (q136 : List Int), ∃ (cs140 : List Value), rest128.length = m ∧ x0.drop k126 = rest128 ∧ FareWay.loop3 rest128 k126 q135 q136 = some q125 ∧ Ev 1 (RI .i64) s88 cs140 q136 ∧ q136.length = q91.length ∧ Rep a 155 [(1, .int .i64 x1), (2, .int .i64 x2), (3, .pointer (some ⟨b51, 0, none⟩)), (11, .slice a93 q91.length c94), (12, .bool q135), (54, .slice a0 x0.length c0), (55, .int .i64 ((x0).length : Int)), (56, .int .i64 ((k126 : Nat) : Int))] ∧ St w s88 (vecC 3 1 a93 c94 q91.length cs140 :: pt b54 (.cells #[.func (.func 8) #[] #[.pointer (some ⟨b51, 0, none⟩)]] 31 (0, 0)) :: pt b51 (.cells #[.slice a0 x0.length c0] 22 (0, 0)) :: R)) (m := x0.length) ⟨x0, 0, false, q116, cs120, rfl, rfl, hq124, h119, hn121, hE.pick _ ⟨rfl, rfl, rfl, rfl, rfl, rfl, rfl, rfl, trivial⟩, hS⟩ ?_
                clear hE hS a w hq124; rintro m132 a w ⟨rest128, k126, q135, q136, cs140, rfl, hd129, hq124, h139, hn141, hE, hS⟩
                refine W.gen fun K142 hK142 => ?_
                rcases rest128 with _ | ⟨x127, rest128⟩
                · have hlt130 := drop_nil hd129
                  refine W.seq ?_
                  refine W.region ?_
                  refine WL.vS hS hE (runs_plain rfl) (Gives.p hE rfl) rfl ?_; clear hE a; intro a hE
                  refine WL.nil ?_
                  refine W.seq ?_
                  refine W.condF hE rfl (decide_eq_false (by omega)) ?_
                  subst hK142
                  refine W.exit rfl ?_
                  exact ⟨q135, q136, cs140, Option.some.inj hq124, h139, hn141, hE.pick _ ⟨rfl, rfl, rfl, rfl, rfl, trivial⟩, hS⟩
                · obtain ⟨hlt130, hx131, hd129⟩ := drop_cons hd129
                  rw [FareWay.loop3] at hq124
                  refine W.seq ?_
                  refine W.region ?_
                  refine WL.vS hS hE (runs_plain rfl) (Gives.p hE rfl) rfl ?_; clear hE a; intro a hE
                  refine WL.nil ?_
                  refine W.seq ?_
                  refine W.condT hE rfl (decide_eq_true (by omega)) ?_
                  refine W.skip ?_
                  refine W.seq ?_
                  refine W.block ?_
                  refine W.seq ?_
                  refine W.region ?_
                  refine WL.vS hS hE (runs_plain rfl) (Gives.p hE rfl) rfl ?_; clear hE a; intro a hE
                  obtain ⟨cs143, hl144, hR145, hat146⟩ := h0.at hx131
                  obtain ⟨a147, c148, rfl, h149⟩ := hR145
                  refine WL.vS hS hE (runs_plain rfl) (Gives.idx hE k126 rfl rfl sl22 rfl hlt130 (h0.aok hlt130)) rfl ?_; clear hE a; intro a hE
                  refine WL.vS hS hE (runs_plain rfl) (Gives.load1 hE rfl (fun w h => hat146 w _ h) ty23) rfl ?_; clear hE a; intro a hE
                  refine WL.vS hS hE (runs_plain rfl) (Gives.p hE rfl) rfl ?_; clear hE a; intro a hE
                  refine WL.vS hS hE (runs_plain rfl) (Gives.p hE rfl) rfl ?_; clear hE a; intro a hE
                  refine WL.nil ?_
                  refine W.seq ?_
                  refine W.region ?_
                  refine WL.vS hS hE (runs_plain rfl) (Gives.p hE rfl) rfl ?_; clear hE a; intro a hE
                  refine WL.vS hS hE (runs_plain rfl) (Gives.len hE rfl sl23) rfl ?_; clear hE a; intro a hE
                  refine WL.vS hS hE (runs_plain rfl) (Gives.p hE rfl) rfl ?_; clear hE a; intro a hE
                  refine WL.nil ?_
                  obtain ⟨q151, hq150, hq124⟩ := bindS hq124
                  refine W.cut (fun a w => ∃ (q161 : Bool), ∃ (q162 : List Int), ∃ (cs166 : List Value), (q161, q162) = q151 ∧ Ev 1 (RI .i64) s88 cs166 q162 ∧ q162.length = q91.length ∧ Rep a 155 [(1, .int .i64 x1), (2, .int .i64 x2), (3, .pointer (some ⟨b51, 0, none⟩)), (11, .slice a93 q91.length c94), (12, .bool q161), (54, .slice a0 x0.length c0), (55, .int .i64 ((x0).length : Int)), (56, .int .i64 ((k126 : Nat) : Int))] ∧ St w s88 (vecC 3 1 a93 c94 q91.length cs166 :: pt b54 (.cells #[.func (.func 8) #[] #[.pointer (some ⟨b51, 0, none⟩)]] 31 (0, 0)) :: pt b51 (.cells #[.slice a0 x0.length c0] 22 (0, 0)) :: R)) ?_ ?_
                  · refine W.block ?_
                    refine W.loop (fun m a w => ∃ (rest154 : List Int) (k152 : Nat), ∃ (q161 : Bool), ∃ (q162 : List Int), ∃ (cs166 : List Value), rest154.length = m ∧ x127.drop k152 = rest154 ∧ FareWay.loop4 k126 rest154 q161 q162 = some q151 ∧ Ev 1 (RI .i64) s88 cs166 q162 ∧ q162.length = q91.length ∧ Rep a 155 [(1, .int .i64 x1), (2, .int .i64 x2), (3, .pointer (some ⟨b51, 0, none⟩)), (11, .slice a93 q91.length c94), (12, .bool q161), (13, .int .i64 ((k126 : Nat) : Int)), (54, .slice a0 x0.length c0), (55, .int .i64 ((x0).length : Int)), (56, .int .i64 ((k126 : Nat) : Int)), (61, .slice a147 x127.length c148), (62, .int .i64 ((x127).length : Int)), (63, .int .i64 ((k152 : Nat) : Int))] ∧ St w s88 (vecC 3 1 a93 c94 q91.length cs166 :: pt b54 (.cells #[.func (.func 8) #[] #[.pointer (some ⟨b51, 0, none⟩)]] 31 (0, 0)) :: pt b51 (.cells #[.slice a0 x0.length c0] 22 (0, 0)) :: R)) (m := x127.length) ⟨x127, 0, q135, q136, cs140, rfl, rfl, hq150, h139, hn141, hE.pick _ ⟨rfl, rfl, rfl, rfl, rfl, rfl, rfl, rfl, rfl, rfl, rfl, rfl, trivial⟩, hS⟩ ?_
                    clear hE hS a w hq150; rintro m158 a w ⟨rest154, k152, q161, q162, cs166, rfl, hd155, hq150, h165, hn167, hE, hS⟩
                    refine W.gen fun K168 hK168 => ?_
                    rcases rest154 with _ | ⟨x153, rest154⟩
                    · have hlt156 := drop_nil hd155
                      refine W.seq ?_
                      refine W.region ?_
                      refine WL.vS hS hE (runs_plain rfl) (Gives.p hE rfl) rfl ?_; clear hE a; intro a hE
                      refine WL.nil ?_
                      refine W.seq ?_
                      refine W.condF hE rfl (decide_eq_false (by omega)) ?_
                      subst hK168
                      refine W.exit rfl ?_
                      exact ⟨q161, q162, cs166, Option.some.inj hq150, h165, hn167, hE.pick _ ⟨rfl, rfl, rfl, rfl, rfl, rfl, rfl, rfl, trivial⟩, hS⟩
                    · obtain ⟨hlt156, hx157, hd155⟩ := drop_cons hd155
                      rw [FareWay.loop4] at hq150
                      refine W.seq ?_
                      refine W.region ?_
                      refine WL.vS hS hE (runs_plain rfl) (Gives.p hE rfl) rfl ?_; clear hE a; intro a hE
                      refine WL.nil ?_
                      refine W.seq ?_
                      refine W.condT hE rfl (decide_eq_true (by omega)) ?_
                      refine W.skip ?_
                      refine W.seq ?_
                      refine W.block ?_
                      refine W.seq ?_
                      refine W.region ?_
                      obtain ⟨cs169, hl170, hR171, hat172⟩ := h149.at hx157
                      subst hR171
                      refine WL.vS hS hE (runs_plain rfl) (Gives.idx hE k152 rfl rfl sl23 rfl hlt156 (h149.aok hlt156)) rfl ?_; clear hE a; intro a hE
                      refine WL.vS hS hE (runs_plain rfl) (Gives.load1 hE rfl (fun w h => hat172 w _ h) ty3) rfl ?_; clear hE a; intro a hE
                      refine WL.vS hS hE (runs_plain rfl) (Gives.p hE rfl) rfl ?_; clear hE a; intro a hE
                      refine WL.nil ?_
                      refine W.seq ?_
                      obtain ⟨q174, hq173, hq150⟩ := bindS hq150
                      refine W.cut (fun a w => ∃ (q177 : Bool), q177 = q174 ∧ Rep a 155 [(1, .int .i64 x1), (2, .int .i64 x2), (3, .pointer (some ⟨b51, 0, none⟩)), (11, .slice a93 q91.length c94), (12, .bool q161), (13, .int .i64 ((k126 : Nat) : Int)), (16, .int .i64 x153), (54, .slice a0 x0.length c0), (55, .int .i64 ((x0).length : Int)), (56, .int .i64 ((k126 : Nat) : Int)), (61, .slice a147 x127.length c148), (62, .int .i64 ((x127).length : Int)), (63, .int .i64 ((k152 : Nat) : Int)), (90, .bool q177)] ∧ St w s88 (vecC 3 1 a93 c94 q91.length cs166 :: pt b54 (.cells #[.func (.func 8) #[] #[.pointer (some ⟨b51, 0, none⟩)]] 31 (0, 0)) :: pt b51 (.cells #[.slice a0 x0.length c0] 22 (0, 0)) :: R)) ?_ ?_
                      · refine W.gen fun K178 hK178 => ?_
                        refine W.regionQ (C := fun w => St w s88 (vecC 3 1 a93 c94 q91.length cs166 :: pt b54 (.cells #[.func (.func 8) #[] #[.pointer (some ⟨b51, 0, none⟩)]] 31 (0, 0)) :: pt b51 (.cells #[.slice a0 x0.length c0] 22 (0, 0)) :: R)) mixed (by kernel_rfl) hS.drew ?_
                        refine QL.v hE (runs_plain rfl) (Gives.p hE rfl) rfl ?_; clear hE a; intro a hE
                        refine QL.v hE (runs_plain rfl) (Gives.p hE rfl) rfl ?_; clear hE a; intro a hE
                        obtain ⟨x179, hx180, hq173⟩ := bindS hq173
                        obtain ⟨hi181, hlt182, hy183⟩ := gx_some hx180
                        obtain ⟨vs184, hl185, hR186, hd187, hget188⟩ := h165.at hy183
                        subst hR186
                        refine QL.v hE (runs_plain rfl) (Gives.idx hE ((x153).toNat) rfl rfl sl23 hi181 (by have := hn167; omega) (hS.vecAok 0 rfl (by have := hn167; omega : (x153).toNat < q91.length))) rfl ?_; clear hE a; intro a hE
                        refine QL.v hE (runs_plain rfl) (Gives.load1 hE rfl (fun w h => St.vecSees h 0 rfl ((x153).toNat * 1) _ hget188) ty3) rfl ?_; clear hE a; intro a hE
                        refine QL.v hE (runs_plain rfl) (Gives.p hE rfl) rfl ?_; clear hE a; intro a hE
                        refine QL.v hE (runs_plain rfl) (Gives.p hE rfl) rfl ?_; clear hE a; intro a hE
                        rcases Bool.eq_false_or_eq_true (decide (x179 ≥ 0)) with hg189 | hg189
                        · replace hq173 := iteT hg189 hq173
                          refine QL.v hE (runs_if hE rfl rfl rfl hg189) (Gives.p hE rfl) rfl ?_; clear hE a; intro a hE
                          refine QL.v hE (runs_if hE rfl rfl rfl hg189) (Gives.p hE rfl) rfl ?_; clear hE a; intro a hE
                          obtain ⟨x190, hx191, hq173⟩ := bindS hq173
                          obtain ⟨hi192, hlt193, hy194⟩ := gx_some hx191
                          obtain ⟨vs195, hl196, hR197, hd198, hget199⟩ := h165.at hy194
                          subst hR197
                          refine QL.v hE (runs_if hE rfl rfl rfl hg189) (Gives.idx hE ((((k126 : Nat) : Int)).toNat) rfl rfl sl23 hi192 (by have := hn167; omega) (hS.vecAok 0 rfl (by have := hn167; omega : (((k126 : Nat) : Int)).toNat < q91.length))) rfl ?_; clear hE a; intro a hE
                          refine QL.v hE (runs_if hE rfl rfl rfl hg189) (Gives.load1 hE rfl (fun w h => St.vecSees h 0 rfl ((((k126 : Nat) : Int)).toNat * 1) _ hget199) ty3) rfl ?_; clear hE a; intro a hE
                          refine QL.v hE (runs_if hE rfl rfl rfl hg189) (Gives.p hE rfl) rfl ?_; clear hE a; intro a hE
                          refine QL.v hE (runs_if hE rfl rfl rfl hg189) (Gives.p hE rfl) rfl ?_; clear hE a; intro a hE
                          rcases Bool.eq_false_or_eq_true (decide (x190 < 0)) with hg200 | hg200
                          · replace hq173 := iteT hg200 hq173
                            refine QL.no hE (runs_not hE rfl rfl rfl (by rw [hg200]; decide)) rfl ?_; clear hE a; intro a hE
                            refine QL.no hE (runs_not hE rfl rfl rfl (by rw [hg200]; decide)) rfl ?_; clear hE a; intro a hE
                            refine QL.no hE (runs_not hE rfl rfl rfl (by rw [hg200]; decide)) rfl ?_; clear hE a; intro a hE
                            refine QL.no hE (runs_not hE rfl rfl rfl (by rw [hg200]; decide)) rfl ?_; clear hE a; intro a hE
                            refine QL.no hE (runs_not hE rfl rfl rfl (by rw [hg200]; decide)) rfl ?_; clear hE a; intro a hE
                            refine QL.no hE (runs_not hE rfl rfl rfl (by rw [hg200]; decide)) rfl ?_; clear hE a; intro a hE
                            refine QL.no hE (runs_not hE rfl rfl rfl (by rw [hg200]; decide)) rfl ?_; clear hE a; intro a hE
                            refine QL.no hE (runs_not hE rfl rfl rfl (by rw [hg200]; decide)) rfl ?_; clear hE a; intro a hE
                            refine QL.no hE (runs_not hE rfl rfl rfl (by rw [hg200]; decide)) rfl ?_; clear hE a; intro a hE
                            refine QL.no hE (runs_not hE rfl rfl rfl (by rw [hg200]; decide)) rfl ?_; clear hE a; intro a hE
                            refine QL.v hE (runs_if hE rfl rfl rfl hg189) (Gives.pickT hE rfl hg200 rfl) rfl ?_; clear hE a; intro a hE
                            refine QL.v hE (runs_plain rfl) (Gives.pickT hE rfl hg189 rfl) rfl ?_; clear hE a; intro a hE
                            refine QL.nil ?_; clear hS w; intro w hS
                            subst hK178
                            exact ⟨true, Option.some.inj hq173, hE.pick _ ⟨rfl, rfl, rfl, rfl, rfl, rfl, rfl, rfl, rfl, rfl, rfl, rfl, rfl, rfl, trivial⟩, hS⟩
                          · replace hq173 := iteF hg200 hq173
                            refine QL.v hE (runs_if hE rfl rfl rfl hg200) (Gives.p hE rfl) rfl ?_; clear hE a; intro a hE
                            refine QL.v hE (runs_if hE rfl rfl rfl hg200) (Gives.p hE rfl) rfl ?_; clear hE a; intro a hE
                            obtain ⟨x201, hx202, hq173⟩ := bindS hq173
                            obtain ⟨hi203, hlt204, hy205⟩ := gx_some hx202
                            obtain ⟨vs206, hl207, hR208, hd209, hget210⟩ := h165.at hy205
                            subst hR208
                            refine QL.v hE (runs_if hE rfl rfl rfl hg200) (Gives.idx hE ((((k126 : Nat) : Int)).toNat) rfl rfl sl23 hi203 (by have := hn167; omega) (hS.vecAok 0 rfl (by have := hn167; omega : (((k126 : Nat) : Int)).toNat < q91.length))) rfl ?_; clear hE a; intro a hE
                            refine QL.v hE (runs_if hE rfl rfl rfl hg200) (Gives.load1 hE rfl (fun w h => St.vecSees h 0 rfl ((((k126 : Nat) : Int)).toNat * 1) _ hget210) ty3) rfl ?_; clear hE a; intro a hE
                            refine QL.v hE (runs_if hE rfl rfl rfl hg200) (Gives.p hE rfl) rfl ?_; clear hE a; intro a hE
                            refine QL.v hE (runs_if hE rfl rfl rfl hg200) (Gives.p hE rfl) rfl ?_; clear hE a; intro a hE
                            obtain ⟨x211, hx212, hq173⟩ := bindS hq173
                            obtain ⟨hi213, hlt214, hy215⟩ := gx_some hx212
                            obtain ⟨vs216, hl217, hR218, hd219, hget220⟩ := h165.at hy215
                            subst hR218
                            refine QL.v hE (runs_if hE rfl rfl rfl hg200) (Gives.idx hE ((x153).toNat) rfl rfl sl23 hi213 (by have := hn167; omega) (hS.vecAok 0 rfl (by have := hn167; omega : (x153).toNat < q91.length))) rfl ?_; clear hE a; intro a hE
                            refine QL.v hE (runs_if hE rfl rfl rfl hg200) (Gives.load1 hE rfl (fun w h => St.vecSees h 0 rfl ((x153).toNat * 1) _ hget220) ty3) rfl ?_; clear hE a; intro a hE
                            refine QL.v hE (runs_if hE rfl rfl rfl hg200) (Gives.p hE rfl) rfl ?_; clear hE a; intro a hE
                            refine QL.v hE (runs_if hE rfl rfl rfl hg200) (Gives.p hE rfl) rfl ?_; clear hE a; intro a hE
                            refine QL.v hE (runs_if hE rfl rfl rfl hg189) (Gives.pickF hE rfl hg200 rfl) rfl ?_; clear hE a; intro a hE
                            refine QL.v hE (runs_plain rfl) (Gives.pickT hE rfl hg189 rfl) rfl ?_; clear hE a; intro a hE
                            refine QL.nil ?_; clear hS w; intro w hS
                            subst hK178
                            exact ⟨decide (x201 > (w64 (x211 + 1))), Option.some.inj hq173, hE.pick _ ⟨rfl, rfl, rfl, rfl, rfl, rfl, rfl, rfl, rfl, rfl, rfl, rfl, rfl, rfl, trivial⟩, hS⟩
                        · replace hq173 := iteF hg189 hq173
                          refine QL.no hE (runs_not hE rfl rfl rfl (by rw [hg189]; decide)) rfl ?_; clear hE a; intro a hE
                          refine QL.no hE (runs_not hE rfl rfl rfl (by rw [hg189]; decide)) rfl ?_; clear hE a; intro a hE
                          refine QL.no hE (runs_not hE rfl rfl rfl (by rw [hg189]; decide)) rfl ?_; clear hE a; intro a hE
                          refine QL.no hE (runs_not hE rfl rfl rfl (by rw [hg189]; decide)) rfl ?_; clear hE a; intro a hE
                          refine QL.no hE (runs_not hE rfl rfl rfl (by rw [hg189]; decide)) rfl ?_; clear hE a; intro a hE
                          refine QL.no hE (runs_not hE rfl rfl rfl (by rw [hg189]; decide)) rfl ?_; clear hE a; intro a hE
                          refine QL.no hE (runs_undef hE rfl rfl rfl) rfl ?_; clear hE a; intro a hE
                          refine QL.no hE (runs_undef hE rfl rfl rfl) rfl ?_; clear hE a; intro a hE
                          refine QL.no hE (runs_undef hE rfl rfl rfl) rfl ?_; clear hE a; intro a hE
                          refine QL.no hE (runs_undef hE rfl rfl rfl) rfl ?_; clear hE a; intro a hE
                          refine QL.no hE (runs_undef hE rfl rfl rfl) rfl ?_; clear hE a; intro a hE
                          refine QL.no hE (runs_undef hE rfl rfl rfl) rfl ?_; clear hE a; intro a hE
                          refine QL.no hE (runs_undef hE rfl rfl rfl) rfl ?_; clear hE a; intro a hE
                          refine QL.no hE (runs_undef hE rfl rfl rfl) rfl ?_; clear hE a; intro a hE
                          refine QL.no hE (runs_undef hE rfl rfl rfl) rfl ?_; clear hE a; intro a hE
                          refine QL.no hE (runs_undef hE rfl rfl rfl) rfl ?_; clear hE a; intro a hE
                          refine QL.no hE (runs_not hE rfl rfl rfl (by rw [hg189]; decide)) rfl ?_; clear hE a; intro a hE
                          refine QL.v hE (runs_plain rfl) (Gives.pickF hE rfl hg189 rfl) rfl ?_; clear hE a; intro a hE
                          refine QL.nil ?_; clear hS w; intro w hS
                          subst hK178
                          exact ⟨false, Option.some.inj hq173, hE.pick _ ⟨rfl, rfl, rfl, rfl, rfl, rfl, rfl, rfl, rfl, rfl, rfl, rfl, rfl, rfl, trivial⟩, hS⟩
                      · clear hE hS a w; rintro a w ⟨q177, rfl, hE, hS⟩
                        obtain ⟨q222, hq221, hq150⟩ := bindS hq150
                        refine W.cut (fun a w => ∃ (q225 : Bool), ∃ (q226 : List Int), ∃ (cs230 : List Value), (q225, q226) = q222 ∧ Ev 1 (RI .i64) s88 cs230 q226 ∧ q226.length = q91.length ∧ Rep a 155 [(1, .int .i64 x1), (2, .int .i64 x2), (3, .pointer (some ⟨b51, 0, none⟩)), (11, .slice a93 q91.length c94), (12, .bool q225), (13, .int .i64 ((k126 : Nat) : Int)), (54, .slice a0 x0.length c0), (55, .int .i64 ((x0).length : Int)), (56, .int .i64 ((k126 : Nat) : Int)), (61, .slice a147 x127.length c148), (62, .int .i64 ((x127).length : Int)), (63, .int .i64 ((k152 : Nat) : Int))] ∧ St w s88 (vecC 3 1 a93 c94 q91.length cs230 :: pt b54 (.cells #[.func (.func 8) #[] #[.pointer (some ⟨b51, 0, none⟩)]] 31 (0, 0)) :: pt b51 (.cells #[.slice a0 x0.length c0] 22 (0, 0)) :: R)) ?_ ?_
                        · refine W.gen fun K232 hK232 => ?_
                          refine W.cond hE rfl (fun hc233 => ?_) (fun hc233 => ?_)
                          · replace hq221 := iteT hc233 hq221
                            refine W.region ?_
                            refine WL.vS hS hE (runs_plain rfl) (Gives.p hE rfl) rfl ?_; clear hE a; intro a hE
                            refine WL.vS hS hE (runs_plain rfl) (Gives.p hE rfl) rfl ?_; clear hE a; intro a hE
                            refine WL.vS hS hE (runs_plain rfl) (Gives.p hE rfl) rfl ?_; clear hE a; intro a hE
                            refine WL.vS hS hE (runs_plain rfl) (Gives.p hE rfl) rfl ?_; clear hE a; intro a hE
                            obtain ⟨x234, hx235, hq221⟩ := bindS hq221
                            obtain ⟨hi236, hlt237, hy238⟩ := gx_some hx235
                            obtain ⟨vs239, hl240, hR241, hd242, hget243⟩ := h165.at hy238
                            subst hR241
                            refine WL.vS hS hE (runs_plain rfl) (Gives.idx hE ((x153).toNat) rfl rfl sl23 hi236 (by have := hn167; omega) (hS.vecAok 0 rfl (by have := hn167; omega : (x153).toNat < q91.length))) rfl ?_; clear hE a; intro a hE
                            refine WL.vS hS hE (runs_plain rfl) (Gives.load1 hE rfl (fun w h => St.vecSees h 0 rfl ((x153).toNat * 1) _ hget243) ty3) rfl ?_; clear hE a; intro a hE
                            refine WL.vS hS hE (runs_plain rfl) (Gives.p hE rfl) rfl ?_; clear hE a; intro a hE
                            obtain ⟨_, hx245, hq221⟩ := bindS hq221
                            obtain ⟨h246, h247⟩ := ix_some hx245
                            refine WL.vS hS hE (runs_plain rfl) (Gives.idx hE ((((k126 : Nat) : Int)).toNat) rfl rfl sl23 h246 (by have := hn167; omega) (hS.vecAok 0 rfl (by have := hn167; omega : (((k126 : Nat) : Int)).toNat < q91.length))) rfl ?_; clear hE a; intro a hE
                            obtain ⟨x249, hx250, hq221⟩ := bindS hq221
                            refine WL.setD hE hS 0 rfl (runs_plain rfl) rfl rfl (vs := [.int .i64 (w64 (x234 + 1))]) rfl ty3 rfl rfl rfl h165 hn167 (sx_some hx250).1 hx250 rfl rfl ?_; clear hE hS a w; intro cs251 a w h252 hn253 hE hS
                            refine WL.vS hS hE (runs_plain rfl) (Gives.p hE rfl) rfl ?_; clear hE a; intro a hE
                            refine WL.nil ?_
                            subst hK232
                            exact ⟨true, x249, cs251, Option.some.inj hq221, h252, hn253, hE.pick _ ⟨rfl, rfl, rfl, rfl, rfl, rfl, rfl, rfl, rfl, rfl, rfl, rfl, trivial⟩, hS⟩
                          · replace hq221 := iteF hc233 hq221
                            refine W.skip ?_
                            subst hK232
                            exact ⟨q161, q162, cs166, Option.some.inj hq221, h165, hn167, hE.pick _ ⟨rfl, rfl, rfl, rfl, rfl, rfl, rfl, rfl, rfl, rfl, rfl, rfl, trivial⟩, hS⟩
                        · clear hE hS a w; rintro a w ⟨q225, q226, cs230, rfl, h229, hn231, hE, hS⟩
                          dsimp only at hq150
                          refine W.region ?_
                          refine WL.vS hS hE (runs_plain rfl) (Gives.inc hE rfl (by have := h149.small; omega)) rfl ?_; clear hE a; intro a hE
                          refine WL.vS hS hE (runs_plain rfl) (Gives.p hE rfl) rfl ?_; clear hE a; intro a hE
                          refine WL.nil ?_
                          subst hK168
                          exact ⟨rest154.length, Nat.lt_succ_self _, rest154, k152 + 1, q225, q226, cs230, rfl, hd155, hq150, h229, hn231, hE.pick _ ⟨rfl, rfl, rfl, rfl, rfl, rfl, rfl, rfl, rfl, rfl, rfl, rfl, trivial⟩, hS⟩
                  · clear hE hS a w; rintro a w ⟨q161, q162, cs166, rfl, h165, hn167, hE, hS⟩
                    dsimp only at hq124
                    refine W.region ?_
                    refine WL.vS hS hE (runs_plain rfl) (Gives.inc hE rfl (by have := h0.small; omega)) rfl ?_; clear hE a; intro a hE
                    refine WL.vS hS hE (runs_plain rfl) (Gives.p hE rfl) rfl ?_; clear hE a; intro a hE
                    refine WL.nil ?_
                    subst hK142
                    exact ⟨rest128.length, Nat.lt_succ_self _, rest128, k126 + 1, q161, q162, cs166, rfl, hd129, hq124, h165, hn167, hE.pick _ ⟨rfl, rfl, rfl, rfl, rfl, rfl, rfl, rfl, trivial⟩, hS⟩
              · clear hE hS a w; rintro a w ⟨q135, q136, cs140, rfl, h139, hn141, hE, hS⟩
                dsimp only at hq109
                subst hK122
                exact ⟨n111, Nat.lt_succ_self _, n111, q135, q136, cs140, rfl, hq109, h139, hn141, hE.pick _ ⟨rfl, rfl, rfl, rfl, rfl, trivial⟩, hS⟩
            · replace hq109 := iteF hc123 hq109
              subst hK122
              refine W.exit rfl ?_
              exact ⟨q115, q116, cs120, Option.some.inj hq109, h119, hn121, hE.pick _ ⟨rfl, rfl, rfl, rfl, trivial⟩, hS⟩
          · clear hE hS a w; rintro a w ⟨q115, q116, cs120, rfl, h119, hn121, hE, hS⟩
            dsimp only at hr
            refine W.seq ?_
            refine W.seq ?_
            refine W.region ?_
            refine WL.vS hS hE (runs_plain rfl) (Gives.p hE rfl) rfl ?_; clear hE a; intro a hE
            refine WL.vS hS hE (runs_plain rfl) (Gives.p hE rfl) rfl ?_; clear hE a; intro a hE
            obtain ⟨x254, hx255, hr⟩ := bindS hr
            obtain ⟨hi256, hlt257, hy258⟩ := gx_some hx255
            obtain ⟨vs259, hl260, hR261, hd262, hget263⟩ := h119.at hy258
            subst hR261
            refine WL.vS hS hE (runs_plain rfl) (Gives.idx hE ((x1).toNat) rfl rfl sl23 hi256 (by have := hn121; omega) (hS.vecAok 0 rfl (by have := hn121; omega : (x1).toNat < q91.length))) rfl ?_; clear hE a; intro a hE
            refine WL.vS hS hE (runs_plain rfl) (Gives.load1 hE rfl (fun w h => St.vecSees h 0 rfl ((x1).toNat * 1) _ hget263) ty3) rfl ?_; clear hE a; intro a hE
            refine WL.vS hS hE (runs_plain rfl) (Gives.p hE rfl) rfl ?_; clear hE a; intro a hE
            refine WL.nil ?_
            refine W.cond hE rfl (fun hc264 => ?_) (fun hc264 => ?_)
            · replace hr := iteT hc264 hr
              refine W.seq ?_
              refine W.region ?_
              refine WL.vS hS hE (runs_plain rfl) (Gives.p hE rfl) rfl ?_; clear hE a; intro a hE
              refine WL.vS hS hE (runs_plain rfl) (Gives.p hE rfl) rfl ?_; clear hE a; intro a hE
              refine WL.nil ?_
              refine W.ret ?_
              replace hS := hS.vecNil 3 1
              refine finG (fn := Try.f4) (rs := [.tmp 6, .tmp 7]) (vs := [_, _]) hE rfl ⟨rfl, rfl, trivial⟩ ?_
              obtain rfl := Option.some.inj hr
              replace hS := hS.dropAt 1
              replace hS := hS.dropAt 1
              replace hS := hS.dropAt 1
              exact ⟨none, 0, 0, [], s88, rfl, hle89, (Ev.nil), (rfl), hS⟩
            · replace hr := iteF hc264 hr
              refine W.skip ?_
              refine W.seq ?_
              refine W.region ?_
              refine WL.vS hS hE (runs_plain rfl) (Gives.p hE rfl) rfl ?_; clear hE a; intro a hE
              refine WL.lit hE hS (e := 3) (es := 1) (vs := [(0, .int .i64 x1)]) (cs := [.int .i64 x1]) (runs_plain rfl) rfl (by kernel_rfl) rfl ?_; clear hE hS a w; intro b266 a w hE hS
              replace hS := hS.ptVec (es := 1) (m := 1) rfl (by decide)
              have h268 : Ev 1 (RI .i64) s88 [.int .i64 x1] [x1] := (Ev.cons (c1 := [.int .i64 x1]) rfl rfl (Ev.nil))
              refine WL.vS hS hE (runs_plain rfl) (Gives.p hE rfl) rfl ?_; clear hE a; intro a hE
              refine WL.nil ?_
              refine W.seq ?_
              refine W.seq ?_
              refine W.region ?_
              refine WL.vS hS hE (runs_plain rfl) (Gives.p hE rfl) rfl ?_; clear hE a; intro a hE
              refine WL.vS hS hE (runs_plain rfl) (Gives.p hE rfl) rfl ?_; clear hE a; intro a hE
              refine WL.nil ?_
              obtain ⟨q270, hq269, hr⟩ := bindS hr
              refine W.cut (fun a w => ∃ (q275 : List Int), ∃ (q282 : Int), ∃ (a276 : Option Addr), ∃ (c277 : Nat), ∃ (n279 : Nat), ∃ (cs280 : List Value), (q275, q282) = q270 ∧ Ev 1 (RI .i64) s88 cs280 q275 ∧ q275.length = n279 ∧ Rep a 155 [(17, .slice a276 n279 c277)] ∧ St w s88 (vecC 3 1 a276 c277 n279 cs280 :: vecC 3 1 a93 c94 q91.length cs120 :: pt b54 (.cells #[.func (.func 8) #[] #[.pointer (some ⟨b51, 0, none⟩)]] 31 (0, 0)) :: pt b51 (.cells #[.slice a0 x0.length c0] 22 (0, 0)) :: R)) ?_ ?_
              · refine W.block ?_
                refine W.loop (fun m a w => ∃ (n271 : Nat), ∃ (q275 : List Int), ∃ (q282 : Int), ∃ (a276 : Option Addr), ∃ (c277 : Nat), ∃ (n279 : Nat), ∃ (cs280 : List Value), n271 = m ∧ FareWay.loop5 x0 x2 q116 n271 q275 q282 = some q270 ∧ Ev 1 (RI .i64) s88 cs280 q275 ∧ q275.length = n279 ∧ Rep a 155 [(2, .int .i64 x2), (3, .pointer (some ⟨b51, 0, none⟩)), (11, .slice a93 q91.length c94), (17, .slice a276 n279 c277), (18, .int .i64 q282)] ∧ St w s88 (vecC 3 1 a276 c277 n279 cs280 :: vecC 3 1 a93 c94 q91.length cs120 :: pt b54 (.cells #[.func (.func 8) #[] #[.pointer (some ⟨b51, 0, none⟩)]] 31 (0, 0)) :: pt b51 (.cells #[.slice a0 x0.length c0] 22 (0, 0)) :: R)) (m := fu) ⟨fu, [x1], x1, (some ⟨b266, 0, none⟩), 1, 1, [.int .i64 x1], rfl, hq269, h268, (rfl), hE.pick _ ⟨rfl, rfl, rfl, rfl, rfl, trivial⟩, hS⟩ ?_
                clear hE hS a w hq269; rintro m272 a w ⟨n271, q275, q282, a276, c277, n279, cs280, rfl, hq269, h278, rfl, hE, hS⟩
                refine W.gen fun K283 hK283 => ?_
                rcases n271 with _ | n271
                · rw [FareWay.loop5] at hq269; exact absurd hq269 (by simp)
                rw [FareWay.loop5] at hq269
                refine W.seq ?_
                refine W.seq ?_
                refine W.region ?_
                refine WL.vS hS hE (runs_plain rfl) (Gives.p hE rfl) rfl ?_; clear hE a; intro a hE
                refine WL.vS hS hE (runs_plain rfl) (Gives.p hE rfl) rfl ?_; clear hE a; intro a hE
                refine WL.vS hS hE (runs_plain rfl) (Gives.p hE rfl) rfl ?_; clear hE a; intro a hE
                refine WL.nil ?_
                refine W.cond hE rfl (fun hc284 => ?_) (fun hc284 => ?_)
                · replace hq269 := iteT hc284 hq269
                  refine W.skip ?_
                  refine W.block ?_
                  refine W.seq ?_
                  refine W.region ?_
                  refine WL.vS hS hE (runs_plain rfl) (Gives.p hE rfl) rfl ?_; clear hE a; intro a hE
                  refine WL.nil ?_
                  refine W.seq ?_
                  refine W.seq ?_
                  refine W.region ?_
                  refine WL.vS hS hE (runs_plain rfl) (Gives.loadB hE 3 rfl rfl rfl ty22) rfl ?_; clear hE a; intro a hE
                  refine WL.vS hS hE (runs_plain rfl) (Gives.p hE rfl) rfl ?_; clear hE a; intro a hE
                  obtain ⟨x285, hx286, hq269⟩ := bindS hq269
                  obtain ⟨hi287, hlt288, hy289⟩ := gx_some hx286
                  obtain ⟨cs290, hl291, hR292, hat293⟩ := h0.at hy289
                  obtain ⟨a294, c295, rfl, h296⟩ := hR292
                  refine WL.vS hS hE (runs_plain rfl) (Gives.idx hE (q282).toNat rfl rfl sl22 hi287 hlt288 (h0.aok hlt288)) rfl ?_; clear hE a; intro a hE
                  refine WL.vS hS hE (runs_plain rfl) (Gives.load1 hE rfl (fun w h => hat293 w _ h) ty23) rfl ?_; clear hE a; intro a hE
                  refine WL.vS hS hE (runs_plain rfl) (Gives.len hE rfl sl23) rfl ?_; clear hE a; intro a hE
                  refine WL.vS hS hE (runs_plain rfl) (Gives.p hE rfl) rfl ?_; clear hE a; intro a hE
                  refine WL.nil ?_
                  obtain ⟨q298, hq297, hq269⟩ := bindS hq269
                  refine W.cut (fun a w => ∃ (q308 : Int), q308 = q298 ∧ Rep a 155 [(2, .int .i64 x2), (3, .pointer (some ⟨b51, 0, none⟩)), (11, .slice a93 q91.length c94), (17, .slice a276 q275.length c277), (19, .int .i64 q308)] ∧ St w s88 (vecC 3 1 a276 c277 q275.length cs280 :: vecC 3 1 a93 c94 q91.length cs120 :: pt b54 (.cells #[.func (.func 8) #[] #[.pointer (some ⟨b51, 0, none⟩)]] 31 (0, 0)) :: pt b51 (.cells #[.slice a0 x0.length c0] 22 (0, 0)) :: R)) ?_ ?_
                  · refine W.block ?_
                    refine W.loop (fun m a w => ∃ (rest301 : List Int) (k299 : Nat), ∃ (q308 : Int), rest301.length = m ∧ x285.drop k299 = rest301 ∧ FareWay.loop6 q116 q282 rest301 q308 = some q298 ∧ Rep a 155 [(2, .int .i64 x2), (3, .pointer (some ⟨b51, 0, none⟩)), (11, .slice a93 q91.length c94), (17, .slice a276 q275.length c277), (18, .int .i64 q282), (19, .int .i64 q308), (115, .slice a294 x285.length c295), (116, .int .i64 ((x285).length : Int)), (117, .int .i64 ((k299 : Nat) : Int))] ∧ St w s88 (vecC 3 1 a276 c277 q275.length cs280 :: vecC 3 1 a93 c94 q91.length cs120 :: pt b54 (.cells #[.func (.func 8) #[] #[.pointer (some ⟨b51, 0, none⟩)]] 31 (0, 0)) :: pt b51 (.cells #[.slice a0 x0.length c0] 22 (0, 0)) :: R)) (m := x285.length) ⟨x285, 0, (-1), rfl, rfl, hq297, hE.pick _ ⟨rfl, rfl, rfl, rfl, rfl, rfl, rfl, rfl, rfl, trivial⟩, hS⟩ ?_
                    clear hE hS a w hq297; rintro m305 a w ⟨rest301, k299, q308, rfl, hd302, hq297, hE, hS⟩
                    refine W.gen fun K309 hK309 => ?_
                    rcases rest301 with _ | ⟨x300, rest301⟩
                    · have hlt303 := drop_nil hd302
                      refine W.seq ?_
                      refine W.region ?_
                      refine WL.vS hS hE (runs_plain rfl) (Gives.p hE rfl) rfl ?_; clear hE a; intro a hE
                      refine WL.nil ?_
                      refine W.seq ?_
                      refine W.condF hE rfl (decide_eq_false (by omega)) ?_
                      subst hK309
                      refine W.exit rfl ?_
                      exact ⟨q308, Option.some.inj hq297, hE.pick _ ⟨rfl, rfl, rfl, rfl, rfl, trivial⟩, hS⟩
                    · obtain ⟨hlt303, hx304, hd302⟩ := drop_cons hd302
                      rw [FareWay.loop6] at hq297
                      refine W.seq ?_
                      refine W.region ?_
                      refine WL.vS hS hE (runs_plain rfl) (Gives.p hE rfl) rfl ?_; clear hE a; intro a hE
                      refine WL.nil ?_
                      refine W.seq ?_
                      refine W.condT hE rfl (decide_eq_true (by omega)) ?_
                      refine W.skip ?_
                      refine W.seq ?_
                      refine W.block ?_
                      refine W.seq ?_
                      refine W.region ?_
                      obtain ⟨cs310, hl311, hR312, hat313⟩ := h296.at hx304
                      subst hR312
                      refine WL.vS hS hE (runs_plain rfl) (Gives.idx hE k299 rfl rfl sl23 rfl hlt303 (h296.aok hlt303)) rfl ?_; clear hE a; intro a hE
                      refine WL.vS hS hE (runs_plain rfl) (Gives.load1 hE rfl (fun w h => hat313 w _ h) ty3) rfl ?_; clear hE a; intro a hE
                      refine WL.vS hS hE (runs_plain rfl) (Gives.p hE rfl) rfl ?_; clear hE a; intro a hE
                      refine WL.nil ?_
                      refine W.seq ?_
                      obtain ⟨q315, hq314, hq297⟩ := bindS hq297
                      refine W.cut (fun a w => ∃ (q318 : Bool), q318 = q315 ∧ Rep a 155 [(2, .int .i64 x2), (3, .pointer (some ⟨b51, 0, none⟩)), (11, .slice a93 q91.length c94), (17, .slice a276 q275.length c277), (18, .int .i64 q282), (19, .int .i64 q308), (21, .int .i64 x300), (115, .slice a294 x285.length c295), (116, .int .i64 ((x285).length : Int)), (117, .int .i64 ((k299 : Nat) : Int)), (146, .bool q318)] ∧ St w s88 (vecC 3 1 a276 c277 q275.length cs280 :: vecC 3 1 a93 c94 q91.length cs120 :: pt b54 (.cells #[.func (.func 8) #[] #[.pointer (some ⟨b51, 0, none⟩)]] 31 (0, 0)) :: pt b51 (.cells #[.slice a0 x0.length c0] 22 (0, 0)) :: R)) ?_ ?_
                      · refine W.gen fun K319 hK319 => ?_
                        refine W.regionQ (C := fun w => St w s88 (vecC 3 1 a276 c277 q275.length cs280 :: vecC 3 1 a93 c94 q91.length cs120 :: pt b54 (.cells #[.func (.func 8) #[] #[.pointer (some ⟨b51, 0, none⟩)]] 31 (0, 0)) :: pt b51 (.cells #[.slice a0 x0.length c0] 22 (0, 0)) :: R)) mixed (by kernel_rfl) hS.drew ?_
                        refine QL.v hE (runs_plain rfl) (Gives.p hE rfl) rfl ?_; clear hE a; intro a hE
                        refine QL.v hE (runs_plain rfl) (Gives.p hE rfl) rfl ?_; clear hE a; intro a hE
                        obtain ⟨x320, hx321, hq314⟩ := bindS hq314
                        obtain ⟨hi322, hlt323, hy324⟩ := gx_some hx321
                        obtain ⟨vs325, hl326, hR327, hd328, hget329⟩ := h119.at hy324
                        subst hR327
                        refine QL.v hE (runs_plain rfl) (Gives.idx hE ((x300).toNat) rfl rfl sl23 hi322 (by have := hn121; omega) (hS.vecAok 1 rfl (by have := hn121; omega : (x300).toNat < q91.length))) rfl ?_; clear hE a; intro a hE
                        refine QL.v hE (runs_plain rfl) (Gives.load1 hE rfl (fun w h => St.vecSees h 1 rfl ((x300).toNat * 1) _ hget329) ty3) rfl ?_; clear hE a; intro a hE
                        refine QL.v hE (runs_plain rfl) (Gives.p hE rfl) rfl ?_; clear hE a; intro a hE
                        refine QL.v hE (runs_plain rfl) (Gives.p hE rfl) rfl ?_; clear hE a; intro a hE
                        rcases Bool.eq_false_or_eq_true (decide (x320 ≥ 0)) with hg330 | hg330
                        · replace hq314 := iteT hg330 hq314
                          refine QL.v hE (runs_if hE rfl rfl rfl hg330) (Gives.p hE rfl) rfl ?_; clear hE a; intro a hE
                          refine QL.v hE (runs_if hE rfl rfl rfl hg330) (Gives.p hE rfl) rfl ?_; clear hE a; intro a hE
                          obtain ⟨x331, hx332, hq314⟩ := bindS hq314
                          obtain ⟨hi333, hlt334, hy335⟩ := gx_some hx332
                          obtain ⟨vs336, hl337, hR338, hd339, hget340⟩ := h119.at hy335
                          subst hR338
                          refine QL.v hE (runs_if hE rfl rfl rfl hg330) (Gives.idx hE ((x300).toNat) rfl rfl sl23 hi333 (by have := hn121; omega) (hS.vecAok 1 rfl (by have := hn121; omega : (x300).toNat < q91.length))) rfl ?_; clear hE a; intro a hE
                          refine QL.v hE (runs_if hE rfl rfl rfl hg330) (Gives.load1 hE rfl (fun w h => St.vecSees h 1 rfl ((x300).toNat * 1) _ hget340) ty3) rfl ?_; clear hE a; intro a hE
                          refine QL.v hE (runs_if hE rfl rfl rfl hg330) (Gives.p hE rfl) rfl ?_; clear hE a; intro a hE
                          refine QL.v hE (runs_if hE rfl rfl rfl hg330) (Gives.p hE rfl) rfl ?_; clear hE a; intro a hE
                          obtain ⟨x341, hx342, hq314⟩ := bindS hq314
                          obtain ⟨hi343, hlt344, hy345⟩ := gx_some hx342
                          obtain ⟨vs346, hl347, hR348, hd349, hget350⟩ := h119.at hy345
                          subst hR348
                          refine QL.v hE (runs_if hE rfl rfl rfl hg330) (Gives.idx hE ((q282).toNat) rfl rfl sl23 hi343 (by have := hn121; omega) (hS.vecAok 1 rfl (by have := hn121; omega : (q282).toNat < q91.length))) rfl ?_; clear hE a; intro a hE
                          refine QL.v hE (runs_if hE rfl rfl rfl hg330) (Gives.load1 hE rfl (fun w h => St.vecSees h 1 rfl ((q282).toNat * 1) _ hget350) ty3) rfl ?_; clear hE a; intro a hE
                          refine QL.v hE (runs_if hE rfl rfl rfl hg330) (Gives.p hE rfl) rfl ?_; clear hE a; intro a hE
                          refine QL.v hE (runs_if hE rfl rfl rfl hg330) (Gives.p hE rfl) rfl ?_; clear hE a; intro a hE
                          refine QL.v hE (runs_plain rfl) (Gives.pickT hE rfl hg330 rfl) rfl ?_; clear hE a; intro a hE
                          refine QL.v hE (runs_plain rfl) (Gives.p hE rfl) rfl ?_; clear hE a; intro a hE
                          rcases Bool.eq_false_or_eq_true (x331 == (w64 (x341 - 1))) with hg351 | hg351
                          · replace hq314 := iteT hg351 hq314
                            refine QL.v hE (runs_if hE rfl rfl rfl hg351) (Gives.p hE rfl) rfl ?_; clear hE a; intro a hE
                            refine QL.v hE (runs_if hE rfl rfl rfl hg351) (Gives.p hE rfl) rfl ?_; clear hE a; intro a hE
                            refine QL.v hE (runs_if hE rfl rfl rfl hg351) (Gives.p hE rfl) rfl ?_; clear hE a; intro a hE
                            rcases Bool.eq_false_or_eq_true (decide (q308 < 0)) with hg352 | hg352
                            · replace hq314 := iteT hg352 hq314
                              refine QL.no hE (runs_not hE rfl rfl rfl (by rw [hg352]; decide)) rfl ?_; clear hE a; intro a hE
                              refine QL.no hE (runs_not hE rfl rfl rfl (by rw [hg352]; decide)) rfl ?_; clear hE a; intro a hE
                              refine QL.no hE (runs_not hE rfl rfl rfl (by rw [hg352]; decide)) rfl ?_; clear hE a; intro a hE
                              refine QL.v hE (runs_if hE rfl rfl rfl hg351) (Gives.pickT hE rfl hg352 rfl) rfl ?_; clear hE a; intro a hE
                              refine QL.v hE (runs_plain rfl) (Gives.pickT hE rfl hg351 rfl) rfl ?_; clear hE a; intro a hE
                              refine QL.nil ?_; clear hS w; intro w hS
                              subst hK319
                              exact ⟨true, Option.some.inj hq314, hE.pick _ ⟨rfl, rfl, rfl, rfl, rfl, rfl, rfl, rfl, rfl, rfl, rfl, trivial⟩, hS⟩
                            · replace hq314 := iteF hg352 hq314
                              refine QL.v hE (runs_if hE rfl rfl rfl hg352) (Gives.p hE rfl) rfl ?_; clear hE a; intro a hE
                              refine QL.v hE (runs_if hE rfl rfl rfl hg352) (Gives.p hE rfl) rfl ?_; clear hE a; intro a hE
                              refine QL.v hE (runs_if hE rfl rfl rfl hg352) (Gives.p hE rfl) rfl ?_; clear hE a; intro a hE
                              refine QL.v hE (runs_if hE rfl rfl rfl hg351) (Gives.pickF hE rfl hg352 rfl) rfl ?_; clear hE a; intro a hE
                              refine QL.v hE (runs_plain rfl) (Gives.pickT hE rfl hg351 rfl) rfl ?_; clear hE a; intro a hE
                              refine QL.nil ?_; clear hS w; intro w hS
                              subst hK319
                              exact ⟨decide (x300 < q308), Option.some.inj hq314, hE.pick _ ⟨rfl, rfl, rfl, rfl, rfl, rfl, rfl, rfl, rfl, rfl, rfl, trivial⟩, hS⟩
                          · replace hq314 := iteF hg351 hq314
                            refine QL.no hE (runs_not hE rfl rfl rfl (by rw [hg351]; decide)) rfl ?_; clear hE a; intro a hE
                            refine QL.no hE (runs_not hE rfl rfl rfl (by rw [hg351]; decide)) rfl ?_; clear hE a; intro a hE
                            refine QL.no hE (runs_not hE rfl rfl rfl (by rw [hg351]; decide)) rfl ?_; clear hE a; intro a hE
                            refine QL.no hE (runs_undef hE rfl rfl rfl) rfl ?_; clear hE a; intro a hE
                            refine QL.no hE (runs_undef hE rfl rfl rfl) rfl ?_; clear hE a; intro a hE
                            refine QL.no hE (runs_undef hE rfl rfl rfl) rfl ?_; clear hE a; intro a hE
                            refine QL.no hE (runs_not hE rfl rfl rfl (by rw [hg351]; decide)) rfl ?_; clear hE a; intro a hE
                            refine QL.v hE (runs_plain rfl) (Gives.pickF hE rfl hg351 rfl) rfl ?_; clear hE a; intro a hE
                            refine QL.nil ?_; clear hS w; intro w hS
                            subst hK319
                            exact ⟨false, Option.some.inj hq314, hE.pick _ ⟨rfl, rfl, rfl, rfl, rfl, rfl, rfl, rfl, rfl, rfl, rfl, trivial⟩, hS⟩
                        · replace hq314 := iteF hg330 hq314
                          refine QL.no hE (runs_not hE rfl rfl rfl (by rw [hg330]; decide)) rfl ?_; clear hE a; intro a hE
                          refine QL.no hE (runs_not hE rfl rfl rfl (by rw [hg330]; decide)) rfl ?_; clear hE a; intro a hE
                          refine QL.no hE (runs_not hE rfl rfl rfl (by rw [hg330]; decide)) rfl ?_; clear hE a; intro a hE
                          refine QL.no hE (runs_not hE rfl rfl rfl (by rw [hg330]; decide)) rfl ?_; clear hE a; intro a hE
                          refine QL.no hE (runs_not hE rfl rfl rfl (by rw [hg330]; decide)) rfl ?_; clear hE a; intro a hE
                          refine QL.no hE (runs_not hE rfl rfl rfl (by rw [hg330]; decide)) rfl ?_; clear hE a; intro a hE
                          refine QL.no hE (runs_not hE rfl rfl rfl (by rw [hg330]; decide)) rfl ?_; clear hE a; intro a hE
                          refine QL.no hE (runs_not hE rfl rfl rfl (by rw [hg330]; decide)) rfl ?_; clear hE a; intro a hE
                          refine QL.no hE (runs_not hE rfl rfl rfl (by rw [hg330]; decide)) rfl ?_; clear hE a; intro a hE
                          refine QL.no hE (runs_not hE rfl rfl rfl (by rw [hg330]; decide)) rfl ?_; clear hE a; intro a hE
                          refine QL.v hE (runs_plain rfl) (Gives.pickF hE rfl hg330 rfl) rfl ?_; clear hE a; intro a hE
                          refine QL.v hE (runs_plain rfl) (Gives.p hE rfl) rfl ?_; clear hE a; intro a hE
                          refine QL.no hE (runs_not hE rfl rfl rfl (by decide)) rfl ?_; clear hE a; intro a hE
                          refine QL.no hE (runs_not hE rfl rfl rfl (by decide)) rfl ?_; clear hE a; intro a hE
                          refine QL.no hE (runs_not hE rfl rfl rfl (by decide)) rfl ?_; clear hE a; intro a hE
                          refine QL.no hE (runs_undef hE rfl rfl rfl) rfl ?_; clear hE a; intro a hE
                          refine QL.no hE (runs_undef hE rfl rfl rfl) rfl ?_; clear hE a; intro a hE
                          refine QL.no hE (runs_undef hE rfl rfl rfl) rfl ?_; clear hE a; intro a hE
                          refine QL.no hE (runs_not hE rfl rfl rfl (by decide)) rfl ?_; clear hE a; intro a hE
                          refine QL.v hE (runs_plain rfl) (Gives.pickF hE rfl rfl rfl) rfl ?_; clear hE a; intro a hE
                          refine QL.nil ?_; clear hS w; intro w hS
                          subst hK319
                          exact ⟨false, Option.some.inj hq314, hE.pick _ ⟨rfl, rfl, rfl, rfl, rfl, rfl, rfl, rfl, rfl, rfl, rfl, trivial⟩, hS⟩
                      · clear hE hS a w; rintro a w ⟨q318, rfl, hE, hS⟩
                        obtain ⟨q354, hq353, hq297⟩ := bndS hq297
                        refine W.cut (fun a w => ∃ (q357 : Int), q357 = q354 ∧ Rep a 155 [(2, .int .i64 x2), (3, .pointer (some ⟨b51, 0, none⟩)), (11, .slice a93 q91.length c94), (17, .slice a276 q275.length c277), (18, .int .i64 q282), (19, .int .i64 q357), (115, .slice a294 x285.length c295), (116, .int .i64 ((x285).length : Int)), (117, .int .i64 ((k299 : Nat) : Int))] ∧ St w s88 (vecC 3 1 a276 c277 q275.length cs280 :: vecC 3 1 a93 c94 q91.length cs120 :: pt b54 (.cells #[.func (.func 8) #[] #[.pointer (some ⟨b51, 0, none⟩)]] 31 (0, 0)) :: pt b51 (.cells #[.slice a0 x0.length c0] 22 (0, 0)) :: R)) ?_ ?_
                        · refine W.gen fun K358 hK358 => ?_
                          refine W.cond hE rfl (fun hc359 => ?_) (fun hc359 => ?_)
                          · replace hq353 := iteT hc359 hq353
                            refine W.region ?_
                            refine WL.vS hS hE (runs_plain rfl) (Gives.p hE rfl) rfl ?_; clear hE a; intro a hE
                            refine WL.vS hS hE (runs_plain rfl) (Gives.p hE rfl) rfl ?_; clear hE a; intro a hE
                            refine WL.nil ?_
                            subst hK358
                            exact ⟨x300, hq353, hE.pick _ ⟨rfl, rfl, rfl, rfl, rfl, rfl, rfl, rfl, rfl, trivial⟩, hS⟩
                          · replace hq353 := iteF hc359 hq353
                            refine W.skip ?_
                            subst hK358
                            exact ⟨q308, hq353, hE.pick _ ⟨rfl, rfl, rfl, rfl, rfl, rfl, rfl, rfl, rfl, trivial⟩, hS⟩
                        · clear hE hS a w; rintro a w ⟨q357, rfl, hE, hS⟩
                          refine W.region ?_
                          refine WL.vS hS hE (runs_plain rfl) (Gives.inc hE rfl (by have := h296.small; omega)) rfl ?_; clear hE a; intro a hE
                          refine WL.vS hS hE (runs_plain rfl) (Gives.p hE rfl) rfl ?_; clear hE a; intro a hE
                          refine WL.nil ?_
                          subst hK309
                          exact ⟨rest301.length, Nat.lt_succ_self _, rest301, k299 + 1, q357, rfl, hd302, hq297, hE.pick _ ⟨rfl, rfl, rfl, rfl, rfl, rfl, rfl, rfl, rfl, trivial⟩, hS⟩
                  · clear hE hS a w; rintro a w ⟨q308, rfl, hE, hS⟩
                    refine W.seq ?_
                    refine W.region ?_
                    refine WL.vS hS hE (runs_plain rfl) (Gives.p hE rfl) rfl ?_; clear hE a; intro a hE
                    refine WL.vS hS hE (runs_plain rfl) (Gives.p hE rfl) rfl ?_; clear hE a; intro a hE
                    refine WL.nil ?_
                    refine W.region ?_
                    refine WL.vS hS hE (runs_plain rfl) (Gives.p hE rfl) rfl ?_; clear hE a; intro a hE
                    refine WL.vS hS hE (runs_plain rfl) (Gives.p hE rfl) rfl ?_; clear hE a; intro a hE
                    refine WL.lit hE hS (e := 3) (es := 1) (vs := [(0, .int .i64 q308)]) (cs := [.int .i64 q308]) (runs_plain rfl) rfl (by kernel_rfl) rfl ?_; clear hE hS a w; intro b360 a w hE hS
                    obtain ⟨x361, hx362, hq269⟩ := bindS hq269
                    refine WL.appD hE hS 0 (m := 1) (runs_plain rfl) rfl rfl rfl ap23 rfl h278 rfl (xs := [q308]) (Ev.cons (c1 := [.int .i64 q308]) rfl rfl (Ev.nil)) rfl rfl hx362 rfl ?_; clear hE hS a w; intro a363 c364 cs365 a w h366 hE hS
                    refine WL.vS hS hE (runs_plain rfl) (Gives.p hE rfl) rfl ?_; clear hE a; intro a hE
                    refine WL.nil ?_
                    subst hK283
                    exact ⟨n271, Nat.lt_succ_self _, n271, x361, q308, a363, c364, x361.length, cs365, rfl, hq269, h366, (rfl), hE.pick _ ⟨rfl, rfl, rfl, rfl, rfl, trivial⟩, hS⟩
                · replace hq269 := iteF hc284 hq269
                  subst hK283
                  refine W.exit rfl ?_
                  exact ⟨q275, q282, a276, c277, q275.length, cs280, Option.some.inj hq269, h278, rfl, hE.pick _ ⟨rfl, trivial⟩, hS⟩
              · clear hE hS a w; rintro a w ⟨q275, q282, a276, c277, n279, cs280, rfl, h278, rfl, hE, hS⟩
                dsimp only at hr
                refine W.seq ?_
                refine W.region ?_
                refine WL.vS hS hE (runs_plain rfl) (Gives.p hE rfl) rfl ?_; clear hE a; intro a hE
                refine WL.vS hS hE (runs_plain rfl) (Gives.p hE rfl) rfl ?_; clear hE a; intro a hE
                refine WL.vS hS hE (runs_plain rfl) (Gives.p hE rfl) rfl ?_; clear hE a; intro a hE
                refine WL.nil ?_
                refine W.ret ?_
                refine finG (fn := Try.f4) (rs := [.tmp 6, .tmp 7]) (vs := [_, _]) hE rfl ⟨rfl, rfl, trivial⟩ ?_
                obtain rfl := Option.some.inj hr
                replace hS := hS.dropAt 1
                replace hS := hS.dropAt 1
                replace hS := hS.dropAt 1
                exact ⟨a276, c277, q275.length, cs280, s88, rfl, hle89, h278, rfl, hS⟩
set_option maxHeartbeats 8000000 in
theorem SlicesCollectint_v1_ok  {w : World} {s : Sg} {R : List HP} {pb0 : Nat} {y0 : List Int} {a_y0_0 : Option Addr} {c_y0_0 : Nat} (hS : St w s (pt pb0 (.cells #[.slice a_y0_0 y0.length c_y0_0] 23 (0, 0)) :: R)) (h_y0_0 : Sl 1 (RI .i64) s a_y0_0 c_y0_0 y0) {r : (List Int)} (hr : SlicesCollectint_v1 y0 = some r) :
    Calls Try.prog 19 [.func (.func 21) #[] #[.pointer (some ⟨pb0, 0, none⟩)]].toArray w (fun e w => ∃ (a0 : Option Addr) (c0 n0 : Nat) (cs0 : List Value), e = .returned (.slice a0 n0 c0) ∧ Ev 1 (RI .i64) s cs0 r ∧ r.length = n0 ∧ St w s (vecC 3 1 a0 c0 n0 cs0 :: pt pb0 (.cells #[.slice a_y0_0 y0.length c_y0_0] 23 (0, 0)) :: R)) := by
  refine enter Try.func19 rfl rfl rfl fun a hE => ?_
  rw [SlicesCollectint_v1] at hr
  refine W.seq ?_
  refine W.region ?_
  refine WL.vS hS hE (runs_plain rfl) (Gives.p hE rfl) rfl ?_; clear hE a; intro a hE
  refine WL.nil ?_
  refine W.seq ?_
  refine W.region ?_
  refine WL.vS hS hE (runs_plain rfl) (Gives.p hE rfl) rfl ?_; clear hE a; intro a hE
  obtain ⟨q51, hq52, hr⟩ := bindS hr
  refine WL.fnq hE (itSeq_ok (l := y0) hS h_y0_0 hq52) (runs_plain rfl) bd27 rfl rfl rfl ?_
  clear hE hS; rintro e w ⟨a53, c54, n55, cs56, rfl, h57, rfl, hS⟩; refine ⟨_, rfl, ?_⟩; clear a; intro a hE
  refine WL.vS hS hE (runs_plain rfl) (Gives.p hE rfl) rfl ?_; clear hE a; intro a hE
  refine WL.nil ?_
  refine W.ret ?_
  refine finG (fn := Try.f19) (rs := [.tmp 2]) (vs := [_]) hE rfl ⟨rfl, trivial⟩ ?_
  obtain rfl := Option.some.inj hr
  exact ⟨a53, c54, q51.length, cs56, rfl, h57, rfl, hS⟩
set_option maxHeartbeats 8000000 in
theorem SlicesSortedint_v1_ok  {w : World} {s : Sg} {R : List HP} {pb0 : Nat} {y0 : List Int} {a_y0_0 : Option Addr} {c_y0_0 : Nat} (hS : St w s (pt pb0 (.cells #[.slice a_y0_0 y0.length c_y0_0] 23 (0, 0)) :: R)) (h_y0_0 : Sl 1 (RI .i64) s a_y0_0 c_y0_0 y0) {r : (List Int)} (hr : SlicesSortedint_v1 y0 = some r) :
    Calls Try.prog 13 [.func (.func 21) #[] #[.pointer (some ⟨pb0, 0, none⟩)]].toArray w (fun e w => ∃ (a0 : Option Addr) (c0 n0 : Nat) (cs0 : List Value), e = .returned (.slice a0 n0 c0) ∧ Ev 1 (RI .i64) s cs0 r ∧ r.length = n0 ∧ St w s (vecC 3 1 a0 c0 n0 cs0 :: pt pb0 (.cells #[.slice a_y0_0 y0.length c_y0_0] 23 (0, 0)) :: R)) := by
  refine enter Try.func13 rfl rfl rfl fun a hE => ?_
  rw [SlicesSortedint_v1] at hr
  refine W.seq ?_
  refine W.region ?_
  refine WL.vS hS hE (runs_plain rfl) (Gives.p hE rfl) rfl ?_; clear hE a; intro a hE
  refine WL.nil ?_
  refine W.seq ?_
  refine W.region ?_
  refine WL.vS hS hE (runs_plain rfl) (Gives.p hE rfl) rfl ?_; clear hE a; intro a hE
  obtain ⟨q51, hq52, hr⟩ := bindS hr
  have hc_ := SlicesCollectint_v1_ok hS h_y0_0 hq52
  refine WL.fnq hE (hc_) (runs_plain rfl) bd19 rfl rfl rfl ?_
  clear hE hS hc_; rintro e w ⟨a53, c54, n55, cs56, rfl, h57, rfl, hS⟩; refine ⟨_, rfl, ?_⟩; clear a; intro a hE
  refine WL.vS hS hE (runs_plain rfl) (Gives.p hE rfl) rfl ?_; clear hE a; intro a hE
  refine WL.nil ?_
  refine W.seq ?_
  refine W.region ?_
  refine WL.vS hS hE (runs_plain rfl) (Gives.p hE rfl) rfl ?_; clear hE a; intro a hE
  obtain ⟨q62, hq63, hr⟩ := bindS hr
  refine WL.fnq hE (itSort_ok hS h57 rfl hq63) (runs_plain rfl) bd20 rfl rfl rfl ?_
  clear hE hS; rintro e w ⟨cs60, rfl, h61, hn64, hS⟩; refine ⟨_, rfl, ?_⟩; clear a; intro a hE
  refine WL.nil ?_
  refine W.seq ?_
  refine W.region ?_
  refine WL.vS hS hE (runs_plain rfl) (Gives.p hE rfl) rfl ?_; clear hE a; intro a hE
  refine WL.vS hS hE (runs_plain rfl) (Gives.p hE rfl) rfl ?_; clear hE a; intro a hE
  refine WL.nil ?_
  refine W.ret ?_
  refine finG (fn := Try.f13) (rs := [.tmp 2]) (vs := [_]) hE rfl ⟨rfl, trivial⟩ ?_
  obtain rfl := Option.some.inj hr
  exact ⟨a53, c54, q51.length, cs60, rfl, h61, hn64, hS⟩
set_option maxHeartbeats 8000000 in
theorem SlicesCloneLint_ok  {w : World} {s : Sg} {R : List HP} {x0 : List Int} {a0 : Option Addr} {c0 : Nat} (hS : St w s (R)) (h0 : Sl 1 (RI .i64) s a0 c0 x0) {r : (List Int)} (hr : SlicesCloneLint x0 = some r) :
    Calls Try.prog 15 [.slice a0 x0.length c0].toArray w (fun e w => ∃ (a0 : Option Addr) (c0 n0 : Nat) (cs0 : List Value), e = .returned (.slice a0 n0 c0) ∧ Ev 1 (RI .i64) s cs0 r ∧ r.length = n0 ∧ St w s (vecC 3 1 a0 c0 n0 cs0 :: R)) := by
  refine enter Try.func15 rfl rfl rfl fun a hE => ?_
  rw [SlicesCloneLint] at hr
  refine W.seq ?_
  refine W.region ?_
  refine WL.vS hS hE (runs_plain rfl) (Gives.p hE rfl) rfl ?_; clear hE a; intro a hE
  refine WL.nil ?_
  refine W.seq ?_
  refine W.seq ?_
  refine W.region ?_
  refine WL.vS hS hE (runs_plain rfl) (Gives.p hE rfl) rfl ?_; clear hE a; intro a hE
  refine WL.vS hS hE (runs_plain rfl) (Gives.isNil hE rfl rfl isl23) rfl ?_; clear hE a; intro a hE
  refine WL.nil ?_
  rcases a0 with _ | g51
  · obtain rfl := h0.none_nil
    replace hr : some [] = _ := hr
    refine W.condT hE rfl rfl ?_
    refine W.seq ?_
    refine W.region ?_
    refine WL.vS hS hE (runs_plain rfl) (Gives.p hE rfl) rfl ?_; clear hE a; intro a hE
    refine WL.nil ?_
    refine W.ret ?_
    replace hS := hS.vecNil 3 1
    refine finG (fn := Try.f15) (rs := [.tmp 2]) (vs := [_]) hE rfl ⟨rfl, trivial⟩ ?_
    obtain rfl := Option.some.inj hr
    exact ⟨none, 0, 0, [], rfl, (Ev.nil), (rfl), hS⟩
  · skip
    refine W.condF hE rfl rfl ?_
    refine W.skip ?_
    refine W.seq ?_
    refine W.region ?_
    refine WL.lit hE hS (e := 3) (es := 1) (vs := []) (cs := []) (runs_plain rfl) rfl (by kernel_rfl) rfl ?_; clear hE hS a w; intro b53 a w hE hS
    replace hS := hS.ptVec (es := 1) (m := 0) rfl (by decide)
    have h55 : Ev 1 (RI .i64) s [] [] := (Ev.nil)
    refine WL.vS hS hE (runs_plain rfl) (Gives.p hE rfl) rfl ?_; clear hE a; intro a hE
    obtain ⟨x56, hx57, hr⟩ := bindS hr
    refine WL.appS hE hS 0 (runs_plain rfl) rfl rfl (xs := x0) rfl rfl ap23 RI.one h55 (rfl) h0 hx57 rfl ?_; clear hE hS a w; intro a58 c59 cs60 a w h61 hE hS
    refine WL.vS hS hE (runs_plain rfl) (Gives.p hE rfl) rfl ?_; clear hE a; intro a hE
    refine WL.nil ?_
    refine W.ret ?_
    refine finG (fn := Try.f15) (rs := [.tmp 2]) (vs := [_]) hE rfl ⟨rfl, trivial⟩ ?_
    obtain rfl := Option.some.inj hr
    exact ⟨a58, c59, x56.length, cs60, rfl, h61, (rfl), hS⟩
set_option maxHeartbeats 8000000 in
theorem Fishref2WayOf_ok  {w : World} {s : Sg} {R : List HP} {x0 : List (List Int)} {a0 : Option Addr} {c0 : Nat} {x1 : Int} {x2 : Int} (hS : St w s (R)) (h0 : Sl 1 (RL 1 (RI .i64)) s a0 c0 x0) {r : (List Int) × Int} (hr : Fishref2WayOf x0 x1 x2 = some r) :
    Calls Try.prog 5 [.slice a0 x0.length c0, .int .i64 x1, .int .i64 x2].toArray w (fun e w => ∃ (a0 : Option Addr) (c0 : Nat) (t : Sg), e = .returned (.tuple #[.slice a0 r.1.length c0, .int .i64 r.2]) ∧ s.Le t ∧ Sl 1 (RI .i64) t a0 c0 r.1 ∧ St w t (R)) := by
  refine enter Try.func5 rfl rfl rfl fun a hE => ?_
  rw [Fishref2WayOf] at hr
  refine W.seq ?_
  refine W.region ?_
  refine WL.vS hS hE (runs_plain rfl) (Gives.p hE rfl) rfl ?_; clear hE a; intro a hE
  refine WL.vS hS hE (runs_plain rfl) (Gives.p hE rfl) rfl ?_; clear hE a; intro a hE
  refine WL.nil ?_
  refine W.seq ?_
  refine W.seq ?_
  refine W.region ?_
  refine WL.vS hS hE (runs_plain rfl) (Gives.p hE rfl) rfl ?_; clear hE a; intro a hE
  refine WL.vS hS hE (runs_plain rfl) (Gives.len hE rfl sl22) rfl ?_; clear hE a; intro a hE
  refine WL.vS hS hE (runs_plain rfl) (Gives.p hE rfl) rfl ?_; clear hE a; intro a hE
  refine WL.nil ?_
  refine W.cond hE rfl (fun hc51 => ?_) (fun hc51 => ?_)
  · replace hr := iteT hc51 hr
    refine W.seq ?_
    refine W.region ?_
    refine WL.vS hS hE (runs_plain rfl) (Gives.p hE rfl) rfl ?_; clear hE a; intro a hE
    refine WL.vS hS hE (runs_plain rfl) (Gives.p hE rfl) rfl ?_; clear hE a; intro a hE
    refine WL.nil ?_
    refine W.ret ?_
    refine finG (fn := Try.f5) (rs := [.tmp 6, .tmp 7]) (vs := [_, _]) hE rfl ⟨rfl, rfl, trivial⟩ ?_
    obtain rfl := Option.some.inj hr
    exact ⟨none, 0, s, rfl, (Sg.Le.refl _), Sl.nil, hS⟩
  · replace hr := iteF hc51 hr
    refine W.skip ?_
    refine W.seq ?_
    refine W.seq ?_
    refine W.region ?_
    refine WL.vS hS hE (runs_plain rfl) (Gives.p hE rfl) rfl ?_; clear hE a; intro a hE
    refine WL.vS hS hE (runs_plain rfl) (Gives.len hE rfl sl22) rfl ?_; clear hE a; intro a hE
    refine WL.vS hS hE (runs_plain rfl) (Gives.p hE rfl) rfl ?_; clear hE a; intro a hE
    refine WL.nil ?_
    obtain ⟨q53, hq52, hr⟩ := bndS hr
    refine W.cut (fun a w => (.next ()) = q53 ∧ Rep a 128 [(0, .slice a0 x0.length c0), (1, .int .i64 x1), (2, .int .i64 x2)] ∧ St w s (R)) ?_ ?_
    · refine W.block ?_
      refine W.loop (fun m a w => ∃ (rest56 : List (List Int)) (k54 : Nat), rest56.length = m ∧ x0.drop k54 = rest56 ∧ Fishref2WayOf.loop1 x0 rest56 = q53 ∧ Rep a 128 [(0, .slice a0 x0.length c0), (1, .int .i64 x1), (2, .int .i64 x2), (24, .slice a0 x0.length c0), (25, .int .i64 ((x0).length : Int)), (26, .int .i64 ((k54 : Nat) : Int))] ∧ St w s (R)) (m := x0.length) ⟨x0, 0, rfl, rfl, hq52, hE.pick _ ⟨rfl, rfl, rfl, rfl, rfl, rfl, trivial⟩, hS⟩ ?_
      clear hE hS a w hq52; rintro m60 a w ⟨rest56, k54, rfl, hd57, hq52, hE, hS⟩
      refine W.gen fun K63 hK63 => ?_
      rcases rest56 with _ | ⟨x55, rest56⟩
      · have hlt58 := drop_nil hd57
        refine W.seq ?_
        refine W.region ?_
        refine WL.vS hS hE (runs_plain rfl) (Gives.p hE rfl) rfl ?_; clear hE a; intro a hE
        refine WL.nil ?_
        refine W.seq ?_
        refine W.condF hE rfl (decide_eq_false (by omega)) ?_
        subst hK63
        refine W.exit rfl ?_
        exact ⟨hq52, hE.pick _ ⟨rfl, rfl, rfl, trivial⟩, hS⟩
      · obtain ⟨hlt58, hx59, hd57⟩ := drop_cons hd57
        rw [Fishref2WayOf.loop1] at hq52
        refine W.seq ?_
        refine W.region ?_
        refine WL.vS hS hE (runs_plain rfl) (Gives.p hE rfl) rfl ?_; clear hE a; intro a hE
        refine WL.nil ?_
        refine W.seq ?_
        refine W.condT hE rfl (decide_eq_true (by omega)) ?_
        refine W.skip ?_
        refine W.seq ?_
        refine W.block ?_
        refine W.seq ?_
        refine W.region ?_
        obtain ⟨cs64, hl65, hR66, hat67⟩ := h0.at hx59
        obtain ⟨a68, c69, rfl, h70⟩ := hR66
        refine WL.vS hS hE (runs_plain rfl) (Gives.idx hE k54 rfl rfl sl22 rfl hlt58 (h0.aok hlt58)) rfl ?_; clear hE a; intro a hE
        refine WL.vS hS hE (runs_plain rfl) (Gives.load1 hE rfl (fun w h => hat67 w _ h) ty23) rfl ?_; clear hE a; intro a hE
        refine WL.vS hS hE (runs_plain rfl) (Gives.p hE rfl) rfl ?_; clear hE a; intro a hE
        refine WL.nil ?_
        refine W.seq ?_
        refine W.region ?_
        refine WL.vS hS hE (runs_plain rfl) (Gives.p hE rfl) rfl ?_; clear hE a; intro a hE
        refine WL.vS hS hE (runs_plain rfl) (Gives.len hE rfl sl23) rfl ?_; clear hE a; intro a hE
        refine WL.vS hS hE (runs_plain rfl) (Gives.p hE rfl) rfl ?_; clear hE a; intro a hE
        refine WL.nil ?_
        obtain ⟨q72, hq71, hq52⟩ := bndS hq52
        refine W.cut (fun a w => (.next ()) = q72 ∧ Rep a 128 [(0, .slice a0 x0.length c0), (1, .int .i64 x1), (2, .int .i64 x2), (24, .slice a0 x0.length c0), (25, .int .i64 ((x0).length : Int)), (26, .int .i64 ((k54 : Nat) : Int))] ∧ St w s (R)) ?_ ?_
        · refine W.block ?_
          refine W.loop (fun m a w => ∃ (rest75 : List Int) (k73 : Nat), rest75.length = m ∧ x55.drop k73 = rest75 ∧ Fishref2WayOf.loop2 x0 rest75 = q72 ∧ Rep a 128 [(0, .slice a0 x0.length c0), (1, .int .i64 x1), (2, .int .i64 x2), (24, .slice a0 x0.length c0), (25, .int .i64 ((x0).length : Int)), (26, .int .i64 ((k54 : Nat) : Int)), (30, .slice a68 x55.length c69), (31, .int .i64 ((x55).length : Int)), (32, .int .i64 ((k73 : Nat) : Int))] ∧ St w s (R)) (m := x55.length) ⟨x55, 0, rfl, rfl, hq71, hE.pick _ ⟨rfl, rfl, rfl, rfl, rfl, rfl, rfl, rfl, rfl, trivial⟩, hS⟩ ?_
          clear hE hS a w hq71; rintro m79 a w ⟨rest75, k73, rfl, hd76, hq71, hE, hS⟩
          refine W.gen fun K82 hK82 => ?_
          rcases rest75 with _ | ⟨x74, rest75⟩
          · have hlt77 := drop_nil hd76
            refine W.seq ?_
            refine W.region ?_
            refine WL.vS hS hE (runs_plain rfl) (Gives.p hE rfl) rfl ?_; clear hE a; intro a hE
            refine WL.nil ?_
            refine W.seq ?_
            refine W.condF hE rfl (decide_eq_false (by omega)) ?_
            subst hK82
            refine W.exit rfl ?_
            exact ⟨hq71, hE.pick _ ⟨rfl, rfl, rfl, rfl, rfl, rfl, trivial⟩, hS⟩
          · obtain ⟨hlt77, hx78, hd76⟩ := drop_cons hd76
            rw [Fishref2WayOf.loop2] at hq71
            refine W.seq ?_
            refine W.region ?_
            refine WL.vS hS hE (runs_plain rfl) (Gives.p hE rfl) rfl ?_; clear hE a; intro a hE
            refine WL.nil ?_
            refine W.seq ?_
            refine W.condT hE rfl (decide_eq_true (by omega)) ?_
            refine W.skip ?_
            refine W.seq ?_
            refine W.block ?_
            refine W.seq ?_
            refine W.region ?_
            obtain ⟨cs83, hl84, hR85, hat86⟩ := h70.at hx78
            subst hR85
            refine WL.vS hS hE (runs_plain rfl) (Gives.idx hE k73 rfl rfl sl23 rfl hlt77 (h70.aok hlt77)) rfl ?_; clear hE a; intro a hE
            refine WL.vS hS hE (runs_plain rfl) (Gives.load1 hE rfl (fun w h => hat86 w _ h) ty3) rfl ?_; clear hE a; intro a hE
            refine WL.vS hS hE (runs_plain rfl) (Gives.p hE rfl) rfl ?_; clear hE a; intro a hE
            refine WL.nil ?_
            refine W.seq ?_
            obtain ⟨q88, hq87, hq71⟩ := bndS hq71
            refine W.cut (fun a w => ∃ (q91 : Bool), q91 = q88 ∧ Rep a 128 [(0, .slice a0 x0.length c0), (1, .int .i64 x1), (2, .int .i64 x2), (24, .slice a0 x0.length c0), (25, .int .i64 ((x0).length : Int)), (26, .int .i64 ((k54 : Nat) : Int)), (30, .slice a68 x55.length c69), (31, .int .i64 ((x55).length : Int)), (32, .int .i64 ((k73 : Nat) : Int)), (43, .bool q91)] ∧ St w s (R)) ?_ ?_
            · refine W.gen fun K92 hK92 => ?_
              refine W.region ?_
              refine WL.vS hS hE (runs_plain rfl) (Gives.p hE rfl) rfl ?_; clear hE a; intro a hE
              refine WL.vS hS hE (runs_plain rfl) (Gives.p hE rfl) rfl ?_; clear hE a; intro a hE
              refine WL.vS hS hE (runs_plain rfl) (Gives.p hE rfl) rfl ?_; clear hE a; intro a hE
              rcases Bool.eq_false_or_eq_true (decide (x74 < 0)) with hg93 | hg93
              · replace hq87 := iteT hg93 hq87
                refine WL.no hE (runs_not hE rfl rfl rfl (by rw [hg93]; decide)) rfl ?_; clear hE a; intro a hE
                refine WL.no hE (runs_not hE rfl rfl rfl (by rw [hg93]; decide)) rfl ?_; clear hE a; intro a hE
                refine WL.no hE (runs_not hE rfl rfl rfl (by rw [hg93]; decide)) rfl ?_; clear hE a; intro a hE
                refine WL.no hE (runs_not hE rfl rfl rfl (by rw [hg93]; decide)) rfl ?_; clear hE a; intro a hE
                refine WL.vS hS hE (runs_plain rfl) (Gives.pickT hE rfl hg93 rfl) rfl ?_; clear hE a; intro a hE
                refine WL.nil ?_
                subst hK92
                exact ⟨true, hq87, hE.pick _ ⟨rfl, rfl, rfl, rfl, rfl, rfl, rfl, rfl, rfl, rfl, trivial⟩, hS⟩
              · replace hq87 := iteF hg93 hq87
                refine WL.vS hS hE (runs_if hE rfl rfl rfl hg93) (Gives.p hE rfl) rfl ?_; clear hE a; intro a hE
                refine WL.vS hS hE (runs_if hE rfl rfl rfl hg93) (Gives.p hE rfl) rfl ?_; clear hE a; intro a hE
                refine WL.vS hS hE (runs_if hE rfl rfl rfl hg93) (Gives.len hE rfl sl22) rfl ?_; clear hE a; intro a hE
                refine WL.vS hS hE (runs_if hE rfl rfl rfl hg93) (Gives.p hE rfl) rfl ?_; clear hE a; intro a hE
                refine WL.vS hS hE (runs_plain rfl) (Gives.pickF hE rfl hg93 rfl) rfl ?_; clear hE a; intro a hE
                refine WL.nil ?_
                subst hK92
                exact ⟨decide (x74 ≥ ((x0).length : Int)), hq87, hE.pick _ ⟨rfl, rfl, rfl, rfl, rfl, rfl, rfl, rfl, rfl, rfl, trivial⟩, hS⟩
            · clear hE hS a w; rintro a w ⟨q91, rfl, hE, hS⟩
              refine W.cond hE rfl (fun hc94 => ?_) (fun hc94 => ?_)
              · replace hq71 := iteT hc94 hq71
                refine W.seq ?_
                refine W.region ?_
                refine WL.vS hS hE (runs_plain rfl) (Gives.p hE rfl) rfl ?_; clear hE a; intro a hE
                refine WL.vS hS hE (runs_plain rfl) (Gives.p hE rfl) rfl ?_; clear hE a; intro a hE
                refine WL.nil ?_
                refine W.ret ?_
                subst hK82
                subst hK63
                rw [← hq71] at hq52
                dsimp only at hq52
                rw [← hq52] at hr
                dsimp only at hr
                refine finG (fn := Try.f5) (rs := [.tmp 6, .tmp 7]) (vs := [_, _]) hE rfl ⟨rfl, rfl, trivial⟩ ?_
                obtain rfl := Option.some.inj hr
                exact ⟨none, 0, s, rfl, (Sg.Le.refl _), Sl.nil, hS⟩
              · replace hq71 := iteF hc94 hq71
                refine W.skip ?_
                refine W.region ?_
                refine WL.vS hS hE (runs_plain rfl) (Gives.inc hE rfl (by have := h70.small; omega)) rfl ?_; clear hE a; intro a hE
                refine WL.vS hS hE (runs_plain rfl) (Gives.p hE rfl) rfl ?_; clear hE a; intro a hE
                refine WL.nil ?_
                subst hK82
                exact ⟨rest75.length, Nat.lt_succ_self _, rest75, k73 + 1, rfl, hd76, hq71, hE.pick _ ⟨rfl, rfl, rfl, rfl, rfl, rfl, rfl, rfl, rfl, trivial⟩, hS⟩
        · clear hE hS a w; rintro a w ⟨rfl, hE, hS⟩
          dsimp only at hq52
          refine W.region ?_
          refine WL.vS hS hE (runs_plain rfl) (Gives.inc hE rfl (by have := h0.small; omega)) rfl ?_; clear hE a; intro a hE
          refine WL.vS hS hE (runs_plain rfl) (Gives.p hE rfl) rfl ?_; clear hE a; intro a hE
          refine WL.nil ?_
          subst hK63
          exact ⟨rest56.length, Nat.lt_succ_self _, rest56, k54 + 1, rfl, hd57, hq52, hE.pick _ ⟨rfl, rfl, rfl, rfl, rfl, rfl, trivial⟩, hS⟩
    · clear hE hS a w; rintro a w ⟨rfl, hE, hS⟩
      dsimp only at hr
      refine W.seq ?_
      refine W.seq ?_
      obtain ⟨q96, hq95, hr⟩ := bndS hr
      refine W.cut (fun a w => ∃ (q99 : Bool), q99 = q96 ∧ Rep a 128 [(0, .slice a0 x0.length c0), (1, .int .i64 x1), (2, .int .i64 x2), (63, .bool q99)] ∧ St w s (R)) ?_ ?_
      · refine W.gen fun K100 hK100 => ?_
        refine W.region ?_
        refine WL.vS hS hE (runs_plain rfl) (Gives.p hE rfl) rfl ?_; clear hE a; intro a hE
        refine WL.vS hS hE (runs_plain rfl) (Gives.p hE rfl) rfl ?_; clear hE a; intro a hE
        refine WL.vS hS hE (runs_plain rfl) (Gives.p hE rfl) rfl ?_; clear hE a; intro a hE
        rcases Bool.eq_false_or_eq_true (decide (x1 < 0)) with hg101 | hg101
        · replace hq95 := iteT hg101 hq95
          refine WL.no hE (runs_not hE rfl rfl rfl (by rw [hg101]; decide)) rfl ?_; clear hE a; intro a hE
          refine WL.no hE (runs_not hE rfl rfl rfl (by rw [hg101]; decide)) rfl ?_; clear hE a; intro a hE
          refine WL.no hE (runs_not hE rfl rfl rfl (by rw [hg101]; decide)) rfl ?_; clear hE a; intro a hE
          refine WL.no hE (runs_not hE rfl rfl rfl (by rw [hg101]; decide)) rfl ?_; clear hE a; intro a hE
          refine WL.vS hS hE (runs_plain rfl) (Gives.pickT hE rfl hg101 rfl) rfl ?_; clear hE a; intro a hE
          refine WL.vS hS hE (runs_plain rfl) (Gives.p hE rfl) rfl ?_; clear hE a; intro a hE
          refine WL.no hE (runs_not hE rfl rfl rfl (by decide)) rfl ?_; clear hE a; intro a hE
          refine WL.no hE (runs_not hE rfl rfl rfl (by decide)) rfl ?_; clear hE a; intro a hE
          refine WL.vS hS hE (runs_plain rfl) (Gives.pickT hE rfl rfl rfl) rfl ?_; clear hE a; intro a hE
          refine WL.vS hS hE (runs_plain rfl) (Gives.p hE rfl) rfl ?_; clear hE a; intro a hE
          refine WL.no hE (runs_not hE rfl rfl rfl (by decide)) rfl ?_; clear hE a; intro a hE
          refine WL.no hE (runs_not hE rfl rfl rfl (by decide)) rfl ?_; clear hE a; intro a hE
          refine WL.no hE (runs_not hE rfl rfl rfl (by decide)) rfl ?_; clear hE a; intro a hE
          refine WL.no hE (runs_not hE rfl rfl rfl (by decide)) rfl ?_; clear hE a; intro a hE
          refine WL.vS hS hE (runs_plain rfl) (Gives.pickT hE rfl rfl rfl) rfl ?_; clear hE a; intro a hE
          refine WL.nil ?_
          subst hK100
          exact ⟨true, hq95, hE.pick _ ⟨rfl, rfl, rfl, rfl, trivial⟩, hS⟩
        · replace hq95 := iteF hg101 hq95
          refine WL.vS hS hE (runs_if hE rfl rfl rfl hg101) (Gives.p hE rfl) rfl ?_; clear hE a; intro a hE
          refine WL.vS hS hE (runs_if hE rfl rfl rfl hg101) (Gives.p hE rfl) rfl ?_; clear hE a; intro a hE
          refine WL.vS hS hE (runs_if hE rfl rfl rfl hg101) (Gives.len hE rfl sl22) rfl ?_; clear hE a; intro a hE
          refine WL.vS hS hE (runs_if hE rfl rfl rfl hg101) (Gives.p hE rfl) rfl ?_; clear hE a; intro a hE
          refine WL.vS hS hE (runs_plain rfl) (Gives.pickF hE rfl hg101 rfl) rfl ?_; clear hE a; intro a hE
          refine WL.vS hS hE (runs_plain rfl) (Gives.p hE rfl) rfl ?_; clear hE a; intro a hE
          rcases Bool.eq_false_or_eq_true (decide (x1 ≥ ((x0).length : Int))) with hg102 | hg102
          · replace hq95 := iteT hg102 hq95
            refine WL.no hE (runs_not hE rfl rfl rfl (by rw [hg102]; decide)) rfl ?_; clear hE a; intro a hE
            refine WL.no hE (runs_not hE rfl rfl rfl (by rw [hg102]; decide)) rfl ?_; clear hE a; intro a hE
            refine WL.vS hS hE (runs_plain rfl) (Gives.pickT hE rfl hg102 rfl) rfl ?_; clear hE a; intro a hE
            refine WL.vS hS hE (runs_plain rfl) (Gives.p hE rfl) rfl ?_; clear hE a; intro a hE
            refine WL.no hE (runs_not hE rfl rfl rfl (by decide)) rfl ?_; clear hE a; intro a hE
            refine WL.no hE (runs_not hE rfl rfl rfl (by decide)) rfl ?_; clear hE a; intro a hE
            refine WL.no hE (runs_not hE rfl rfl rfl (by decide)) rfl ?_; clear hE a; intro a hE
            refine WL.no hE (runs_not hE rfl rfl rfl (by decide)) rfl ?_; clear hE a; intro a hE
            refine WL.vS hS hE (runs_plain rfl) (Gives.pickT hE rfl rfl rfl) rfl ?_; clear hE a; intro a hE
            refine WL.nil ?_
            subst hK100
            exact ⟨true, hq95, hE.pick _ ⟨rfl, rfl, rfl, rfl, trivial⟩, hS⟩
          · replace hq95 := iteF hg102 hq95
            refine WL.vS hS hE (runs_if hE rfl rfl rfl hg102) (Gives.p hE rfl) rfl ?_; clear hE a; intro a hE
            refine WL.vS hS hE (runs_if hE rfl rfl rfl hg102) (Gives.p hE rfl) rfl ?_; clear hE a; intro a hE
            refine WL.vS hS hE (runs_plain rfl) (Gives.pickF hE rfl hg102 rfl) rfl ?_; clear hE a; intro a hE
            refine WL.vS hS hE (runs_plain rfl) (Gives.p hE rfl) rfl ?_; clear hE a; intro a hE
            rcases Bool.eq_false_or_eq_true (decide (x2 < 0)) with hg103 | hg103
            · replace hq95 := iteT hg103 hq95
              refine WL.no hE (runs_not hE rfl rfl rfl (by rw [hg103]; decide)) rfl ?_; clear hE a; intro a hE
              refine WL.no hE (runs_not hE rfl rfl rfl (by rw [hg103]; decide)) rfl ?_; clear hE a; intro a hE
              refine WL.no hE (runs_not hE rfl rfl rfl (by rw [hg103]; decide)) rfl ?_; clear hE a; intro a hE
              refine WL.no hE (runs_not hE rfl rfl rfl (by rw [hg103]; decide)) rfl ?_; clear hE a; intro a hE
              refine WL.vS hS hE (runs_plain rfl) (Gives.pickT hE rfl hg103 rfl) rfl ?_; clear hE a; intro a hE
              refine WL.nil ?_
              subst hK100
              exact ⟨true, hq95, hE.pick _ ⟨rfl, rfl, rfl, rfl, trivial⟩, hS⟩
            · replace hq95 := iteF hg103 hq95
              refine WL.vS hS hE (runs_if hE rfl rfl rfl hg103) (Gives.p hE rfl) rfl ?_; clear hE a; intro a hE
              refine WL.vS hS hE (runs_if hE rfl rfl rfl hg103) (Gives.p hE rfl) rfl ?_; clear hE a; intro a hE
              refine WL.vS hS hE (runs_if hE rfl rfl rfl hg103) (Gives.len hE rfl sl22) rfl ?_; clear hE a; intro a hE
              refine WL.vS hS hE (runs_if hE rfl rfl rfl hg103) (Gives.p hE rfl) rfl ?_; clear hE a; intro a hE
              refine WL.vS hS hE (runs_plain rfl) (Gives.pickF hE rfl hg103 rfl) rfl ?_; clear hE a; intro a hE
              refine WL.nil ?_
              subst hK100
              exact ⟨decide (x2 ≥ ((x0).length : Int)), hq95, hE.pick _ ⟨rfl, rfl, rfl, rfl, trivial⟩, hS⟩
      · clear hE hS a w; rintro a w ⟨q99, rfl, hE, hS⟩
        refine W.cond hE rfl (fun hc104 => ?_) (fun hc104 => ?_)
        · replace hr := iteT hc104 hr
          refine W.seq ?_
          refine W.region ?_
          refine WL.vS hS hE (runs_plain rfl) (Gives.p hE rfl) rfl ?_; clear hE a; intro a hE
          refine WL.vS hS hE (runs_plain rfl) (Gives.p hE rfl) rfl ?_; clear hE a; intro a hE
          refine WL.nil ?_
          refine W.ret ?_
          refine finG (fn := Try.f5) (rs := [.tmp 6, .tmp 7]) (vs := [_, _]) hE rfl ⟨rfl, rfl, trivial⟩ ?_
          obtain rfl := Option.some.inj hr
          exact ⟨none, 0, s, rfl, (Sg.Le.refl _), Sl.nil, hS⟩
        · replace hr := iteF hc104 hr
          refine W.skip ?_
          refine W.seq ?_
          refine W.region ?_
          refine WL.vS hS hE (runs_plain rfl) (Gives.p hE rfl) rfl ?_; clear hE a; intro a hE
          refine WL.lit hE hS (e := 3) (es := 1) (vs := [(0, .int .i64 x1)]) (cs := [.int .i64 x1]) (runs_plain rfl) rfl (by kernel_rfl) rfl ?_; clear hE hS a w; intro b105 a w hE hS
          replace hS := hS.ptVec (es := 1) (m := 1) rfl (by decide)
          have h107 : Ev 1 (RI .i64) s [.int .i64 x1] [x1] := (Ev.cons (c1 := [.int .i64 x1]) rfl rfl (Ev.nil))
          have hF := hS.fixD RI.mono 0 rfl h107 (rfl); clear hS; obtain ⟨s108, hle109, hS, h110⟩ := hF
          replace h0 := Sl.mono (RL.mono RI.mono) hle109 h0
          refine WL.lit hE hS (e := 23) (es := 1) (vs := [(0, .slice (some ⟨b105, 0, none⟩) 1 1)]) (cs := [.slice (some ⟨b105, 0, none⟩) 1 1]) (runs_plain rfl) rfl (by kernel_rfl) rfl ?_; clear hE hS a w; intro b111 a w hE hS
          replace hS := hS.ptVec (es := 1) (m := 1) rfl (by decide)
          have h113 : Ev 1 (RL 1 (RI .i64)) s108 [.slice (some ⟨b105, 0, none⟩) 1 1] [[x1]] := (Ev.cons (c1 := [.slice (some ⟨b105, 0, none⟩) 1 1]) ⟨_, _, rfl, h110⟩ rfl (Ev.nil))
          have hF := hS.fixD (RL.mono RI.mono) 0 rfl h113 (rfl); clear hS; obtain ⟨s114, hle115, hS, h116⟩ := hF
          replace h0 := Sl.mono (RL.mono RI.mono) hle115 h0
          replace h110 := Sl.mono RI.mono hle115 h110
          refine WL.vS hS hE (runs_plain rfl) (Gives.p hE rfl) rfl ?_; clear hE a; intro a hE
          refine WL.nil ?_
          refine W.seq ?_
          refine W.seq ?_
          refine W.region ?_
          refine WL.vS hS hE (runs_plain rfl) (Gives.p hE rfl) rfl ?_; clear hE a; intro a hE
          refine WL.vS hS hE (runs_plain rfl) (Gives.len hE rfl sl22) rfl ?_; clear hE a; intro a hE
          refine WL.vS hS hE (runs_plain rfl) (Gives.p hE rfl) rfl ?_; clear hE a; intro a hE
          refine WL.nil ?_
          obtain ⟨q118, hq117, hr⟩ := bindS hr
          refine W.cut (fun a w => ∃ (q128 : List (List Int)), ∃ (a129 : Option Addr), ∃ (c130 : Nat), ∃ (s126 : Sg), s114.Le s126 ∧ (.next q128) = q118 ∧ Sl 1 (RL 1 (RI .i64)) s126 a129 c130 q128 ∧ Rep a 128 [] ∧ St w s126 (R)) ?_ ?_
          · refine W.block ?_
            refine W.loop (fun m a w => ∃ (rest121 : List (List Int)) (k119 : Nat), ∃ (q128 : List (List Int)), ∃ (a129 : Option Addr), ∃ (c130 : Nat), ∃ (s126 : Sg), rest121.length = m ∧ x0.drop k119 = rest121 ∧ s114.Le s126 ∧ Fishref2WayOf.loop3 x0 x2 rest121 q128 = some q118 ∧ Sl 1 (RL 1 (RI .i64)) s126 a129 c130 q128 ∧ Rep a 128 [(0, .slice a0 x0.length c0), (2, .int .i64 x2), (12, .slice a129 q128.length c130), (68, .int .i64 ((x0).length : Int)), (69, .int .i64 ((k119 : Nat) : Int))] ∧ St w s126 (R)) (m := x0.length) ⟨x0, 0, [[x1]], (some ⟨b111, 0, none⟩), 1, s114, rfl, rfl, (Sg.Le.refl _), hq117, h116, hE.pick _ ⟨rfl, rfl, rfl, rfl, rfl, trivial⟩, hS⟩ ?_
            clear hE hS a w hq117; rintro m125 a w ⟨rest121, k119, q128, a129, c130, s126, rfl, hd122, hle127, hq117, h131, hE, hS⟩
            refine W.gen fun K132 hK132 => ?_
            replace h0 := Sl.mono (RL.mono RI.mono) hle127 h0
            replace h110 := Sl.mono RI.mono hle127 h110
            replace h116 := Sl.mono (RL.mono RI.mono) hle127 h116
            rcases rest121 with _ | ⟨x120, rest121⟩
            · have hlt123 := drop_nil hd122
              refine W.seq ?_
              refine W.region ?_
              refine WL.vS hS hE (runs_plain rfl) (Gives.p hE rfl) rfl ?_; clear hE a; intro a hE
              refine WL.nil ?_
              refine W.seq ?_
              refine W.condF hE rfl (decide_eq_false (by omega)) ?_
              subst hK132
              refine W.exit rfl ?_
              exact ⟨q128, a129, c130, s126, hle127, Option.some.inj hq117, h131, hE.pick _ trivial, hS⟩
            · obtain ⟨hlt123, hx124, hd122⟩ := drop_cons hd122
              rw [Fishref2WayOf.loop3] at hq117
              refine W.seq ?_
              refine W.region ?_
              refine WL.vS hS hE (runs_plain rfl) (Gives.p hE rfl) rfl ?_; clear hE a; intro a hE
              refine WL.nil ?_
              refine W.seq ?_
              refine W.condT hE rfl (decide_eq_true (by omega)) ?_
              refine W.skip ?_
              refine W.seq ?_
              refine W.block ?_
              refine W.seq ?_
              refine W.region ?_
              replace hS := hS.vecNil 23 1
              refine WL.vS hS hE (runs_plain rfl) (Gives.p hE rfl) rfl ?_; clear hE a; intro a hE
              refine WL.nil ?_
              refine W.seq ?_
              refine W.region ?_
              refine WL.mkMap (fk := keyI.f) (fv := Value.bool) hE hS (runs_plain rfl) rfl ?_; clear hE hS a w; intro b134 a w hE hS
              refine WL.vS hS hE (runs_plain rfl) (Gives.p hE rfl) rfl ?_; clear hE a; intro a hE
              refine WL.nil ?_
              refine W.seq ?_
              refine W.seq ?_
              refine W.region ?_
              refine WL.vS hS hE (runs_plain rfl) (Gives.p hE rfl) rfl ?_; clear hE a; intro a hE
              refine WL.vS hS hE (runs_plain rfl) (Gives.len hE rfl sl22) rfl ?_; clear hE a; intro a hE
              refine WL.vS hS hE (runs_plain rfl) (Gives.p hE rfl) rfl ?_; clear hE a; intro a hE
              refine WL.nil ?_
              obtain ⟨q136, hq135, hq117⟩ := bindS hq117
              refine W.cut (fun a w => (.next ()) = q136 ∧ Rep a 128 [(0, .slice a0 x0.length c0), (2, .int .i64 x2), (12, .slice a129 q128.length c130), (13, .slice none 0 0), (14, .map (some b134)), (68, .int .i64 ((x0).length : Int)), (69, .int .i64 ((k119 : Nat) : Int))] ∧ St w s126 (mapC keyI.f Value.bool b134 [] :: vecC 23 1 none 0 0 [] :: R)) ?_ ?_
              · refine W.block ?_
                refine W.loop (fun m a w => ∃ (rest139 : List (List Int)) (k137 : Nat), rest139.length = m ∧ q128.drop k137 = rest139 ∧ Fishref2WayOf.loop4 x2 rest139 = some q136 ∧ Rep a 128 [(0, .slice a0 x0.length c0), (2, .int .i64 x2), (12, .slice a129 q128.length c130), (13, .slice none 0 0), (14, .map (some b134)), (68, .int .i64 ((x0).length : Int)), (69, .int .i64 ((k119 : Nat) : Int)), (72, .slice a129 q128.length c130), (73, .int .i64 ((q128).length : Int)), (74, .int .i64 ((k137 : Nat) : Int))] ∧ St w s126 (mapC keyI.f Value.bool b134 [] :: vecC 23 1 none 0 0 [] :: R)) (m := q128.length) ⟨q128, 0, rfl, rfl, hq135, hE.pick _ ⟨rfl, rfl, rfl, rfl, rfl, rfl, rfl, rfl, rfl, rfl, trivial⟩, hS⟩ ?_
                clear hE hS a w hq135; rintro m143 a w ⟨rest139, k137, rfl, hd140, hq135, hE, hS⟩
                refine W.gen fun K146 hK146 => ?_
                rcases rest139 with _ | ⟨x138, rest139⟩
                · have hlt141 := drop_nil hd140
                  refine W.seq ?_
                  refine W.region ?_
                  refine WL.vS hS hE (runs_plain rfl) (Gives.p hE rfl) rfl ?_; clear hE a; intro a hE
                  refine WL.nil ?_
                  refine W.seq ?_
                  refine W.condF hE rfl (decide_eq_false (by omega)) ?_
                  subst hK146
                  refine W.exit rfl ?_
                  exact ⟨Option.some.inj hq135, hE.pick _ ⟨rfl, rfl, rfl, rfl, rfl, rfl, rfl, trivial⟩, hS⟩
                · obtain ⟨hlt141, hx142, hd140⟩ := drop_cons hd140
                  rw [Fishref2WayOf.loop4] at hq135
                  refine W.seq ?_
                  refine W.region ?_
                  refine WL.vS hS hE (runs_plain rfl) (Gives.p hE rfl) rfl ?_; clear hE a; intro a hE
                  refine WL.nil ?_
                  refine W.seq ?_
                  refine W.condT hE rfl (decide_eq_true (by omega)) ?_
                  refine W.skip ?_
                  refine W.seq ?_
                  refine W.block ?_
                  refine W.seq ?_
                  refine W.region ?_
                  obtain ⟨cs147, hl148, hR149, hat150⟩ := h131.at hx142
                  obtain ⟨a151, c152, rfl, h153⟩ := hR149
                  refine WL.vS hS hE (runs_plain rfl) (Gives.idx hE k137 rfl rfl sl22 rfl hlt141 (h131.aok hlt141)) rfl ?_; clear hE a; intro a hE
                  refine WL.vS hS hE (runs_plain rfl) (Gives.load1 hE rfl (fun w h => hat150 w _ h) ty23) rfl ?_; clear hE a; intro a hE
                  refine WL.vS hS hE (runs_plain rfl) (Gives.p hE rfl) rfl ?_; clear hE a; intro a hE
                  refine WL.nil ?_
                  refine W.seq ?_
                  refine W.region ?_
                  refine WL.vS hS hE (runs_plain rfl) (Gives.p hE rfl) rfl ?_; clear hE a; intro a hE
                  refine WL.vS hS hE (runs_plain rfl) (Gives.p hE rfl) rfl ?_; clear hE a; intro a hE
                  refine WL.vS hS hE (runs_plain rfl) (Gives.len hE rfl sl23) rfl ?_; clear hE a; intro a hE
                  refine WL.vS hS hE (runs_plain rfl) (Gives.p hE rfl) rfl ?_; clear hE a; intro a hE
                  obtain ⟨x154, hx155, hq135⟩ := bindS hq135
                  obtain ⟨hi156, hlt157, hy158⟩ := gx_some hx155
                  obtain ⟨cs159, hl160, hR161, hat162⟩ := h153.at hy158
                  subst hR161
                  refine WL.vS hS hE (runs_plain rfl) (Gives.idx hE (w64 (((x138).length : Int) - 1)).toNat rfl rfl sl23 hi156 hlt157 (h153.aok hlt157)) rfl ?_; clear hE a; intro a hE
                  refine WL.vS hS hE (runs_plain rfl) (Gives.load1 hE rfl (fun w h => hat162 w _ h) ty3) rfl ?_; clear hE a; intro a hE
                  refine WL.vS hS hE (runs_plain rfl) (Gives.p hE rfl) rfl ?_; clear hE a; intro a hE
                  refine WL.vS hS hE (runs_plain rfl) (Gives.p hE rfl) rfl ?_; clear hE a; intro a hE
                  refine WL.nil ?_
                  refine W.cond hE rfl (fun hc163 => ?_) (fun hc163 => ?_)
                  · replace hq135 := iteT hc163 hq135
                    refine W.seq ?_
                    refine W.region ?_
                    refine WL.vS hS hE (runs_plain rfl) (Gives.p hE rfl) rfl ?_; clear hE a; intro a hE
                    refine WL.vS hS hE (runs_plain rfl) (Gives.p hE rfl) rfl ?_; clear hE a; intro a hE
                    refine WL.vS hS hE (runs_plain rfl) (Gives.p hE rfl) rfl ?_; clear hE a; intro a hE
                    refine WL.nil ?_
                    refine W.ret ?_
                    subst hK146
                    subst hK132
                    rw [← Option.some.inj hq135] at hq117
                    dsimp only at hq117
                    rw [← Option.some.inj hq117] at hr
                    dsimp only at hr
                    refine finG (fn := Try.f5) (rs := [.tmp 6, .tmp 7]) (vs := [_, _]) hE rfl ⟨rfl, rfl, trivial⟩ ?_
                    obtain rfl := Option.some.inj hr
                    replace hS := hS.tail
                    replace hS := hS.tail
                    exact ⟨a151, c152, s126, rfl, (Sg.Le.trans (Sg.Le.trans hle109 hle115) hle127), h153, hS⟩
                  · replace hq135 := iteF hc163 hq135
                    refine W.skip ?_
                    refine W.region ?_
                    refine WL.vS hS hE (runs_plain rfl) (Gives.inc hE rfl (by have := h131.small; omega)) rfl ?_; clear hE a; intro a hE
                    refine WL.vS hS hE (runs_plain rfl) (Gives.p hE rfl) rfl ?_; clear hE a; intro a hE
                    refine WL.nil ?_
                    subst hK146
                    exact ⟨rest139.length, Nat.lt_succ_self _, rest139, k137 + 1, rfl, hd140, hq135, hE.pick _ ⟨rfl, rfl, rfl, rfl, rfl, rfl, rfl, rfl, rfl, rfl, trivial⟩, hS⟩
              · clear hE hS a w; rintro a w ⟨rfl, hE, hS⟩
                dsimp only at hq117
                refine W.seq ?_
                refine W.seq ?_
                refine W.region ?_
                refine WL.vS hS hE (runs_plain rfl) (Gives.p hE rfl) rfl ?_; clear hE a; intro a hE
                refine WL.vS hS hE (runs_plain rfl) (Gives.len hE rfl sl22) rfl ?_; clear hE a; intro a hE
                refine WL.vS hS hE (runs_plain rfl) (Gives.p hE rfl) rfl ?_; clear hE a; intro a hE
                refine WL.nil ?_
                obtain ⟨q165, hq164, hq117⟩ := bindS hq117
                refine W.cut (fun a w => ∃ (q175 : List (List Int)), ∃ (q182 : List (Int × Bool)), ∃ (a176 : Option Addr), ∃ (c177 : Nat), ∃ (n179 : Nat), ∃ (cs180 : List Value), ∃ (s173 : Sg), s126.Le s173 ∧ (q175, q182) = q165 ∧ Ev 1 (RL 1 (RI .i64)) s173 cs180 q175 ∧ q175.length = n179 ∧ Rep a 128 [(0, .slice a0 x0.length c0), (2, .int .i64 x2), (13, .slice a176 n179 c177), (68, .int .i64 ((x0).length : Int)), (69, .int .i64 ((k119 : Nat) : Int))] ∧ St w s173 (mapC keyI.f Value.bool b134 q182 :: vecC 23 1 a176 c177 n179 cs180 :: R)) ?_ ?_
                · refine W.block ?_
                  refine W.loop (fun m a w => ∃ (rest168 : List (List Int)) (k166 : Nat), ∃ (q175 : List (List Int)), ∃ (q182 : List (Int × Bool)), ∃ (a176 : Option Addr), ∃ (c177 : Nat), ∃ (n179 : Nat), ∃ (cs180 : List Value), ∃ (s173 : Sg), rest168.length = m ∧ q128.drop k166 = rest168 ∧ s126.Le s173 ∧ Fishref2WayOf.loop5 x0 rest168 q175 q182 = some q165 ∧ Ev 1 (RL 1 (RI .i64)) s173 cs180 q175 ∧ q175.length = n179 ∧ Rep a 128 [(0, .slice a0 x0.length c0), (2, .int .i64 x2), (13, .slice a176 n179 c177), (14, .map (some b134)), (68, .int .i64 ((x0).length : Int)), (69, .int .i64 ((k119 : Nat) : Int)), (88, .slice a129 q128.length c130), (89, .int .i64 ((q128).length : Int)), (90, .int .i64 ((k166 : Nat) : Int))] ∧ St w s173 (mapC keyI.f Value.bool b134 q182 :: vecC 23 1 a176 c177 n179 cs180 :: R)) (m := q128.length) ⟨q128, 0, [], [], none, 0, 0, [], s126, rfl, rfl, (Sg.Le.refl _), hq164, (Ev.nil), (rfl), hE.pick _ ⟨rfl, rfl, rfl, rfl, rfl, rfl, rfl, rfl, rfl, trivial⟩, hS⟩ ?_
                  clear hE hS a w hq164; rintro m172 a w ⟨rest168, k166, q175, q182, a176, c177, n179, cs180, s173, rfl, hd169, hle174, hq164, h178, rfl, hE, hS⟩
                  refine W.gen fun K183 hK183 => ?_
                  replace h0 := Sl.mono (RL.mono RI.mono) hle174 h0
                  replace h131 := Sl.mono (RL.mono RI.mono) hle174 h131
                  rcases rest168 with _ | ⟨x167, rest168⟩
                  · have hlt170 := drop_nil hd169
                    refine W.seq ?_
                    refine W.region ?_
                    refine WL.vS hS hE (runs_plain rfl) (Gives.p hE rfl) rfl ?_; clear hE a; intro a hE
                    refine WL.nil ?_
                    refine W.seq ?_
                    refine W.condF hE rfl (decide_eq_false (by omega)) ?_
                    subst hK183
                    refine W.exit rfl ?_
                    exact ⟨q175, q182, a176, c177, q175.length, cs180, s173, hle174, Option.some.inj hq164, h178, rfl, hE.pick _ ⟨rfl, rfl, rfl, rfl, rfl, trivial⟩, hS⟩
                  · obtain ⟨hlt170, hx171, hd169⟩ := drop_cons hd169
                    rw [Fishref2WayOf.loop5] at hq164
                    refine W.seq ?_
                    refine W.region ?_
                    refine WL.vS hS hE (runs_plain rfl) (Gives.p hE rfl) rfl ?_; clear hE a; intro a hE
                    refine WL.nil ?_
                    refine W.seq ?_
                    refine W.condT hE rfl (decide_eq_true (by omega)) ?_
                    refine W.skip ?_
                    refine W.seq ?_
                    refine W.block ?_
                    refine W.seq ?_
                    refine W.region ?_
                    obtain ⟨cs184, hl185, hR186, hat187⟩ := h131.at hx171
                    obtain ⟨a188, c189, rfl, h190⟩ := hR186
                    refine WL.vS hS hE (runs_plain rfl) (Gives.idx hE k166 rfl rfl sl22 rfl hlt170 (h131.aok hlt170)) rfl ?_; clear hE a; intro a hE
                    refine WL.vS hS hE (runs_plain rfl) (Gives.load1 hE rfl (fun w h => hat187 w _ h) ty23) rfl ?_; clear hE a; intro a hE
                    refine WL.vS hS hE (runs_plain rfl) (Gives.p hE rfl) rfl ?_; clear hE a; intro a hE
                    refine WL.nil ?_
                    refine W.seq ?_
                    refine W.region ?_
                    refine WL.vS hS hE (runs_plain rfl) (Gives.p hE rfl) rfl ?_; clear hE a; intro a hE
                    refine WL.vS hS hE (runs_plain rfl) (Gives.p hE rfl) rfl ?_; clear hE a; intro a hE
                    refine WL.vS hS hE (runs_plain rfl) (Gives.p hE rfl) rfl ?_; clear hE a; intro a hE
                    refine WL.vS hS hE (runs_plain rfl) (Gives.len hE rfl sl23) rfl ?_; clear hE a; intro a hE
                    refine WL.vS hS hE (runs_plain rfl) (Gives.p hE rfl) rfl ?_; clear hE a; intro a hE
                    obtain ⟨x191, hx192, hq164⟩ := bindS hq164
                    obtain ⟨hi193, hlt194, hy195⟩ := gx_some hx192
                    obtain ⟨cs196, hl197, hR198, hat199⟩ := h190.at hy195
                    subst hR198
                    refine WL.vS hS hE (runs_plain rfl) (Gives.idx hE (w64 (((x167).length : Int) - 1)).toNat rfl rfl sl23 hi193 hlt194 (h190.aok hlt194)) rfl ?_; clear hE a; intro a hE
                    refine WL.vS hS hE (runs_plain rfl) (Gives.load1 hE rfl (fun w h => hat199 w _ h) ty3) rfl ?_; clear hE a; intro a hE
                    obtain ⟨x200, hx201, hq164⟩ := bindS hq164
                    obtain ⟨hi202, hlt203, hy204⟩ := gx_some hx201
                    obtain ⟨cs205, hl206, hR207, hat208⟩ := h0.at hy204
                    obtain ⟨a209, c210, rfl, h211⟩ := hR207
                    refine WL.vS hS hE (runs_plain rfl) (Gives.idx hE (x191).toNat rfl rfl sl22 hi202 hlt203 (h0.aok hlt203)) rfl ?_; clear hE a; intro a hE
                    refine WL.vS hS hE (runs_plain rfl) (Gives.load1 hE rfl (fun w h => hat208 w _ h) ty23) rfl ?_; clear hE a; intro a hE
                    refine WL.fnq hE (itVals_ok hS) (runs_plain rfl) bd14 rfl rfl rfl ?_
                    clear hE hS; rintro e w ⟨b212, rfl, hS⟩; refine ⟨_, rfl, ?_⟩; clear a; intro a hE
                    obtain ⟨q213, hq214, hq164⟩ := bindS hq164
                    have hc_ := SlicesSortedint_v1_ok hS h211 hq214
                    refine WL.fnq hE (hc_) (runs_plain rfl) bd13 rfl rfl rfl ?_
                    clear hE hS hc_; rintro e w ⟨a215, c216, n217, cs218, rfl, h219, rfl, hS⟩; refine ⟨_, rfl, ?_⟩; clear a; intro a hE
                    refine WL.vS hS hE (runs_plain rfl) (Gives.len hE rfl sl23) rfl ?_; clear hE a; intro a hE
                    refine WL.vS hS hE (runs_plain rfl) (Gives.p hE rfl) rfl ?_; clear hE a; intro a hE
                    refine WL.nil ?_
                    have hb232 : q213.length ≤ 9223372036854775807 := by have := hS.vecCap 0 rfl; unfold maxLen at this; omega
                    obtain ⟨q222, hq221, hq164⟩ := bindS hq164
                    refine W.cut (fun a w => ∃ (q233 : List (List Int)), ∃ (q240 : List (Int × Bool)), ∃ (a234 : Option Addr), ∃ (c235 : Nat), ∃ (n237 : Nat), ∃ (cs238 : List Value), ∃ (s230 : Sg), s173.Le s230 ∧ (q233, q240) = q222 ∧ Ev 1 (RL 1 (RI .i64)) s230 cs238 q233 ∧ q233.length = n237 ∧ Rep a 128 [(0, .slice a0 x0.length c0), (2, .int .i64 x2), (13, .slice a234 n237 c235), (14, .map (some b134)), (68, .int .i64 ((x0).length : Int)), (69, .int .i64 ((k119 : Nat) : Int)), (88, .slice a129 q128.length c130), (89, .int .i64 ((q128).length : Int)), (90, .int .i64 ((k166 : Nat) : Int))] ∧ St w s230 (vecC 3 1 a215 c216 q213.length cs218 :: pt b212 (.cells #[.slice a209 x200.length c210] 23 (0, 0)) :: mapC keyI.f Value.bool b134 q240 :: vecC 23 1 a234 c235 n237 cs238 :: R)) ?_ ?_
                    · refine W.block ?_
                      refine W.loop (fun m a w => ∃ (rest225 : Nat) (k223 : Nat), ∃ (q233 : List (List Int)), ∃ (q240 : List (Int × Bool)), ∃ (a234 : Option Addr), ∃ (c235 : Nat), ∃ (n237 : Nat), ∃ (cs238 : List Value), ∃ (s230 : Sg), rest225 = m ∧ k223 + rest225 = q213.length ∧ s173.Le s230 ∧ Fishref2WayOf.loop6 x167 q213 rest225 k223 q233 q240 = some q222 ∧ Ev 1 (RL 1 (RI .i64)) s230 cs238 q233 ∧ q233.length = n237 ∧ Rep a 128 [(0, .slice a0 x0.length c0), (2, .int .i64 x2), (13, .slice a234 n237 c235), (14, .map (some b134)), (18, .slice a188 x167.length c189), (68, .int .i64 ((x0).length : Int)), (69, .int .i64 ((k119 : Nat) : Int)), (88, .slice a129 q128.length c130), (89, .int .i64 ((q128).length : Int)), (90, .int .i64 ((k166 : Nat) : Int)), (104, .slice a215 q213.length c216), (105, .int .i64 ((q213.length : Nat) : Int)), (106, .int .i64 ((k223 : Nat) : Int))] ∧ St w s230 (vecC 3 1 a215 c216 q213.length cs218 :: pt b212 (.cells #[.slice a209 x200.length c210] 23 (0, 0)) :: mapC keyI.f Value.bool b134 q240 :: vecC 23 1 a234 c235 n237 cs238 :: R)) (m := q213.length) ⟨q213.length, 0, q175, q182, a176, c177, q175.length, cs180, s173, rfl, by omega, (Sg.Le.refl _), hq221, h178, rfl, hE.pick _ ⟨rfl, rfl, rfl, rfl, rfl, rfl, rfl, rfl, rfl, rfl, rfl, rfl, rfl, trivial⟩, hS⟩ ?_
                      clear hE hS a w hq221; rintro m229 a w ⟨rest225, k223, q233, q240, a234, c235, n237, cs238, s230, rfl, hd226, hle231, hq221, h236, rfl, hE, hS⟩
                      refine W.gen fun K241 hK241 => ?_
                      replace h0 := Sl.mono (RL.mono RI.mono) hle231 h0
                      replace h131 := Sl.mono (RL.mono RI.mono) hle231 h131
                      replace h190 := Sl.mono RI.mono hle231 h190
                      replace h211 := Sl.mono RI.mono hle231 h211
                      replace h219 := Ev.mono RI.mono hle231 h219
                      replace h178 := Ev.mono (RL.mono RI.mono) hle231 h178
                      rcases rest225 with _ | rest225
                      · skip
                        refine W.seq ?_
                        refine W.region ?_
                        refine WL.vS hS hE (runs_plain rfl) (Gives.p hE rfl) rfl ?_; clear hE a; intro a hE
                        refine WL.nil ?_
                        refine W.seq ?_
                        refine W.condF hE rfl (decide_eq_false (by omega)) ?_
                        subst hK241
                        refine W.exit rfl ?_
                        exact ⟨q233, q240, a234, c235, q233.length, cs238, s230, hle231, Option.some.inj hq221, h236, rfl, hE.pick _ ⟨rfl, rfl, rfl, rfl, rfl, rfl, rfl, rfl, rfl, trivial⟩, hS⟩
                      · have hlt227 : k223 < q213.length := by omega
                        rw [Fishref2WayOf.loop6] at hq221
                        refine W.seq ?_
                        refine W.region ?_
                        refine WL.vS hS hE (runs_plain rfl) (Gives.p hE rfl) rfl ?_; clear hE a; intro a hE
                        refine WL.nil ?_
                        refine W.seq ?_
                        refine W.condT hE rfl (decide_eq_true (by omega)) ?_
                        refine W.skip ?_
                        refine W.seq ?_
                        refine W.block ?_
                        refine W.seq ?_
                        refine W.region ?_
                        obtain ⟨x242, hx243, hq221⟩ := bindS hq221
                        obtain ⟨hi244, hlt245, hy246⟩ := gx_some hx243
                        obtain ⟨vs247, hl248, hR249, hd250, hget251⟩ := h219.at hy246
                        subst hR249
                        refine WL.vS hS hE (runs_plain rfl) (Gives.idx hE ((((k223 : Nat) : Int)).toNat) rfl rfl sl23 hi244 (by omega) (hS.vecAok 0 rfl (by omega : (((k223 : Nat) : Int)).toNat < q213.length))) rfl ?_; clear hE a; intro a hE
                        refine WL.vS hS hE (runs_plain rfl) (Gives.load1 hE rfl (fun w h => St.vecSees h 0 rfl ((((k223 : Nat) : Int)).toNat * 1) _ hget251) ty3) rfl ?_; clear hE a; intro a hE
                        refine WL.vS hS hE (runs_plain rfl) (Gives.p hE rfl) rfl ?_; clear hE a; intro a hE
                        refine WL.nil ?_
                        refine W.seq ?_
                        refine W.region ?_
                        refine WL.vS hS hE (runs_plain rfl) (Gives.p hE rfl) rfl ?_; clear hE a; intro a hE
                        refine WL.vS hS hE (runs_plain rfl) (Gives.p hE rfl) rfl ?_; clear hE a; intro a hE
                        refine WL.vS hS hE (runs_plain rfl) (Gives.mapGet keyI hE 2 (k := x242) (z := false) rfl rfl rfl mp34 zm4) rfl ?_; clear hE a; intro a hE
                        refine WL.vS hS hE (runs_plain rfl) (Gives.p hE rfl) rfl ?_; clear hE a; intro a hE
                        refine WL.nil ?_
                        obtain ⟨q253, hq252, hq221⟩ := bindS hq221
                        refine W.cut (fun a w => ∃ (q256 : List (List Int)), ∃ (q263 : List (Int × Bool)), ∃ (a257 : Option Addr), ∃ (c258 : Nat), ∃ (n260 : Nat), ∃ (cs261 : List Value), ∃ (s254 : Sg), s230.Le s254 ∧ (q256, q263) = q253 ∧ Ev 1 (RL 1 (RI .i64)) s254 cs261 q256 ∧ q256.length = n260 ∧ Rep a 128 [(0, .slice a0 x0.length c0), (2, .int .i64 x2), (13, .slice a257 n260 c258), (14, .map (some b134)), (18, .slice a188 x167.length c189), (68, .int .i64 ((x0).length : Int)), (69, .int .i64 ((k119 : Nat) : Int)), (88, .slice a129 q128.length c130), (89, .int .i64 ((q128).length : Int)), (90, .int .i64 ((k166 : Nat) : Int)), (104, .slice a215 q213.length c216), (105, .int .i64 ((q213.length : Nat) : Int)), (106, .int .i64 ((k223 : Nat) : Int))] ∧ St w s254 (vecC 3 1 a215 c216 q213.length cs218 :: pt b212 (.cells #[.slice a209 x200.length c210] 23 (0, 0)) :: mapC keyI.f Value.bool b134 q263 :: vecC 23 1 a257 c258 n260 cs261 :: R)) ?_ ?_
                        · refine W.gen fun K264 hK264 => ?_
                          refine W.cond hE rfl (fun hc265 => ?_) (fun hc265 => ?_)
                          · replace hq252 := iteT hc265 hq252
                            refine W.seq ?_
                            refine W.region ?_
                            refine WL.vS hS hE (runs_plain rfl) (Gives.p hE rfl) rfl ?_; clear hE a; intro a hE
                            refine WL.vS hS hE (runs_plain rfl) (Gives.p hE rfl) rfl ?_; clear hE a; intro a hE
                            refine WL.mapSet keyI hE hS 2 (k := x242) (v := true) (.inl rfl) (runs_plain rfl) rfl rfl rfl rfl mp34 rfl ?_; clear hE hS a w; intro a w hE hS
                            refine WL.nil ?_
                            refine W.region ?_
                            refine WL.vS hS hE (runs_plain rfl) (Gives.p hE rfl) rfl ?_; clear hE a; intro a hE
                            refine WL.vS hS hE (runs_plain rfl) (Gives.p hE rfl) rfl ?_; clear hE a; intro a hE
                            obtain ⟨q266, hq267, hq252⟩ := bindS hq252
                            have hc_ := SlicesCloneLint_ok hS h190 hq267
                            refine WL.fnq hE (hc_) (runs_plain rfl) bd15 rfl rfl rfl ?_
                            clear hE hS hc_; rintro e w ⟨a268, c269, n270, cs271, rfl, h272, rfl, hS⟩; refine ⟨_, rfl, ?_⟩; clear a; intro a hE
                            refine WL.vS hS hE (runs_plain rfl) (Gives.p hE rfl) rfl ?_; clear hE a; intro a hE
                            refine WL.lit hE hS (e := 3) (es := 1) (vs := [(0, .int .i64 x242)]) (cs := [.int .i64 x242]) (runs_plain rfl) rfl (by kernel_rfl) rfl ?_; clear hE hS a w; intro b274 a w hE hS
                            obtain ⟨x275, hx276, hq252⟩ := bindS hq252
                            refine WL.appD hE hS 0 (m := 1) (runs_plain rfl) rfl rfl rfl ap23 rfl h272 rfl (xs := [x242]) (Ev.cons (c1 := [.int .i64 x242]) rfl rfl (Ev.nil)) rfl rfl hx276 rfl ?_; clear hE hS a w; intro a277 c278 cs279 a w h280 hE hS
                            have hF := hS.fixD RI.mono 0 rfl h280 (rfl); clear hS; obtain ⟨s281, hle282, hS, h283⟩ := hF
                            replace h0 := Sl.mono (RL.mono RI.mono) hle282 h0
                            replace h190 := Sl.mono RI.mono hle282 h190
                            replace h131 := Sl.mono (RL.mono RI.mono) hle282 h131
                            replace h219 := Ev.mono RI.mono hle282 h219
                            replace h211 := Sl.mono RI.mono hle282 h211
                            replace h236 := Ev.mono (RL.mono RI.mono) hle282 h236
                            refine WL.lit hE hS (e := 23) (es := 1) (vs := [(0, .slice a277 x275.length c278)]) (cs := [.slice a277 x275.length c278]) (runs_plain rfl) rfl (by kernel_rfl) rfl ?_; clear hE hS a w; intro b284 a w hE hS
                            obtain ⟨x285, hx286, hq252⟩ := bindS hq252
                            refine WL.appD hE hS 3 (m := 1) (runs_plain rfl) rfl rfl rfl ap22 rfl h236 rfl (xs := [x275]) (Ev.cons (c1 := [.slice a277 x275.length c278]) ⟨_, _, rfl, h283⟩ rfl (Ev.nil)) rfl rfl hx286 rfl ?_; clear hE hS a w; intro a287 c288 cs289 a w h290 hE hS
                            refine WL.vS hS hE (runs_plain rfl) (Gives.p hE rfl) rfl ?_; clear hE a; intro a hE
                            refine WL.nil ?_
                            subst hK264
                            exact ⟨x285, (mput q240 x242 true), a287, c288, x285.length, cs289, s281, hle282, Option.some.inj hq252, h290, (rfl), hE.pick _ ⟨rfl, rfl, rfl, rfl, rfl, rfl, rfl, rfl, rfl, rfl, rfl, rfl, rfl, trivial⟩, hS⟩
                          · replace hq252 := iteF hc265 hq252
                            refine W.skip ?_
                            subst hK264
                            exact ⟨q233, q240, a234, c235, q233.length, cs238, s230, (Sg.Le.refl _), Option.some.inj hq252, h236, rfl, hE.pick _ ⟨rfl, rfl, rfl, rfl, rfl, rfl, rfl, rfl, rfl, rfl, rfl, rfl, rfl, trivial⟩, hS⟩
                        · clear hE hS a w; rintro a w ⟨q256, q263, a257, c258, n260, cs261, s254, hle255, rfl, h259, rfl, hE, hS⟩
                          dsimp only at hq221
                          replace h0 := Sl.mono (RL.mono RI.mono) hle255 h0
                          replace h190 := Sl.mono RI.mono hle255 h190
                          replace h131 := Sl.mono (RL.mono RI.mono) hle255 h131
                          replace h219 := Ev.mono RI.mono hle255 h219
                          replace h211 := Sl.mono RI.mono hle255 h211
                          replace h236 := Ev.mono (RL.mono RI.mono) hle255 h236
                          refine W.region ?_
                          refine WL.vS hS hE (runs_plain rfl) (Gives.inc hE rfl (by omega)) rfl ?_; clear hE a; intro a hE
                          refine WL.vS hS hE (runs_plain rfl) (Gives.p hE rfl) rfl ?_; clear hE a; intro a hE
                          refine WL.nil ?_
                          subst hK241
                          exact ⟨rest225, Nat.lt_succ_self _, rest225, k223 + 1, q256, q263, a257, c258, q256.length, cs261, s254, rfl, (by omega), (Sg.Le.trans hle231 hle255), hq221, h259, rfl, hE.pick _ ⟨rfl, rfl, rfl, rfl, rfl, rfl, rfl, rfl, rfl, rfl, rfl, rfl, rfl, trivial⟩, hS⟩
                    · clear hE hS a w; rintro a w ⟨q233, q240, a234, c235, n237, cs238, s230, hle231, rfl, h236, rfl, hE, hS⟩
                      dsimp only at hq164
                      replace h0 := Sl.mono (RL.mono RI.mono) hle231 h0
                      replace h131 := Sl.mono (RL.mono RI.mono) hle231 h131
                      replace h190 := Sl.mono RI.mono hle231 h190
                      replace h211 := Sl.mono RI.mono hle231 h211
                      replace h219 := Ev.mono RI.mono hle231 h219
                      replace h178 := Ev.mono (RL.mono RI.mono) hle231 h178
                      refine W.region ?_
                      refine WL.vS hS hE (runs_plain rfl) (Gives.inc hE rfl (by have := h131.small; omega)) rfl ?_; clear hE a; intro a hE
                      refine WL.vS hS hE (runs_plain rfl) (Gives.p hE rfl) rfl ?_; clear hE a; intro a hE
                      refine WL.nil ?_
                      replace hS := hS.tail
                      replace hS := hS.tail
                      subst hK183
                      exact ⟨rest168.length, Nat.lt_succ_self _, rest168, k166 + 1, q233, q240, a234, c235, q233.length, cs238, s230, rfl, hd169, (Sg.Le.trans hle174 hle231), hq164, h236, rfl, hE.pick _ ⟨rfl, rfl, rfl, rfl, rfl, rfl, rfl, rfl, rfl, trivial⟩, hS⟩
                · clear hE hS a w; rintro a w ⟨q175, q182, a176, c177, n179, cs180, s173, hle174, rfl, h178, rfl, hE, hS⟩
                  dsimp only at hq117
                  replace h0 := Sl.mono (RL.mono RI.mono) hle174 h0
                  replace h131 := Sl.mono (RL.mono RI.mono) hle174 h131
                  refine W.region ?_
                  refine WL.vS hS hE (runs_plain rfl) (Gives.p hE rfl) rfl ?_; clear hE a; intro a hE
                  refine WL.vS hS hE (runs_plain rfl) (Gives.p hE rfl) rfl ?_; clear hE a; intro a hE
                  refine WL.nil ?_
                  refine W.region ?_
                  refine WL.vS hS hE (runs_plain rfl) (Gives.inc hE rfl (by have := h0.small; omega)) rfl ?_; clear hE a; intro a hE
                  refine WL.vS hS hE (runs_plain rfl) (Gives.p hE rfl) rfl ?_; clear hE a; intro a hE
                  refine WL.nil ?_
                  have hF := hS.fixD (RL.mono RI.mono) 1 rfl h178 rfl; clear hS; obtain ⟨s291, hle292, hS, h293⟩ := hF
                  replace h0 := Sl.mono (RL.mono RI.mono) hle292 h0
                  replace hS := hS.tail
                  subst hK132
                  exact ⟨rest121.length, Nat.lt_succ_self _, rest121, k119 + 1, q175, a176, c177, s291, rfl, hd122, (Sg.Le.trans (Sg.Le.trans hle127 hle174) hle292), hq117, h293, hE.pick _ ⟨rfl, rfl, rfl, rfl, rfl, trivial⟩, hS⟩
          · clear hE hS a w; rintro a w ⟨q128, a129, c130, s126, hle127, rfl, h131, hE, hS⟩
            dsimp only at hr
            replace h0 := Sl.mono (RL.mono RI.mono) hle127 h0
            replace h110 := Sl.mono RI.mono hle127 h110
            replace h116 := Sl.mono (RL.mono RI.mono) hle127 h116
            refine W.seq ?_
            refine W.region ?_
            refine WL.vS hS hE (runs_plain rfl) (Gives.p hE rfl) rfl ?_; clear hE a; intro a hE
            refine WL.vS hS hE (runs_plain rfl) (Gives.p hE rfl) rfl ?_; clear hE a; intro a hE
            refine WL.nil ?_
            refine W.ret ?_
            refine finG (fn := Try.f5) (rs := [.tmp 6, .tmp 7]) (vs := [_, _]) hE rfl ⟨rfl, rfl, trivial⟩ ?_
            obtain rfl := Option.some.inj hr
            exact ⟨none, 0, s126, rfl, (Sg.Le.trans (Sg.Le.trans hle109 hle115) hle127), Sl.nil, hS⟩
set_option maxHeartbeats 8000000 in
theorem FareCondsize_ok : ∀ {fu : Nat} {w : World} {s : Sg} {R : List HP} {x0 : FareCond} {a0_0 : Option Addr} {c0_0 : Nat} (_hS : St w s (R)) (_h0_0 : Sl 4 RFareCond s a0_0 c0_0 x0.Kids) {r : Int × Int} (_hr : FareCondsize fu x0 = some r),
    Calls Try.prog 47 [.agg (List.toArray [.int .i64 x0.Kind, .int .i64 x0.A, .int .i64 x0.B, .slice a0_0 x0.Kids.length c0_0])].toArray w (fun e w => e = .returned (.tuple #[.int .i64 r.1, .int .i64 r.2]) ∧ St w s (R)) := by
  intro fu
  induction fu with
  | zero => intro w s R x0 a0_0 c0_0 hS h0_0 r hr; rw [FareCondsize] at hr; exact absurd hr (by simp)
  | succ fu ih_FareCondsize =>
    intro w s R x0 a0_0 c0_0 hS h0_0 r hr
    rw [FareCondsize] at hr
    generalize FareCondsize fu = self_FareCondsize at hr ih_FareCondsize
    refine enter Try.func47 rfl rfl rfl fun a hE => ?_
    refine W.seq ?_
    refine W.region ?_
    refine WL.box hE hS (runs_plain rfl) rfl rfl rfl ?_; clear hE hS a w; intro b51 a w hE hS
    refine WL.vS hS hE (runs_plain rfl) (Gives.p hE rfl) rfl ?_; clear hE a; intro a hE
    refine WL.vS hS hE (runs_plain rfl) (Gives.p hE rfl) rfl ?_; clear hE a; intro a hE
    refine WL.nil ?_
    refine W.seq ?_
    refine W.region ?_
    refine WL.vS hS hE (runs_plain rfl) (Gives.p hE rfl) rfl ?_; clear hE a; intro a hE
    refine WL.nil ?_
    refine W.seq ?_
    refine W.seq ?_
    refine W.region ?_
    refine WL.vS hS hE (runs_plain rfl) (Gives.fld hE rfl fl45_3) rfl ?_; clear hE a; intro a hE
    refine WL.vS hS hE (runs_plain rfl) (Gives.loadB hE 0 rfl rfl rfl ty43) rfl ?_; clear hE a; intro a hE
    refine WL.vS hS hE (runs_plain rfl) (Gives.len hE rfl sl43) rfl ?_; clear hE a; intro a hE
    refine WL.vS hS hE (runs_plain rfl) (Gives.p hE rfl) rfl ?_; clear hE a; intro a hE
    refine WL.nil ?_
    obtain ⟨q53, hq52, hr⟩ := bindS hr
    refine W.cut (fun a w => ∃ (q63 : Int), ∃ (q64 : Int), (q63, q64) = q53 ∧ Rep a 30 [(2, .int .i64 q63), (3, .int .i64 q64)] ∧ St w s (pt b51 (.cells #[.int .i64 x0.Kind, .int .i64 x0.A, .int .i64 x0.B, .slice a0_0 x0.Kids.length c0_0] 45 (0, 0)) :: R)) ?_ ?_
    · refine W.block ?_
      refine W.loop (fun m a w => ∃ (rest56 : List FareCond) (k54 : Nat), ∃ (q63 : Int), ∃ (q64 : Int), rest56.length = m ∧ x0.Kids.drop k54 = rest56 ∧ FareCondsize.loop1 self_FareCondsize rest56 q63 q64 = some q53 ∧ Rep a 30 [(2, .int .i64 q63), (3, .int .i64 q64), (9, .slice a0_0 x0.Kids.length c0_0), (10, .int .i64 ((x0.Kids).length : Int)), (11, .int .i64 ((k54 : Nat) : Int))] ∧ St w s (pt b51 (.cells #[.int .i64 x0.Kind, .int .i64 x0.A, .int .i64 x0.B, .slice a0_0 x0.Kids.length c0_0] 45 (0, 0)) :: R)) (m := x0.Kids.length) ⟨x0.Kids, 0, 1, 0, rfl, rfl, hq52, hE.pick _ ⟨rfl, rfl, rfl, rfl, rfl, trivial⟩, hS⟩ ?_
      clear hE hS a w hq52; rintro m60 a w ⟨rest56, k54, q63, q64, rfl, hd57, hq52, hE, hS⟩
      refine W.gen fun K65 hK65 => ?_
      rcases rest56 with _ | ⟨x55, rest56⟩
      · have hlt58 := drop_nil hd57
        refine W.seq ?_
        refine W.region ?_
        refine WL.vS hS hE (runs_plain rfl) (Gives.p hE rfl) rfl ?_; clear hE a; intro a hE
        refine WL.nil ?_
        refine W.seq ?_
        refine W.condF hE rfl (decide_eq_false (by omega)) ?_
        subst hK65
        refine W.exit rfl ?_
        exact ⟨q63, q64, Option.some.inj hq52, hE.pick _ ⟨rfl, rfl, trivial⟩, hS⟩
      · obtain ⟨hlt58, hx59, hd57⟩ := drop_cons hd57
        rw [FareCondsize.loop1] at hq52
        refine W.seq ?_
        refine W.region ?_
        refine WL.vS hS hE (runs_plain rfl) (Gives.p hE rfl) rfl ?_; clear hE a; intro a hE
        refine WL.nil ?_
        refine W.seq ?_
        refine W.condT hE rfl (decide_eq_true (by omega)) ?_
        refine W.skip ?_
        refine W.seq ?_
        refine W.block ?_
        refine W.seq ?_
        refine W.region ?_
        obtain ⟨cs66, hl67, hR68, hat69⟩ := h0_0.at hx59
        obtain ⟨a70, c71, rfl, h72⟩ := hR68.unf
        refine WL.vS hS hE (runs_plain rfl) (Gives.idx hE k54 rfl rfl sl43 rfl hlt58 (h0_0.aok hlt58)) rfl ?_; clear hE a; intro a hE
        refine WL.vS hS hE (runs_plain rfl) (Gives.loadA hE rfl (fun w h => hat69 w _ h) ty45) rfl ?_; clear hE a; intro a hE
        refine WL.alloc hE hS (runs_plain rfl) zr45 rfl ?_; clear hE hS a w; intro b73 a w hE hS
        refine WL.storeI hE hS 0 rfl [.int .i64 x55.Kind, .int .i64 x55.A, .int .i64 x55.B, .slice a70 x55.Kids.length c71] (runs_plain rfl) rfl rfl rfl ty45 rfl rfl rfl rfl ?_; clear hE hS a w; intro a w hE hS
        refine WL.nil ?_
        refine W.seq ?_
        refine W.region ?_
        refine WL.vS hS hE (runs_plain rfl) (Gives.loadBA hE 0 rfl rfl ty45) rfl ?_; clear hE a; intro a hE
        obtain ⟨q74, hq75, hq52⟩ := bindS hq52
        have hc_ := ih_FareCondsize hS h72 hq75
        refine WL.fnq hE (hc_) (runs_plain rfl) bd47 rfl rfl rfl ?_
        clear hE hS hc_; rintro e w ⟨rfl, hS⟩; refine ⟨_, rfl, ?_⟩; clear a; intro a hE
        refine WL.vS hS hE (runs_plain rfl) (Gives.p hE rfl) rfl ?_; clear hE a; intro a hE
        refine WL.vS hS hE (runs_plain rfl) (Gives.p hE rfl) rfl ?_; clear hE a; intro a hE
        refine WL.vS hS hE (runs_plain rfl) (Gives.p hE rfl) rfl ?_; clear hE a; intro a hE
        refine WL.vS hS hE (runs_plain rfl) (Gives.p hE rfl) rfl ?_; clear hE a; intro a hE
        refine WL.vS hS hE (runs_plain rfl) (Gives.p hE rfl) rfl ?_; clear hE a; intro a hE
        refine WL.nil ?_
        refine W.seq ?_
        refine W.region ?_
        refine WL.vS hS hE (runs_plain rfl) (Gives.p hE rfl) rfl ?_; clear hE a; intro a hE
        refine WL.vS hS hE (runs_plain rfl) (Gives.p hE rfl) rfl ?_; clear hE a; intro a hE
        refine WL.vS hS hE (runs_plain rfl) (Gives.p hE rfl) rfl ?_; clear hE a; intro a hE
        refine WL.vS hS hE (runs_plain rfl) (Gives.p hE rfl) rfl ?_; clear hE a; intro a hE
        refine WL.nil ?_
        refine W.region ?_
        refine WL.vS hS hE (runs_plain rfl) (Gives.p hE rfl) rfl ?_; clear hE a; intro a hE
        refine WL.vS hS hE (runs_plain rfl) (Gives.p hE rfl) rfl ?_; clear hE a; intro a hE
        refine WL.vS hS hE (runs_plain rfl) (Gives.max2 hE rfl rfl) rfl ?_; clear hE a; intro a hE
        refine WL.vS hS hE (runs_plain rfl) (Gives.p hE rfl) rfl ?_; clear hE a; intro a hE
        refine WL.nil ?_
        refine W.region ?_
        refine WL.vS hS hE (runs_plain rfl) (Gives.inc hE rfl (by have := h0_0.small; omega)) rfl ?_; clear hE a; intro a hE
        refine WL.vS hS hE (runs_plain rfl) (Gives.p hE rfl) rfl ?_; clear hE a; intro a hE
        refine WL.nil ?_
        replace hS := hS.tail
        subst hK65
        exact ⟨rest56.length, Nat.lt_succ_self _, rest56, k54 + 1, (w64 (q63 + q74.1)), (mx q64 q74.2), rfl, hd57, hq52, hE.pick _ ⟨rfl, rfl, rfl, rfl, rfl, trivial⟩, hS⟩
    · clear hE hS a w; rintro a w ⟨q63, q64, rfl, hE, hS⟩
      dsimp only at hr
      refine W.seq ?_
      refine W.region ?_
      refine WL.vS hS hE (runs_plain rfl) (Gives.p hE rfl) rfl ?_; clear hE a; intro a hE
      refine WL.vS hS hE (runs_plain rfl) (Gives.p hE rfl) rfl ?_; clear hE a; intro a hE
      refine WL.vS hS hE (runs_plain rfl) (Gives.p hE rfl) rfl ?_; clear hE a; intro a hE
      refine WL.vS hS hE (runs_plain rfl) (Gives.p hE rfl) rfl ?_; clear hE a; intro a hE
      refine WL.vS hS hE (runs_plain rfl) (Gives.p hE rfl) rfl ?_; clear hE a; intro a hE
      refine WL.nil ?_
      refine W.ret ?_
      refine finG (fn := Try.f47) (rs := [.tmp 2, .tmp 3]) (vs := [_, _]) hE rfl ⟨rfl, rfl, trivial⟩ ?_
      obtain rfl := Option.some.inj hr
      replace hS := hS.tail
      exact ⟨rfl, hS⟩
set_option maxHeartbeats 8000000 in
theorem Farenumbers_ok  {w : World} {s : Sg} {R : List HP} {x0 : Int} (hS : St w s (R))  {r : Int} (hr : Farenumbers x0 = r) :
    Calls Try.prog 60 [.int .i64 x0].toArray w (fun e w => e = .returned (.int .i64 r) ∧ St w s (R)) := by
  refine enter Try.func60 rfl rfl rfl fun a hE => ?_
  rw [Farenumbers] at hr
  refine W.seq ?_
  refine W.region ?_
  refine WL.vS hS hE (runs_plain rfl) (Gives.p hE rfl) rfl ?_; clear hE a; intro a hE
  refine WL.nil ?_
  refine W.seq ?_
  refine W.seq ?_
  refine W.region ?_
  refine WL.vS hS hE (runs_plain rfl) (Gives.p hE rfl) rfl ?_; clear hE a; intro a hE
  refine WL.nil ?_
  refine W.block ?_
  refine W.seq ?_
  refine W.seq ?_
  refine W.region ?_
  refine WL.vS hS hE (runs_plain rfl) (Gives.p hE rfl) rfl ?_; clear hE a; intro a hE
  refine WL.vS hS hE (runs_plain rfl) (Gives.p hE rfl) rfl ?_; clear hE a; intro a hE
  refine WL.nil ?_
  obtain ⟨q52, hq51, hr⟩ := bndS hr
  refine W.cut (fun a w => ∃ (q55 : Bool), q55 = q52 ∧ Rep a 13 [(3, .int .i64 x0), (4, .bool q55)] ∧ St w s (R)) ?_ ?_
  · refine W.gen fun K56 hK56 => ?_
    refine W.cond hE rfl (fun hc57 => ?_) (fun hc57 => ?_)
    · replace hq51 := iteT hc57 hq51
      refine W.skip ?_
      subst hK56
      exact ⟨(x0 == 2), hq51, hE.pick _ ⟨rfl, rfl, trivial⟩, hS⟩
    · replace hq51 := iteF hc57 hq51
      refine W.seq ?_
      refine W.region ?_
      refine WL.vS hS hE (runs_plain rfl) (Gives.p hE rfl) rfl ?_; clear hE a; intro a hE
      refine WL.vS hS hE (runs_plain rfl) (Gives.p hE rfl) rfl ?_; clear hE a; intro a hE
      refine WL.nil ?_
      obtain ⟨q59, hq58, hq51⟩ := bndS hq51
      refine W.cut (fun a w => ∃ (q62 : Bool), q62 = q59 ∧ Rep a 13 [(3, .int .i64 x0), (4, .bool q62)] ∧ St w s (R)) ?_ ?_
      · refine W.gen fun K63 hK63 => ?_
        refine W.cond hE rfl (fun hc64 => ?_) (fun hc64 => ?_)
        · replace hq58 := iteT hc64 hq58
          refine W.skip ?_
          subst hK63
          exact ⟨(x0 == 3), hq58, hE.pick _ ⟨rfl, rfl, trivial⟩, hS⟩
        · replace hq58 := iteF hc64 hq58
          refine W.seq ?_
          refine W.region ?_
          refine WL.vS hS hE (runs_plain rfl) (Gives.p hE rfl) rfl ?_; clear hE a; intro a hE
          refine WL.vS hS hE (runs_plain rfl) (Gives.p hE rfl) rfl ?_; clear hE a; intro a hE
          refine WL.nil ?_
          obtain ⟨q66, hq65, hq58⟩ := bndS hq58
          refine W.cut (fun a w => ∃ (q69 : Bool), q69 = q66 ∧ Rep a 13 [(3, .int .i64 x0), (4, .bool q69)] ∧ St w s (R)) ?_ ?_
          · refine W.gen fun K70 hK70 => ?_
            refine W.cond hE rfl (fun hc71 => ?_) (fun hc71 => ?_)
            · replace hq65 := iteT hc71 hq65
              refine W.skip ?_
              subst hK70
              exact ⟨(x0 == 4), hq65, hE.pick _ ⟨rfl, rfl, trivial⟩, hS⟩
            · replace hq65 := iteF hc71 hq65
              refine W.region ?_
              refine WL.vS hS hE (runs_plain rfl) (Gives.p hE rfl) rfl ?_; clear hE a; intro a hE
              refine WL.vS hS hE (runs_plain rfl) (Gives.p hE rfl) rfl ?_; clear hE a; intro a hE
              refine WL.nil ?_
              subst hK70
              exact ⟨(x0 == 5), hq65, hE.pick _ ⟨rfl, rfl, trivial⟩, hS⟩
          · clear hE hS a w; rintro a w ⟨q69, rfl, hE, hS⟩
            subst hK63
            exact ⟨q69, hq58, hE.pick _ ⟨rfl, rfl, trivial⟩, hS⟩
      · clear hE hS a w; rintro a w ⟨q62, rfl, hE, hS⟩
        subst hK56
        exact ⟨q62, hq51, hE.pick _ ⟨rfl, rfl, trivial⟩, hS⟩
  · clear hE hS a w; rintro a w ⟨q55, rfl, hE, hS⟩
    refine W.cond hE rfl (fun hc72 => ?_) (fun hc72 => ?_)
    · replace hr := iteT hc72 hr
      refine W.seq ?_
      refine W.region ?_
      refine WL.vS hS hE (runs_plain rfl) (Gives.p hE rfl) rfl ?_; clear hE a; intro a hE
      refine WL.nil ?_
      refine W.ret ?_
      refine finG (fn := Try.f60) (rs := [.tmp 2]) (vs := [_]) hE rfl ⟨rfl, trivial⟩ ?_
      subst hr
      exact ⟨rfl, hS⟩
    · replace hr := iteF hc72 hr
      refine W.seq ?_
      refine W.seq ?_
      refine W.region ?_
      refine WL.vS hS hE (runs_plain rfl) (Gives.p hE rfl) rfl ?_; clear hE a; intro a hE
      refine WL.vS hS hE (runs_plain rfl) (Gives.p hE rfl) rfl ?_; clear hE a; intro a hE
      refine WL.nil ?_
      obtain ⟨q74, hq73, hr⟩ := bndS hr
      refine W.cut (fun a w => ∃ (q77 : Bool), q77 = q74 ∧ Rep a 13 [(9, .bool q77)] ∧ St w s (R)) ?_ ?_
      · refine W.gen fun K78 hK78 => ?_
        refine W.cond hE rfl (fun hc79 => ?_) (fun hc79 => ?_)
        · replace hq73 := iteT hc79 hq73
          refine W.skip ?_
          subst hK78
          exact ⟨(x0 == 6), hq73, hE.pick _ ⟨rfl, trivial⟩, hS⟩
        · replace hq73 := iteF hc79 hq73
          refine W.seq ?_
          refine W.region ?_
          refine WL.vS hS hE (runs_plain rfl) (Gives.p hE rfl) rfl ?_; clear hE a; intro a hE
          refine WL.vS hS hE (runs_plain rfl) (Gives.p hE rfl) rfl ?_; clear hE a; intro a hE
          refine WL.nil ?_
          obtain ⟨q81, hq80, hq73⟩ := bndS hq73
          refine W.cut (fun a w => ∃ (q84 : Bool), q84 = q81 ∧ Rep a 13 [(9, .bool q84)] ∧ St w s (R)) ?_ ?_
          · refine W.gen fun K85 hK85 => ?_
            refine W.cond hE rfl (fun hc86 => ?_) (fun hc86 => ?_)
            · replace hq80 := iteT hc86 hq80
              refine W.skip ?_
              subst hK85
              exact ⟨(x0 == 7), hq80, hE.pick _ ⟨rfl, trivial⟩, hS⟩
            · replace hq80 := iteF hc86 hq80
              refine W.region ?_
              refine WL.vS hS hE (runs_plain rfl) (Gives.p hE rfl) rfl ?_; clear hE a; intro a hE
              refine WL.vS hS hE (runs_plain rfl) (Gives.p hE rfl) rfl ?_; clear hE a; intro a hE
              refine WL.nil ?_
              subst hK85
              exact ⟨(x0 == 8), hq80, hE.pick _ ⟨rfl, trivial⟩, hS⟩
          · clear hE hS a w; rintro a w ⟨q84, rfl, hE, hS⟩
            subst hK78
            exact ⟨q84, hq73, hE.pick _ ⟨rfl, trivial⟩, hS⟩
      · clear hE hS a w; rintro a w ⟨q77, rfl, hE, hS⟩
        refine W.cond hE rfl (fun hc87 => ?_) (fun hc87 => ?_)
        · replace hr := iteT hc87 hr
          refine W.seq ?_
          refine W.region ?_
          refine WL.vS hS hE (runs_plain rfl) (Gives.p hE rfl) rfl ?_; clear hE a; intro a hE
          refine WL.nil ?_
          refine W.ret ?_
          refine finG (fn := Try.f60) (rs := [.tmp 2]) (vs := [_]) hE rfl ⟨rfl, trivial⟩ ?_
          subst hr
          exact ⟨rfl, hS⟩
        · replace hr := iteF hc87 hr
          refine W.skip ?_
          refine W.seq ?_
          refine W.region ?_
          refine WL.vS hS hE (runs_plain rfl) (Gives.p hE rfl) rfl ?_; clear hE a; intro a hE
          refine WL.nil ?_
          refine W.ret ?_
          refine finG (fn := Try.f60) (rs := [.tmp 2]) (vs := [_]) hE rfl ⟨rfl, trivial⟩ ?_
          subst hr
          exact ⟨rfl, hS⟩
set_option maxHeartbeats 8000000 in
theorem FareCondnode_ok : ∀ {fu : Nat} {w : World} {s : Sg} {R : List HP} {x0 : FareCond} {a0_0 : Option Addr} {c0_0 : Nat} (_hS : St w s (R)) (_h0_0 : Sl 4 RFareCond s a0_0 c0_0 x0.Kids) {r : Int} (_hr : FareCondnode fu x0 = some r),
    Calls Try.prog 48 [.agg (List.toArray [.int .i64 x0.Kind, .int .i64 x0.A, .int .i64 x0.B, .slice a0_0 x0.Kids.length c0_0])].toArray w (fun e w => e = .returned (.int .i64 r) ∧ St w s (R)) := by
  intro fu
  induction fu with
  | zero => intro w s R x0 a0_0 c0_0 hS h0_0 r hr; rw [FareCondnode] at hr; exact absurd hr (by simp)
  | succ fu ih_FareCondnode =>
    intro w s R x0 a0_0 c0_0 hS h0_0 r hr
    rw [FareCondnode] at hr
    generalize FareCondnode fu = self_FareCondnode at hr ih_FareCondnode
    refine enter Try.func48 rfl rfl rfl fun a hE => ?_
    refine W.seq ?_
    refine W.region ?_
    refine WL.box hE hS (runs_plain rfl) rfl rfl rfl ?_; clear hE hS a w; intro b51 a w hE hS
    refine WL.vS hS hE (runs_plain rfl) (Gives.p hE rfl) rfl ?_; clear hE a; intro a hE
    refine WL.nil ?_
    refine W.seq ?_
    refine W.region ?_
    refine WL.vS hS hE (runs_plain rfl) (Gives.fld hE rfl fl45_0) rfl ?_; clear hE a; intro a hE
    refine WL.vS hS hE (runs_plain rfl) (Gives.loadB hE 0 rfl rfl rfl ty3) rfl ?_; clear hE a; intro a hE
    refine WL.fnq hE (Farenumbers_ok hS  rfl (r := Farenumbers x0.Kind)) (runs_plain rfl) bd60 rfl rfl rfl ?_
    clear hE hS; rintro e w ⟨rfl, hS⟩; refine ⟨_, rfl, ?_⟩; clear a; intro a hE
    refine WL.vS hS hE (runs_plain rfl) (Gives.p hE rfl) rfl ?_; clear hE a; intro a hE
    refine WL.nil ?_
    refine W.seq ?_
    refine W.block ?_
    refine W.seq ?_
    refine W.region ?_
    refine WL.vS hS hE (runs_plain rfl) (Gives.fld hE rfl fl45_0) rfl ?_; clear hE a; intro a hE
    refine WL.vS hS hE (runs_plain rfl) (Gives.loadB hE 0 rfl rfl rfl ty3) rfl ?_; clear hE a; intro a hE
    refine WL.fnq hE (Farewithin_ok hS  rfl (r := Farewithin x0.Kind 0 11)) (runs_plain rfl) bd9 rfl rfl rfl ?_
    clear hE hS; rintro e w ⟨rfl, hS⟩; refine ⟨_, rfl, ?_⟩; clear a; intro a hE
    refine WL.vS hS hE (runs_plain rfl) (Gives.p hE rfl) rfl ?_; clear hE a; intro a hE
    refine WL.vS hS hE (runs_plain rfl) (Gives.p hE rfl) rfl ?_; clear hE a; intro a hE
    refine WL.nil ?_
    refine W.cond hE rfl (fun hc52 => ?_) (fun hc52 => ?_)
    · replace hr := iteT hc52 hr
      refine W.seq ?_
      refine W.region ?_
      refine WL.vS hS hE (runs_plain rfl) (Gives.p hE rfl) rfl ?_; clear hE a; intro a hE
      refine WL.nil ?_
      refine W.ret ?_
      refine finG (fn := Try.f48) (rs := [.tmp 2]) (vs := [_]) hE rfl ⟨rfl, trivial⟩ ?_
      obtain rfl := Option.some.inj hr
      replace hS := hS.tail
      exact ⟨rfl, hS⟩
    · replace hr := iteF hc52 hr
      refine W.seq ?_
      obtain ⟨q54, hq53, hr⟩ := bndS hr
      refine W.cut (fun a w => ∃ (q57 : Bool), q57 = q54 ∧ Rep a 99 [(1, .pointer (some ⟨b51, 0, none⟩)), (3, .int .i64 (Farenumbers x0.Kind)), (15, .bool q57)] ∧ St w s (pt b51 (.cells #[.int .i64 x0.Kind, .int .i64 x0.A, .int .i64 x0.B, .slice a0_0 x0.Kids.length c0_0] 45 (0, 0)) :: R)) ?_ ?_
      · refine W.gen fun K58 hK58 => ?_
        refine W.region ?_
        refine WL.vS hS hE (runs_plain rfl) (Gives.fld hE rfl fl45_1) rfl ?_; clear hE a; intro a hE
        refine WL.vS hS hE (runs_plain rfl) (Gives.loadB hE 0 rfl rfl rfl ty3) rfl ?_; clear hE a; intro a hE
        refine WL.fnq hE (Farewithin_ok hS  rfl (r := Farewithin x0.A 0 28800)) (runs_plain rfl) bd9 rfl rfl rfl ?_
        clear hE hS; rintro e w ⟨rfl, hS⟩; refine ⟨_, rfl, ?_⟩; clear a; intro a hE
        refine WL.vS hS hE (runs_plain rfl) (Gives.p hE rfl) rfl ?_; clear hE a; intro a hE
        refine WL.vS hS hE (runs_plain rfl) (Gives.p hE rfl) rfl ?_; clear hE a; intro a hE
        rcases Bool.eq_false_or_eq_true (!(Farewithin x0.A 0 28800)) with hg59 | hg59
        · replace hq53 := iteT hg59 hq53
          refine WL.no hE (runs_not hE rfl rfl rfl (by rw [hg59]; decide)) rfl ?_; clear hE a; intro a hE
          refine WL.no hE (runs_not hE rfl rfl rfl (by rw [hg59]; decide)) rfl ?_; clear hE a; intro a hE
          refine WL.no hE (runs_not hE rfl rfl rfl (by rw [hg59]; decide)) rfl ?_; clear hE a; intro a hE
          refine WL.no hE (runs_not hE rfl rfl rfl (by rw [hg59]; decide)) rfl ?_; clear hE a; intro a hE
          refine WL.vS hS hE (runs_plain rfl) (Gives.pickT hE rfl hg59 rfl) rfl ?_; clear hE a; intro a hE
          refine WL.vS hS hE (runs_plain rfl) (Gives.p hE rfl) rfl ?_; clear hE a; intro a hE
          refine WL.nil ?_
          subst hK58
          exact ⟨true, hq53, hE.pick _ ⟨rfl, rfl, rfl, trivial⟩, hS⟩
        · replace hq53 := iteF hg59 hq53
          refine WL.vS hS hE (runs_if hE rfl rfl rfl hg59) (Gives.fld hE rfl fl45_2) rfl ?_; clear hE a; intro a hE
          refine WL.vS hS hE (runs_if hE rfl rfl rfl hg59) (Gives.loadB hE 0 rfl rfl rfl ty3) rfl ?_; clear hE a; intro a hE
          refine WL.fnq hE (Farewithin_ok hS  rfl (r := Farewithin x0.B 0 28800)) (runs_if hE rfl rfl rfl hg59) bd9 rfl rfl rfl ?_
          clear hE hS; rintro e w ⟨rfl, hS⟩; refine ⟨_, rfl, ?_⟩; clear a; intro a hE
          refine WL.vS hS hE (runs_if hE rfl rfl rfl hg59) (Gives.p hE rfl) rfl ?_; clear hE a; intro a hE
          refine WL.vS hS hE (runs_plain rfl) (Gives.pickF hE rfl hg59 rfl) rfl ?_; clear hE a; intro a hE
          refine WL.vS hS hE (runs_plain rfl) (Gives.p hE rfl) rfl ?_; clear hE a; intro a hE
          refine WL.nil ?_
          subst hK58
          exact ⟨!(Farewithin x0.B 0 28800), hq53, hE.pick _ ⟨rfl, rfl, rfl, trivial⟩, hS⟩
      · clear hE hS a w; rintro a w ⟨q57, rfl, hE, hS⟩
        refine W.cond hE rfl (fun hc60 => ?_) (fun hc60 => ?_)
        · replace hr := iteT hc60 hr
          refine W.seq ?_
          refine W.region ?_
          refine WL.vS hS hE (runs_plain rfl) (Gives.p hE rfl) rfl ?_; clear hE a; intro a hE
          refine WL.nil ?_
          refine W.ret ?_
          refine finG (fn := Try.f48) (rs := [.tmp 2]) (vs := [_]) hE rfl ⟨rfl, trivial⟩ ?_
          obtain rfl := Option.some.inj hr
          replace hS := hS.tail
          exact ⟨rfl, hS⟩
        · replace hr := iteF hc60 hr
          refine W.seq ?_
          obtain ⟨q62, hq61, hr⟩ := bndS hr
          refine W.cut (fun a w => ∃ (q65 : Bool), q65 = q62 ∧ Rep a 99 [(1, .pointer (some ⟨b51, 0, none⟩)), (26, .bool q65)] ∧ St w s (pt b51 (.cells #[.int .i64 x0.Kind, .int .i64 x0.A, .int .i64 x0.B, .slice a0_0 x0.Kids.length c0_0] 45 (0, 0)) :: R)) ?_ ?_
          · refine W.gen fun K66 hK66 => ?_
            refine W.region ?_
            refine WL.vS hS hE (runs_plain rfl) (Gives.p hE rfl) rfl ?_; clear hE a; intro a hE
            refine WL.vS hS hE (runs_plain rfl) (Gives.p hE rfl) rfl ?_; clear hE a; intro a hE
            refine WL.vS hS hE (runs_plain rfl) (Gives.p hE rfl) rfl ?_; clear hE a; intro a hE
            rcases Bool.eq_false_or_eq_true (decide ((Farenumbers x0.Kind) < 1)) with hg67 | hg67
            · replace hq61 := iteT hg67 hq61
              refine WL.vS hS hE (runs_if hE rfl rfl rfl hg67) (Gives.fld hE rfl fl45_1) rfl ?_; clear hE a; intro a hE
              refine WL.vS hS hE (runs_if hE rfl rfl rfl hg67) (Gives.loadB hE 0 rfl rfl rfl ty3) rfl ?_; clear hE a; intro a hE
              refine WL.vS hS hE (runs_if hE rfl rfl rfl hg67) (Gives.p hE rfl) rfl ?_; clear hE a; intro a hE
              refine WL.vS hS hE (runs_plain rfl) (Gives.pickT hE rfl hg67 rfl) rfl ?_; clear hE a; intro a hE
              refine WL.vS hS hE (runs_plain rfl) (Gives.p hE rfl) rfl ?_; clear hE a; intro a hE
              rcases Bool.eq_false_or_eq_true (x0.A != 0) with hg68 | hg68
              · replace hq61 := iteT hg68 hq61
                refine WL.no hE (runs_not hE rfl rfl rfl (by rw [hg68]; decide)) rfl ?_; clear hE a; intro a hE
                refine WL.no hE (runs_not hE rfl rfl rfl (by rw [hg68]; decide)) rfl ?_; clear hE a; intro a hE
                refine WL.no hE (runs_not hE rfl rfl rfl (by rw [hg68]; decide)) rfl ?_; clear hE a; intro a hE
                refine WL.no hE (runs_undef hE rfl rfl rfl) rfl ?_; clear hE a; intro a hE
                refine WL.no hE (runs_undef hE rfl rfl rfl) rfl ?_; clear hE a; intro a hE
                refine WL.no hE (runs_undef hE rfl rfl rfl) rfl ?_; clear hE a; intro a hE
                refine WL.no hE (runs_not hE rfl rfl rfl (by rw [hg68]; decide)) rfl ?_; clear hE a; intro a hE
                refine WL.vS hS hE (runs_plain rfl) (Gives.pickT hE rfl hg68 rfl) rfl ?_; clear hE a; intro a hE
                refine WL.vS hS hE (runs_plain rfl) (Gives.p hE rfl) rfl ?_; clear hE a; intro a hE
                refine WL.no hE (runs_not hE rfl rfl rfl (by decide)) rfl ?_; clear hE a; intro a hE
                refine WL.no hE (runs_not hE rfl rfl rfl (by decide)) rfl ?_; clear hE a; intro a hE
                refine WL.no hE (runs_not hE rfl rfl rfl (by decide)) rfl ?_; clear hE a; intro a hE
                refine WL.no hE (runs_undef hE rfl rfl rfl) rfl ?_; clear hE a; intro a hE
                refine WL.no hE (runs_undef hE rfl rfl rfl) rfl ?_; clear hE a; intro a hE
                refine WL.no hE (runs_undef hE rfl rfl rfl) rfl ?_; clear hE a; intro a hE
                refine WL.no hE (runs_undef hE rfl rfl rfl) rfl ?_; clear hE a; intro a hE
                refine WL.no hE (runs_undef hE rfl rfl rfl) rfl ?_; clear hE a; intro a hE
                refine WL.no hE (runs_not hE rfl rfl rfl (by decide)) rfl ?_; clear hE a; intro a hE
                refine WL.vS hS hE (runs_plain rfl) (Gives.pickT hE rfl rfl rfl) rfl ?_; clear hE a; intro a hE
                refine WL.vS hS hE (runs_plain rfl) (Gives.p hE rfl) rfl ?_; clear hE a; intro a hE
                refine WL.nil ?_
                subst hK66
                exact ⟨true, hq61, hE.pick _ ⟨rfl, rfl, trivial⟩, hS⟩
              · replace hq61 := iteF hg68 hq61
                refine WL.vS hS hE (runs_if hE rfl rfl rfl hg68) (Gives.p hE rfl) rfl ?_; clear hE a; intro a hE
                refine WL.vS hS hE (runs_if hE rfl rfl rfl hg68) (Gives.p hE rfl) rfl ?_; clear hE a; intro a hE
                refine WL.vS hS hE (runs_if hE rfl rfl rfl hg68) (Gives.p hE rfl) rfl ?_; clear hE a; intro a hE
                rcases Bool.eq_false_or_eq_true (decide ((Farenumbers x0.Kind) < 2)) with hg69 | hg69
                · replace hq61 := iteT hg69 hq61
                  refine WL.vS hS hE (runs_if hE rfl rfl rfl hg69) (Gives.fld hE rfl fl45_2) rfl ?_; clear hE a; intro a hE
                  refine WL.vS hS hE (runs_if hE rfl rfl rfl hg69) (Gives.loadB hE 0 rfl rfl rfl ty3) rfl ?_; clear hE a; intro a hE
                  refine WL.vS hS hE (runs_if hE rfl rfl rfl hg69) (Gives.p hE rfl) rfl ?_; clear hE a; intro a hE
                  refine WL.vS hS hE (runs_if hE rfl rfl rfl hg68) (Gives.pickT hE rfl hg69 rfl) rfl ?_; clear hE a; intro a hE
                  refine WL.vS hS hE (runs_plain rfl) (Gives.pickF hE rfl hg68 rfl) rfl ?_; clear hE a; intro a hE
                  refine WL.vS hS hE (runs_plain rfl) (Gives.p hE rfl) rfl ?_; clear hE a; intro a hE
                  rcases Bool.eq_false_or_eq_true (x0.B != 0) with hg70 | hg70
                  · replace hq61 := iteT hg70 hq61
                    refine WL.no hE (runs_not hE rfl rfl rfl (by rw [hg70]; decide)) rfl ?_; clear hE a; intro a hE
                    refine WL.no hE (runs_not hE rfl rfl rfl (by rw [hg70]; decide)) rfl ?_; clear hE a; intro a hE
                    refine WL.no hE (runs_not hE rfl rfl rfl (by rw [hg70]; decide)) rfl ?_; clear hE a; intro a hE
                    refine WL.no hE (runs_undef hE rfl rfl rfl) rfl ?_; clear hE a; intro a hE
                    refine WL.no hE (runs_undef hE rfl rfl rfl) rfl ?_; clear hE a; intro a hE
                    refine WL.no hE (runs_undef hE rfl rfl rfl) rfl ?_; clear hE a; intro a hE
                    refine WL.no hE (runs_undef hE rfl rfl rfl) rfl ?_; clear hE a; intro a hE
                    refine WL.no hE (runs_undef hE rfl rfl rfl) rfl ?_; clear hE a; intro a hE
                    refine WL.no hE (runs_not hE rfl rfl rfl (by rw [hg70]; decide)) rfl ?_; clear hE a; intro a hE
                    refine WL.vS hS hE (runs_plain rfl) (Gives.pickT hE rfl hg70 rfl) rfl ?_; clear hE a; intro a hE
                    refine WL.vS hS hE (runs_plain rfl) (Gives.p hE rfl) rfl ?_; clear hE a; intro a hE
                    refine WL.nil ?_
                    subst hK66
                    exact ⟨true, hq61, hE.pick _ ⟨rfl, rfl, trivial⟩, hS⟩
                  · replace hq61 := iteF hg70 hq61
                    refine WL.vS hS hE (runs_if hE rfl rfl rfl hg70) (Gives.p hE rfl) rfl ?_; clear hE a; intro a hE
                    refine WL.vS hS hE (runs_if hE rfl rfl rfl hg70) (Gives.p hE rfl) rfl ?_; clear hE a; intro a hE
                    refine WL.vS hS hE (runs_if hE rfl rfl rfl hg70) (Gives.p hE rfl) rfl ?_; clear hE a; intro a hE
                    rcases Bool.eq_false_or_eq_true ((Farenumbers x0.Kind) == 2) with hg71 | hg71
                    · replace hq61 := iteT hg71 hq61
                      refine WL.vS hS hE (runs_if hE rfl rfl rfl hg71) (Gives.fld hE rfl fl45_1) rfl ?_; clear hE a; intro a hE
                      refine WL.vS hS hE (runs_if hE rfl rfl rfl hg71) (Gives.loadB hE 0 rfl rfl rfl ty3) rfl ?_; clear hE a; intro a hE
                      refine WL.vS hS hE (runs_if hE rfl rfl rfl hg71) (Gives.fld hE rfl fl45_2) rfl ?_; clear hE a; intro a hE
                      refine WL.vS hS hE (runs_if hE rfl rfl rfl hg71) (Gives.loadB hE 0 rfl rfl rfl ty3) rfl ?_; clear hE a; intro a hE
                      refine WL.vS hS hE (runs_if hE rfl rfl rfl hg71) (Gives.p hE rfl) rfl ?_; clear hE a; intro a hE
                      refine WL.vS hS hE (runs_if hE rfl rfl rfl hg70) (Gives.pickT hE rfl hg71 rfl) rfl ?_; clear hE a; intro a hE
                      refine WL.vS hS hE (runs_plain rfl) (Gives.pickF hE rfl hg70 rfl) rfl ?_; clear hE a; intro a hE
                      refine WL.vS hS hE (runs_plain rfl) (Gives.p hE rfl) rfl ?_; clear hE a; intro a hE
                      refine WL.nil ?_
                      subst hK66
                      exact ⟨decide (x0.A > x0.B), hq61, hE.pick _ ⟨rfl, rfl, trivial⟩, hS⟩
                    · replace hq61 := iteF hg71 hq61
                      refine WL.no hE (runs_not hE rfl rfl rfl (by rw [hg71]; decide)) rfl ?_; clear hE a; intro a hE
                      refine WL.no hE (runs_not hE rfl rfl rfl (by rw [hg71]; decide)) rfl ?_; clear hE a; intro a hE
                      refine WL.no hE (runs_not hE rfl rfl rfl (by rw [hg71]; decide)) rfl ?_; clear hE a; intro a hE
                      refine WL.no hE (runs_not hE rfl rfl rfl (by rw [hg71]; decide)) rfl ?_; clear hE a; intro a hE
                      refine WL.no hE (runs_not hE rfl rfl rfl (by rw [hg71]; decide)) rfl ?_; clear hE a; intro a hE
                      refine WL.vS hS hE (runs_if hE rfl rfl rfl hg70) (Gives.pickF hE rfl hg71 rfl) rfl ?_; clear hE a; intro a hE
                      refine WL.vS hS hE (runs_plain rfl) (Gives.pickF hE rfl hg70 rfl) rfl ?_; clear hE a; intro a hE
                      refine WL.vS hS hE (runs_plain rfl) (Gives.p hE rfl) rfl ?_; clear hE a; intro a hE
                      refine WL.nil ?_
                      subst hK66
                      exact ⟨false, hq61, hE.pick _ ⟨rfl, rfl, trivial⟩, hS⟩
                · replace hq61 := iteF hg69 hq61
                  refine WL.no hE (runs_not hE rfl rfl rfl (by rw [hg69]; decide)) rfl ?_; clear hE a; intro a hE
                  refine WL.no hE (runs_not hE rfl rfl rfl (by rw [hg69]; decide)) rfl ?_; clear hE a; intro a hE
                  refine WL.no hE (runs_not hE rfl rfl rfl (by rw [hg69]; decide)) rfl ?_; clear hE a; intro a hE
                  refine WL.vS hS hE (runs_if hE rfl rfl rfl hg68) (Gives.pickF hE rfl hg69 rfl) rfl ?_; clear hE a; intro a hE
                  refine WL.vS hS hE (runs_plain rfl) (Gives.pickF hE rfl hg68 rfl) rfl ?_; clear hE a; intro a hE
                  refine WL.vS hS hE (runs_plain rfl) (Gives.p hE rfl) rfl ?_; clear hE a; intro a hE
                  refine WL.vS hS hE (runs_if hE rfl rfl rfl rfl) (Gives.p hE rfl) rfl ?_; clear hE a; intro a hE
                  refine WL.vS hS hE (runs_if hE rfl rfl rfl rfl) (Gives.p hE rfl) rfl ?_; clear hE a; intro a hE
                  refine WL.vS hS hE (runs_if hE rfl rfl rfl rfl) (Gives.p hE rfl) rfl ?_; clear hE a; intro a hE
                  rcases Bool.eq_false_or_eq_true ((Farenumbers x0.Kind) == 2) with hg72 | hg72
                  · replace hq61 := iteT hg72 hq61
                    refine WL.vS hS hE (runs_if hE rfl rfl rfl hg72) (Gives.fld hE rfl fl45_1) rfl ?_; clear hE a; intro a hE
                    refine WL.vS hS hE (runs_if hE rfl rfl rfl hg72) (Gives.loadB hE 0 rfl rfl rfl ty3) rfl ?_; clear hE a; intro a hE
                    refine WL.vS hS hE (runs_if hE rfl rfl rfl hg72) (Gives.fld hE rfl fl45_2) rfl ?_; clear hE a; intro a hE
                    refine WL.vS hS hE (runs_if hE rfl rfl rfl hg72) (Gives.loadB hE 0 rfl rfl rfl ty3) rfl ?_; clear hE a; intro a hE
                    refine WL.vS hS hE (runs_if hE rfl rfl rfl hg72) (Gives.p hE rfl) rfl ?_; clear hE a; intro a hE
                    refine WL.vS hS hE (runs_if hE rfl rfl rfl rfl) (Gives.pickT hE rfl hg72 rfl) rfl ?_; clear hE a; intro a hE
                    refine WL.vS hS hE (runs_plain rfl) (Gives.pickF hE rfl rfl rfl) rfl ?_; clear hE a; intro a hE
                    refine WL.vS hS hE (runs_plain rfl) (Gives.p hE rfl) rfl ?_; clear hE a; intro a hE
                    refine WL.nil ?_
                    subst hK66
                    exact ⟨decide (x0.A > x0.B), hq61, hE.pick _ ⟨rfl, rfl, trivial⟩, hS⟩
                  · replace hq61 := iteF hg72 hq61
                    refine WL.no hE (runs_not hE rfl rfl rfl (by rw [hg72]; decide)) rfl ?_; clear hE a; intro a hE
                    refine WL.no hE (runs_not hE rfl rfl rfl (by rw [hg72]; decide)) rfl ?_; clear hE a; intro a hE
                    refine WL.no hE (runs_not hE rfl rfl rfl (by rw [hg72]; decide)) rfl ?_; clear hE a; intro a hE
                    refine WL.no hE (runs_not hE rfl rfl rfl (by rw [hg72]; decide)) rfl ?_; clear hE a; intro a hE
                    refine WL.no hE (runs_not hE rfl rfl rfl (by rw [hg72]; decide)) rfl ?_; clear hE a; intro a hE
                    refine WL.vS hS hE (runs_if hE rfl rfl rfl rfl) (Gives.pickF hE rfl hg72 rfl) rfl ?_; clear hE a; intro a hE
                    refine WL.vS hS hE (runs_plain rfl) (Gives.pickF hE rfl rfl rfl) rfl ?_; clear hE a; intro a hE
                    refine WL.vS hS hE (runs_plain rfl) (Gives.p hE rfl) rfl ?_; clear hE a; intro a hE
                    refine WL.nil ?_
                    subst hK66
                    exact ⟨false, hq61, hE.pick _ ⟨rfl, rfl, trivial⟩, hS⟩
            · replace hq61 := iteF hg67 hq61
              refine WL.no hE (runs_not hE rfl rfl rfl (by rw [hg67]; decide)) rfl ?_; clear hE a; intro a hE
              refine WL.no hE (runs_not hE rfl rfl rfl (by rw [hg67]; decide)) rfl ?_; clear hE a; intro a hE
              refine WL.no hE (runs_not hE rfl rfl rfl (by rw [hg67]; decide)) rfl ?_; clear hE a; intro a hE
              refine WL.vS hS hE (runs_plain rfl) (Gives.pickF hE rfl hg67 rfl) rfl ?_; clear hE a; intro a hE
              refine WL.vS hS hE (runs_plain rfl) (Gives.p hE rfl) rfl ?_; clear hE a; intro a hE
              refine WL.vS hS hE (runs_if hE rfl rfl rfl rfl) (Gives.p hE rfl) rfl ?_; clear hE a; intro a hE
              refine WL.vS hS hE (runs_if hE rfl rfl rfl rfl) (Gives.p hE rfl) rfl ?_; clear hE a; intro a hE
              refine WL.vS hS hE (runs_if hE rfl rfl rfl rfl) (Gives.p hE rfl) rfl ?_; clear hE a; intro a hE
              rcases Bool.eq_false_or_eq_true (decide ((Farenumbers x0.Kind) < 2)) with hg73 | hg73
              · replace hq61 := iteT hg73 hq61
                refine WL.vS hS hE (runs_if hE rfl rfl rfl hg73) (Gives.fld hE rfl fl45_2) rfl ?_; clear hE a; intro a hE
                refine WL.vS hS hE (runs_if hE rfl rfl rfl hg73) (Gives.loadB hE 0 rfl rfl rfl ty3) rfl ?_; clear hE a; intro a hE
                refine WL.vS hS hE (runs_if hE rfl rfl rfl hg73) (Gives.p hE rfl) rfl ?_; clear hE a; intro a hE
                refine WL.vS hS hE (runs_if hE rfl rfl rfl rfl) (Gives.pickT hE rfl hg73 rfl) rfl ?_; clear hE a; intro a hE
                refine WL.vS hS hE (runs_plain rfl) (Gives.pickF hE rfl rfl rfl) rfl ?_; clear hE a; intro a hE
                refine WL.vS hS hE (runs_plain rfl) (Gives.p hE rfl) rfl ?_; clear hE a; intro a hE
                rcases Bool.eq_false_or_eq_true (x0.B != 0) with hg74 | hg74
                · replace hq61 := iteT hg74 hq61
                  refine WL.no hE (runs_not hE rfl rfl rfl (by rw [hg74]; decide)) rfl ?_; clear hE a; intro a hE
                  refine WL.no hE (runs_not hE rfl rfl rfl (by rw [hg74]; decide)) rfl ?_; clear hE a; intro a hE
                  refine WL.no hE (runs_not hE rfl rfl rfl (by rw [hg74]; decide)) rfl ?_; clear hE a; intro a hE
                  refine WL.no hE (runs_undef hE rfl rfl rfl) rfl ?_; clear hE a; intro a hE
                  refine WL.no hE (runs_undef hE rfl rfl rfl) rfl ?_; clear hE a; intro a hE
                  refine WL.no hE (runs_undef hE rfl rfl rfl) rfl ?_; clear hE a; intro a hE
                  refine WL.no hE (runs_undef hE rfl rfl rfl) rfl ?_; clear hE a; intro a hE
                  refine WL.no hE (runs_undef hE rfl rfl rfl) rfl ?_; clear hE a; intro a hE
                  refine WL.no hE (runs_not hE rfl rfl rfl (by rw [hg74]; decide)) rfl ?_; clear hE a; intro a hE
                  refine WL.vS hS hE (runs_plain rfl) (Gives.pickT hE rfl hg74 rfl) rfl ?_; clear hE a; intro a hE
                  refine WL.vS hS hE (runs_plain rfl) (Gives.p hE rfl) rfl ?_; clear hE a; intro a hE
                  refine WL.nil ?_
                  subst hK66
                  exact ⟨true, hq61, hE.pick _ ⟨rfl, rfl, trivial⟩, hS⟩
                · replace hq61 := iteF hg74 hq61
                  refine WL.vS hS hE (runs_if hE rfl rfl rfl hg74) (Gives.p hE rfl) rfl ?_; clear hE a; intro a hE
                  refine WL.vS hS hE (runs_if hE rfl rfl rfl hg74) (Gives.p hE rfl) rfl ?_; clear hE a; intro a hE
                  refine WL.vS hS hE (runs_if hE rfl rfl rfl hg74) (Gives.p hE rfl) rfl ?_; clear hE a; intro a hE
                  rcases Bool.eq_false_or_eq_true ((Farenumbers x0.Kind) == 2) with hg75 | hg75
                  · replace hq61 := iteT hg75 hq61
                    refine WL.vS hS hE (runs_if hE rfl rfl rfl hg75) (Gives.fld hE rfl fl45_1) rfl ?_; clear hE a; intro a hE
                    refine WL.vS hS hE (runs_if hE rfl rfl rfl hg75) (Gives.loadB hE 0 rfl rfl rfl ty3) rfl ?_; clear hE a; intro a hE
                    refine WL.vS hS hE (runs_if hE rfl rfl rfl hg75) (Gives.fld hE rfl fl45_2) rfl ?_; clear hE a; intro a hE
                    refine WL.vS hS hE (runs_if hE rfl rfl rfl hg75) (Gives.loadB hE 0 rfl rfl rfl ty3) rfl ?_; clear hE a; intro a hE
                    refine WL.vS hS hE (runs_if hE rfl rfl rfl hg75) (Gives.p hE rfl) rfl ?_; clear hE a; intro a hE
                    refine WL.vS hS hE (runs_if hE rfl rfl rfl hg74) (Gives.pickT hE rfl hg75 rfl) rfl ?_; clear hE a; intro a hE
                    refine WL.vS hS hE (runs_plain rfl) (Gives.pickF hE rfl hg74 rfl) rfl ?_; clear hE a; intro a hE
                    refine WL.vS hS hE (runs_plain rfl) (Gives.p hE rfl) rfl ?_; clear hE a; intro a hE
                    refine WL.nil ?_
                    subst hK66
                    exact ⟨decide (x0.A > x0.B), hq61, hE.pick _ ⟨rfl, rfl, trivial⟩, hS⟩
                  · replace hq61 := iteF hg75 hq61
                    refine WL.no hE (runs_not hE rfl rfl rfl (by rw [hg75]; decide)) rfl ?_; clear hE a; intro a hE
                    refine WL.no hE (runs_not hE rfl rfl rfl (by rw [hg75]; decide)) rfl ?_; clear hE a; intro a hE
                    refine WL.no hE (runs_not hE rfl rfl rfl (by rw [hg75]; decide)) rfl ?_; clear hE a; intro a hE
                    refine WL.no hE (runs_not hE rfl rfl rfl (by rw [hg75]; decide)) rfl ?_; clear hE a; intro a hE
                    refine WL.no hE (runs_not hE rfl rfl rfl (by rw [hg75]; decide)) rfl ?_; clear hE a; intro a hE
                    refine WL.vS hS hE (runs_if hE rfl rfl rfl hg74) (Gives.pickF hE rfl hg75 rfl) rfl ?_; clear hE a; intro a hE
                    refine WL.vS hS hE (runs_plain rfl) (Gives.pickF hE rfl hg74 rfl) rfl ?_; clear hE a; intro a hE
                    refine WL.vS hS hE (runs_plain rfl) (Gives.p hE rfl) rfl ?_; clear hE a; intro a hE
                    refine WL.nil ?_
                    subst hK66
                    exact ⟨false, hq61, hE.pick _ ⟨rfl, rfl, trivial⟩, hS⟩
              · replace hq61 := iteF hg73 hq61
                refine WL.no hE (runs_not hE rfl rfl rfl (by rw [hg73]; decide)) rfl ?_; clear hE a; intro a hE
                refine WL.no hE (runs_not hE rfl rfl rfl (by rw [hg73]; decide)) rfl ?_; clear hE a; intro a hE
                refine WL.no hE (runs_not hE rfl rfl rfl (by rw [hg73]; decide)) rfl ?_; clear hE a; intro a hE
                refine WL.vS hS hE (runs_if hE rfl rfl rfl rfl) (Gives.pickF hE rfl hg73 rfl) rfl ?_; clear hE a; intro a hE
                refine WL.vS hS hE (runs_plain rfl) (Gives.pickF hE rfl rfl rfl) rfl ?_; clear hE a; intro a hE
                refine WL.vS hS hE (runs_plain rfl) (Gives.p hE rfl) rfl ?_; clear hE a; intro a hE
                refine WL.vS hS hE (runs_if hE rfl rfl rfl rfl) (Gives.p hE rfl) rfl ?_; clear hE a; intro a hE
                refine WL.vS hS hE (runs_if hE rfl rfl rfl rfl) (Gives.p hE rfl) rfl ?_; clear hE a; intro a hE
                refine WL.vS hS hE (runs_if hE rfl rfl rfl rfl) (Gives.p hE rfl) rfl ?_; clear hE a; intro a hE
                rcases Bool.eq_false_or_eq_true ((Farenumbers x0.Kind) == 2) with hg76 | hg76
                · replace hq61 := iteT hg76 hq61
                  refine WL.vS hS hE (runs_if hE rfl rfl rfl hg76) (Gives.fld hE rfl fl45_1) rfl ?_; clear hE a; intro a hE
                  refine WL.vS hS hE (runs_if hE rfl rfl rfl hg76) (Gives.loadB hE 0 rfl rfl rfl ty3) rfl ?_; clear hE a; intro a hE
                  refine WL.vS hS hE (runs_if hE rfl rfl rfl hg76) (Gives.fld hE rfl fl45_2) rfl ?_; clear hE a; intro a hE
                  refine WL.vS hS hE (runs_if hE rfl rfl rfl hg76) (Gives.loadB hE 0 rfl rfl rfl ty3) rfl ?_; clear hE a; intro a hE
                  refine WL.vS hS hE (runs_if hE rfl rfl rfl hg76) (Gives.p hE rfl) rfl ?_; clear hE a; intro a hE
                  refine WL.vS hS hE (runs_if hE rfl rfl rfl rfl) (Gives.pickT hE rfl hg76 rfl) rfl ?_; clear hE a; intro a hE
                  refine WL.vS hS hE (runs_plain rfl) (Gives.pickF hE rfl rfl rfl) rfl ?_; clear hE a; intro a hE
                  refine WL.vS hS hE (runs_plain rfl) (Gives.p hE rfl) rfl ?_; clear hE a; intro a hE
                  refine WL.nil ?_
                  subst hK66
                  exact ⟨decide (x0.A > x0.B), hq61, hE.pick _ ⟨rfl, rfl, trivial⟩, hS⟩
                · replace hq61 := iteF hg76 hq61
                  refine WL.no hE (runs_not hE rfl rfl rfl (by rw [hg76]; decide)) rfl ?_; clear hE a; intro a hE
                  refine WL.no hE (runs_not hE rfl rfl rfl (by rw [hg76]; decide)) rfl ?_; clear hE a; intro a hE
                  refine WL.no hE (runs_not hE rfl rfl rfl (by rw [hg76]; decide)) rfl ?_; clear hE a; intro a hE
                  refine WL.no hE (runs_not hE rfl rfl rfl (by rw [hg76]; decide)) rfl ?_; clear hE a; intro a hE
                  refine WL.no hE (runs_not hE rfl rfl rfl (by rw [hg76]; decide)) rfl ?_; clear hE a; intro a hE
                  refine WL.vS hS hE (runs_if hE rfl rfl rfl rfl) (Gives.pickF hE rfl hg76 rfl) rfl ?_; clear hE a; intro a hE
                  refine WL.vS hS hE (runs_plain rfl) (Gives.pickF hE rfl rfl rfl) rfl ?_; clear hE a; intro a hE
                  refine WL.vS hS hE (runs_plain rfl) (Gives.p hE rfl) rfl ?_; clear hE a; intro a hE
                  refine WL.nil ?_
                  subst hK66
                  exact ⟨false, hq61, hE.pick _ ⟨rfl, rfl, trivial⟩, hS⟩
          · clear hE hS a w; rintro a w ⟨q65, rfl, hE, hS⟩
            refine W.cond hE rfl (fun hc77 => ?_) (fun hc77 => ?_)
            · replace hr := iteT hc77 hr
              refine W.seq ?_
              refine W.region ?_
              refine WL.vS hS hE (runs_plain rfl) (Gives.p hE rfl) rfl ?_; clear hE a; intro a hE
              refine WL.nil ?_
              refine W.ret ?_
              refine finG (fn := Try.f48) (rs := [.tmp 2]) (vs := [_]) hE rfl ⟨rfl, trivial⟩ ?_
              obtain rfl := Option.some.inj hr
              replace hS := hS.tail
              exact ⟨rfl, hS⟩
            · replace hr := iteF hc77 hr
              refine W.seq ?_
              obtain ⟨q79, hq78, hr⟩ := bndS hr
              refine W.cut (fun a w => ∃ (q82 : Bool), q82 = q79 ∧ Rep a 99 [(1, .pointer (some ⟨b51, 0, none⟩)), (54, .bool q82)] ∧ St w s (pt b51 (.cells #[.int .i64 x0.Kind, .int .i64 x0.A, .int .i64 x0.B, .slice a0_0 x0.Kids.length c0_0] 45 (0, 0)) :: R)) ?_ ?_
              · refine W.gen fun K83 hK83 => ?_
                refine W.region ?_
                refine WL.vS hS hE (runs_plain rfl) (Gives.fld hE rfl fl45_0) rfl ?_; clear hE a; intro a hE
                refine WL.vS hS hE (runs_plain rfl) (Gives.loadB hE 0 rfl rfl rfl ty3) rfl ?_; clear hE a; intro a hE
                refine WL.vS hS hE (runs_plain rfl) (Gives.p hE rfl) rfl ?_; clear hE a; intro a hE
                refine WL.vS hS hE (runs_plain rfl) (Gives.p hE rfl) rfl ?_; clear hE a; intro a hE
                rcases Bool.eq_false_or_eq_true (x0.Kind == 9) with hg84 | hg84
                · replace hq78 := iteT hg84 hq78
                  refine WL.vS hS hE (runs_if hE rfl rfl rfl hg84) (Gives.fld hE rfl fl45_3) rfl ?_; clear hE a; intro a hE
                  refine WL.vS hS hE (runs_if hE rfl rfl rfl hg84) (Gives.loadB hE 0 rfl rfl rfl ty43) rfl ?_; clear hE a; intro a hE
                  refine WL.vS hS hE (runs_if hE rfl rfl rfl hg84) (Gives.len hE rfl sl43) rfl ?_; clear hE a; intro a hE
                  refine WL.vS hS hE (runs_if hE rfl rfl rfl hg84) (Gives.p hE rfl) rfl ?_; clear hE a; intro a hE
                  refine WL.vS hS hE (runs_plain rfl) (Gives.pickT hE rfl hg84 rfl) rfl ?_; clear hE a; intro a hE
                  refine WL.vS hS hE (runs_plain rfl) (Gives.p hE rfl) rfl ?_; clear hE a; intro a hE
                  rcases Bool.eq_false_or_eq_true (((x0.Kids).length : Int) != 1) with hg85 | hg85
                  · replace hq78 := iteT hg85 hq78
                    refine WL.no hE (runs_not hE rfl rfl rfl (by rw [hg85]; decide)) rfl ?_; clear hE a; intro a hE
                    refine WL.no hE (runs_not hE rfl rfl rfl (by rw [hg85]; decide)) rfl ?_; clear hE a; intro a hE
                    refine WL.no hE (runs_not hE rfl rfl rfl (by rw [hg85]; decide)) rfl ?_; clear hE a; intro a hE
                    refine WL.no hE (runs_not hE rfl rfl rfl (by rw [hg85]; decide)) rfl ?_; clear hE a; intro a hE
                    refine WL.no hE (runs_undef hE rfl rfl rfl) rfl ?_; clear hE a; intro a hE
                    refine WL.no hE (runs_undef hE rfl rfl rfl) rfl ?_; clear hE a; intro a hE
                    refine WL.no hE (runs_undef hE rfl rfl rfl) rfl ?_; clear hE a; intro a hE
                    refine WL.no hE (runs_undef hE rfl rfl rfl) rfl ?_; clear hE a; intro a hE
                    refine WL.no hE (runs_not hE rfl rfl rfl (by rw [hg85]; decide)) rfl ?_; clear hE a; intro a hE
                    refine WL.vS hS hE (runs_plain rfl) (Gives.pickT hE rfl hg85 rfl) rfl ?_; clear hE a; intro a hE
                    refine WL.vS hS hE (runs_plain rfl) (Gives.p hE rfl) rfl ?_; clear hE a; intro a hE
                    refine WL.no hE (runs_not hE rfl rfl rfl (by decide)) rfl ?_; clear hE a; intro a hE
                    refine WL.no hE (runs_not hE rfl rfl rfl (by decide)) rfl ?_; clear hE a; intro a hE
                    refine WL.no hE (runs_not hE rfl rfl rfl (by decide)) rfl ?_; clear hE a; intro a hE
                    refine WL.no hE (runs_not hE rfl rfl rfl (by decide)) rfl ?_; clear hE a; intro a hE
                    refine WL.no hE (runs_undef hE rfl rfl rfl) rfl ?_; clear hE a; intro a hE
                    refine WL.no hE (runs_undef hE rfl rfl rfl) rfl ?_; clear hE a; intro a hE
                    refine WL.no hE (runs_undef hE rfl rfl rfl) rfl ?_; clear hE a; intro a hE
                    refine WL.no hE (runs_undef hE rfl rfl rfl) rfl ?_; clear hE a; intro a hE
                    refine WL.no hE (runs_not hE rfl rfl rfl (by decide)) rfl ?_; clear hE a; intro a hE
                    refine WL.vS hS hE (runs_plain rfl) (Gives.pickT hE rfl rfl rfl) rfl ?_; clear hE a; intro a hE
                    refine WL.vS hS hE (runs_plain rfl) (Gives.p hE rfl) rfl ?_; clear hE a; intro a hE
                    refine WL.nil ?_
                    subst hK83
                    exact ⟨true, hq78, hE.pick _ ⟨rfl, rfl, trivial⟩, hS⟩
                  · replace hq78 := iteF hg85 hq78
                    refine WL.vS hS hE (runs_if hE rfl rfl rfl hg85) (Gives.fld hE rfl fl45_0) rfl ?_; clear hE a; intro a hE
                    refine WL.vS hS hE (runs_if hE rfl rfl rfl hg85) (Gives.loadB hE 0 rfl rfl rfl ty3) rfl ?_; clear hE a; intro a hE
                    refine WL.vS hS hE (runs_if hE rfl rfl rfl hg85) (Gives.p hE rfl) rfl ?_; clear hE a; intro a hE
                    refine WL.vS hS hE (runs_if hE rfl rfl rfl hg85) (Gives.p hE rfl) rfl ?_; clear hE a; intro a hE
                    rcases Bool.eq_false_or_eq_true (decide (x0.Kind > 9)) with hg86 | hg86
                    · replace hq78 := iteT hg86 hq78
                      refine WL.vS hS hE (runs_if hE rfl rfl rfl hg86) (Gives.fld hE rfl fl45_3) rfl ?_; clear hE a; intro a hE
                      refine WL.vS hS hE (runs_if hE rfl rfl rfl hg86) (Gives.loadB hE 0 rfl rfl rfl ty43) rfl ?_; clear hE a; intro a hE
                      refine WL.vS hS hE (runs_if hE rfl rfl rfl hg86) (Gives.len hE rfl sl43) rfl ?_; clear hE a; intro a hE
                      refine WL.vS hS hE (runs_if hE rfl rfl rfl hg86) (Gives.p hE rfl) rfl ?_; clear hE a; intro a hE
                      refine WL.vS hS hE (runs_if hE rfl rfl rfl hg85) (Gives.pickT hE rfl hg86 rfl) rfl ?_; clear hE a; intro a hE
                      refine WL.vS hS hE (runs_plain rfl) (Gives.pickF hE rfl hg85 rfl) rfl ?_; clear hE a; intro a hE
                      refine WL.vS hS hE (runs_plain rfl) (Gives.p hE rfl) rfl ?_; clear hE a; intro a hE
                      rcases Bool.eq_false_or_eq_true (decide (((x0.Kids).length : Int) < 2)) with hg87 | hg87
                      · replace hq78 := iteT hg87 hq78
                        refine WL.no hE (runs_not hE rfl rfl rfl (by rw [hg87]; decide)) rfl ?_; clear hE a; intro a hE
                        refine WL.no hE (runs_not hE rfl rfl rfl (by rw [hg87]; decide)) rfl ?_; clear hE a; intro a hE
                        refine WL.no hE (runs_not hE rfl rfl rfl (by rw [hg87]; decide)) rfl ?_; clear hE a; intro a hE
                        refine WL.no hE (runs_not hE rfl rfl rfl (by rw [hg87]; decide)) rfl ?_; clear hE a; intro a hE
                        refine WL.no hE (runs_undef hE rfl rfl rfl) rfl ?_; clear hE a; intro a hE
                        refine WL.no hE (runs_undef hE rfl rfl rfl) rfl ?_; clear hE a; intro a hE
                        refine WL.no hE (runs_undef hE rfl rfl rfl) rfl ?_; clear hE a; intro a hE
                        refine WL.no hE (runs_undef hE rfl rfl rfl) rfl ?_; clear hE a; intro a hE
                        refine WL.no hE (runs_not hE rfl rfl rfl (by rw [hg87]; decide)) rfl ?_; clear hE a; intro a hE
                        refine WL.vS hS hE (runs_plain rfl) (Gives.pickT hE rfl hg87 rfl) rfl ?_; clear hE a; intro a hE
                        refine WL.vS hS hE (runs_plain rfl) (Gives.p hE rfl) rfl ?_; clear hE a; intro a hE
                        refine WL.nil ?_
                        subst hK83
                        exact ⟨true, hq78, hE.pick _ ⟨rfl, rfl, trivial⟩, hS⟩
                      · replace hq78 := iteF hg87 hq78
                        refine WL.vS hS hE (runs_if hE rfl rfl rfl hg87) (Gives.fld hE rfl fl45_0) rfl ?_; clear hE a; intro a hE
                        refine WL.vS hS hE (runs_if hE rfl rfl rfl hg87) (Gives.loadB hE 0 rfl rfl rfl ty3) rfl ?_; clear hE a; intro a hE
                        refine WL.vS hS hE (runs_if hE rfl rfl rfl hg87) (Gives.p hE rfl) rfl ?_; clear hE a; intro a hE
                        refine WL.vS hS hE (runs_if hE rfl rfl rfl hg87) (Gives.p hE rfl) rfl ?_; clear hE a; intro a hE
                        rcases Bool.eq_false_or_eq_true (decide (x0.Kind < 9)) with hg88 | hg88
                        · replace hq78 := iteT hg88 hq78
                          refine WL.vS hS hE (runs_if hE rfl rfl rfl hg88) (Gives.fld hE rfl fl45_3) rfl ?_; clear hE a; intro a hE
                          refine WL.vS hS hE (runs_if hE rfl rfl rfl hg88) (Gives.loadB hE 0 rfl rfl rfl ty43) rfl ?_; clear hE a; intro a hE
                          refine WL.vS hS hE (runs_if hE rfl rfl rfl hg88) (Gives.len hE rfl sl43) rfl ?_; clear hE a; intro a hE
                          refine WL.vS hS hE (runs_if hE rfl rfl rfl hg88) (Gives.p hE rfl) rfl ?_; clear hE a; intro a hE
                          refine WL.vS hS hE (runs_if hE rfl rfl rfl hg87) (Gives.pickT hE rfl hg88 rfl) rfl ?_; clear hE a; intro a hE
                          refine WL.vS hS hE (runs_plain rfl) (Gives.pickF hE rfl hg87 rfl) rfl ?_; clear hE a; intro a hE
                          refine WL.vS hS hE (runs_plain rfl) (Gives.p hE rfl) rfl ?_; clear hE a; intro a hE
                          refine WL.nil ?_
                          subst hK83
                          exact ⟨decide (((x0.Kids).length : Int) > 0), hq78, hE.pick _ ⟨rfl, rfl, trivial⟩, hS⟩
                        · replace hq78 := iteF hg88 hq78
                          refine WL.no hE (runs_not hE rfl rfl rfl (by rw [hg88]; decide)) rfl ?_; clear hE a; intro a hE
                          refine WL.no hE (runs_not hE rfl rfl rfl (by rw [hg88]; decide)) rfl ?_; clear hE a; intro a hE
                          refine WL.no hE (runs_not hE rfl rfl rfl (by rw [hg88]; decide)) rfl ?_; clear hE a; intro a hE
                          refine WL.no hE (runs_not hE rfl rfl rfl (by rw [hg88]; decide)) rfl ?_; clear hE a; intro a hE
                          refine WL.vS hS hE (runs_if hE rfl rfl rfl hg87) (Gives.pickF hE rfl hg88 rfl) rfl ?_; clear hE a; intro a hE
                          refine WL.vS hS hE (runs_plain rfl) (Gives.pickF hE rfl hg87 rfl) rfl ?_; clear hE a; intro a hE
                          refine WL.vS hS hE (runs_plain rfl) (Gives.p hE rfl) rfl ?_; clear hE a; intro a hE
                          refine WL.nil ?_
                          subst hK83
                          exact ⟨false, hq78, hE.pick _ ⟨rfl, rfl, trivial⟩, hS⟩
                    · replace hq78 := iteF hg86 hq78
                      refine WL.no hE (runs_not hE rfl rfl rfl (by rw [hg86]; decide)) rfl ?_; clear hE a; intro a hE
                      refine WL.no hE (runs_not hE rfl rfl rfl (by rw [hg86]; decide)) rfl ?_; clear hE a; intro a hE
                      refine WL.no hE (runs_not hE rfl rfl rfl (by rw [hg86]; decide)) rfl ?_; clear hE a; intro a hE
                      refine WL.no hE (runs_not hE rfl rfl rfl (by rw [hg86]; decide)) rfl ?_; clear hE a; intro a hE
                      refine WL.vS hS hE (runs_if hE rfl rfl rfl hg85) (Gives.pickF hE rfl hg86 rfl) rfl ?_; clear hE a; intro a hE
                      refine WL.vS hS hE (runs_plain rfl) (Gives.pickF hE rfl hg85 rfl) rfl ?_; clear hE a; intro a hE
                      refine WL.vS hS hE (runs_plain rfl) (Gives.p hE rfl) rfl ?_; clear hE a; intro a hE
                      refine WL.vS hS hE (runs_if hE rfl rfl rfl rfl) (Gives.fld hE rfl fl45_0) rfl ?_; clear hE a; intro a hE
                      refine WL.vS hS hE (runs_if hE rfl rfl rfl rfl) (Gives.loadB hE 0 rfl rfl rfl ty3) rfl ?_; clear hE a; intro a hE
                      refine WL.vS hS hE (runs_if hE rfl rfl rfl rfl) (Gives.p hE rfl) rfl ?_; clear hE a; intro a hE
                      refine WL.vS hS hE (runs_if hE rfl rfl rfl rfl) (Gives.p hE rfl) rfl ?_; clear hE a; intro a hE
                      rcases Bool.eq_false_or_eq_true (decide (x0.Kind < 9)) with hg89 | hg89
                      · replace hq78 := iteT hg89 hq78
                        refine WL.vS hS hE (runs_if hE rfl rfl rfl hg89) (Gives.fld hE rfl fl45_3) rfl ?_; clear hE a; intro a hE
                        refine WL.vS hS hE (runs_if hE rfl rfl rfl hg89) (Gives.loadB hE 0 rfl rfl rfl ty43) rfl ?_; clear hE a; intro a hE
                        refine WL.vS hS hE (runs_if hE rfl rfl rfl hg89) (Gives.len hE rfl sl43) rfl ?_; clear hE a; intro a hE
                        refine WL.vS hS hE (runs_if hE rfl rfl rfl hg89) (Gives.p hE rfl) rfl ?_; clear hE a; intro a hE
                        refine WL.vS hS hE (runs_if hE rfl rfl rfl rfl) (Gives.pickT hE rfl hg89 rfl) rfl ?_; clear hE a; intro a hE
                        refine WL.vS hS hE (runs_plain rfl) (Gives.pickF hE rfl rfl rfl) rfl ?_; clear hE a; intro a hE
                        refine WL.vS hS hE (runs_plain rfl) (Gives.p hE rfl) rfl ?_; clear hE a; intro a hE
                        refine WL.nil ?_
                        subst hK83
                        exact ⟨decide (((x0.Kids).length : Int) > 0), hq78, hE.pick _ ⟨rfl, rfl, trivial⟩, hS⟩
                      · replace hq78 := iteF hg89 hq78
                        refine WL.no hE (runs_not hE rfl rfl rfl (by rw [hg89]; decide)) rfl ?_; clear hE a; intro a hE
                        refine WL.no hE (runs_not hE rfl rfl rfl (by rw [hg89]; decide)) rfl ?_; clear hE a; intro a hE
                        refine WL.no hE (runs_not hE rfl rfl rfl (by rw [hg89]; decide)) rfl ?_; clear hE a; intro a hE
                        refine WL.no hE (runs_not hE rfl rfl rfl (by rw [hg89]; decide)) rfl ?_; clear hE a; intro a hE
                        refine WL.vS hS hE (runs_if hE rfl rfl rfl rfl) (Gives.pickF hE rfl hg89 rfl) rfl ?_; clear hE a; intro a hE
                        refine WL.vS hS hE (runs_plain rfl) (Gives.pickF hE rfl rfl rfl) rfl ?_; clear hE a; intro a hE
                        refine WL.vS hS hE (runs_plain rfl) (Gives.p hE rfl) rfl ?_; clear hE a; intro a hE
                        refine WL.nil ?_
                        subst hK83
                        exact ⟨false, hq78, hE.pick _ ⟨rfl, rfl, trivial⟩, hS⟩
                · replace hq78 := iteF hg84 hq78
                  refine WL.no hE (runs_not hE rfl rfl rfl (by rw [hg84]; decide)) rfl ?_; clear hE a; intro a hE
                  refine WL.no hE (runs_not hE rfl rfl rfl (by rw [hg84]; decide)) rfl ?_; clear hE a; intro a hE
                  refine WL.no hE (runs_not hE rfl rfl rfl (by rw [hg84]; decide)) rfl ?_; clear hE a; intro a hE
                  refine WL.no hE (runs_not hE rfl rfl rfl (by rw [hg84]; decide)) rfl ?_; clear hE a; intro a hE
                  refine WL.vS hS hE (runs_plain rfl) (Gives.pickF hE rfl hg84 rfl) rfl ?_; clear hE a; intro a hE
                  refine WL.vS hS hE (runs_plain rfl) (Gives.p hE rfl) rfl ?_; clear hE a; intro a hE
                  refine WL.vS hS hE (runs_if hE rfl rfl rfl rfl) (Gives.fld hE rfl fl45_0) rfl ?_; clear hE a; intro a hE
                  refine WL.vS hS hE (runs_if hE rfl rfl rfl rfl) (Gives.loadB hE 0 rfl rfl rfl ty3) rfl ?_; clear hE a; intro a hE
                  refine WL.vS hS hE (runs_if hE rfl rfl rfl rfl) (Gives.p hE rfl) rfl ?_; clear hE a; intro a hE
                  refine WL.vS hS hE (runs_if hE rfl rfl rfl rfl) (Gives.p hE rfl) rfl ?_; clear hE a; intro a hE
                  rcases Bool.eq_false_or_eq_true (decide (x0.Kind > 9)) with hg90 | hg90
                  · replace hq78 := iteT hg90 hq78
                    refine WL.vS hS hE (runs_if hE rfl rfl rfl hg90) (Gives.fld hE rfl fl45_3) rfl ?_; clear hE a; intro a hE
                    refine WL.vS hS hE (runs_if hE rfl rfl rfl hg90) (Gives.loadB hE 0 rfl rfl rfl ty43) rfl ?_; clear hE a; intro a hE
                    refine WL.vS hS hE (runs_if hE rfl rfl rfl hg90) (Gives.len hE rfl sl43) rfl ?_; clear hE a; intro a hE
                    refine WL.vS hS hE (runs_if hE rfl rfl rfl hg90) (Gives.p hE rfl) rfl ?_; clear hE a; intro a hE
                    refine WL.vS hS hE (runs_if hE rfl rfl rfl rfl) (Gives.pickT hE rfl hg90 rfl) rfl ?_; clear hE a; intro a hE
                    refine WL.vS hS hE (runs_plain rfl) (Gives.pickF hE rfl rfl rfl) rfl ?_; clear hE a; intro a hE
                    refine WL.vS hS hE (runs_plain rfl) (Gives.p hE rfl) rfl ?_; clear hE a; intro a hE
                    rcases Bool.eq_false_or_eq_true (decide (((x0.Kids).length : Int) < 2)) with hg91 | hg91
                    · replace hq78 := iteT hg91 hq78
                      refine WL.no hE (runs_not hE rfl rfl rfl (by rw [hg91]; decide)) rfl ?_; clear hE a; intro a hE
                      refine WL.no hE (runs_not hE rfl rfl rfl (by rw [hg91]; decide)) rfl ?_; clear hE a; intro a hE
                      refine WL.no hE (runs_not hE rfl rfl rfl (by rw [hg91]; decide)) rfl ?_; clear hE a; intro a hE
                      refine WL.no hE (runs_not hE rfl rfl rfl (by rw [hg91]; decide)) rfl ?_; clear hE a; intro a hE
                      refine WL.no hE (runs_undef hE rfl rfl rfl) rfl ?_; clear hE a; intro a hE
                      refine WL.no hE (runs_undef hE rfl rfl rfl) rfl ?_; clear hE a; intro a hE
                      refine WL.no hE (runs_undef hE rfl rfl rfl) rfl ?_; clear hE a; intro a hE
                      refine WL.no hE (runs_undef hE rfl rfl rfl) rfl ?_; clear hE a; intro a hE
                      refine WL.no hE (runs_not hE rfl rfl rfl (by rw [hg91]; decide)) rfl ?_; clear hE a; intro a hE
                      refine WL.vS hS hE (runs_plain rfl) (Gives.pickT hE rfl hg91 rfl) rfl ?_; clear hE a; intro a hE
                      refine WL.vS hS hE (runs_plain rfl) (Gives.p hE rfl) rfl ?_; clear hE a; intro a hE
                      refine WL.nil ?_
                      subst hK83
                      exact ⟨true, hq78, hE.pick _ ⟨rfl, rfl, trivial⟩, hS⟩
                    · replace hq78 := iteF hg91 hq78
                      refine WL.vS hS hE (runs_if hE rfl rfl rfl hg91) (Gives.fld hE rfl fl45_0) rfl ?_; clear hE a; intro a hE
                      refine WL.vS hS hE (runs_if hE rfl rfl rfl hg91) (Gives.loadB hE 0 rfl rfl rfl ty3) rfl ?_; clear hE a; intro a hE
                      refine WL.vS hS hE (runs_if hE rfl rfl rfl hg91) (Gives.p hE rfl) rfl ?_; clear hE a; intro a hE
                      refine WL.vS hS hE (runs_if hE rfl rfl rfl hg91) (Gives.p hE rfl) rfl ?_; clear hE a; intro a hE
                      rcases Bool.eq_false_or_eq_true (decide (x0.Kind < 9)) with hg92 | hg92
                      · replace hq78 := iteT hg92 hq78
                        refine WL.vS hS hE (runs_if hE rfl rfl rfl hg92) (Gives.fld hE rfl fl45_3) rfl ?_; clear hE a; intro a hE
                        refine WL.vS hS hE (runs_if hE rfl rfl rfl hg92) (Gives.loadB hE 0 rfl rfl rfl ty43) rfl ?_; clear hE a; intro a hE
                        refine WL.vS hS hE (runs_if hE rfl rfl rfl hg92) (Gives.len hE rfl sl43) rfl ?_; clear hE a; intro a hE
                        refine WL.vS hS hE (runs_if hE rfl rfl rfl hg92) (Gives.p hE rfl) rfl ?_; clear hE a; intro a hE
                        refine WL.vS hS hE (runs_if hE rfl rfl rfl hg91) (Gives.pickT hE rfl hg92 rfl) rfl ?_; clear hE a; intro a hE
                        refine WL.vS hS hE (runs_plain rfl) (Gives.pickF hE rfl hg91 rfl) rfl ?_; clear hE a; intro a hE
                        refine WL.vS hS hE (runs_plain rfl) (Gives.p hE rfl) rfl ?_; clear hE a; intro a hE
                        refine WL.nil ?_
                        subst hK83
                        exact ⟨decide (((x0.Kids).length : Int) > 0), hq78, hE.pick _ ⟨rfl, rfl, trivial⟩, hS⟩
                      · replace hq78 := iteF hg92 hq78
                        refine WL.no hE (runs_not hE rfl rfl rfl (by rw [hg92]; decide)) rfl ?_; clear hE a; intro a hE
                        refine WL.no hE (runs_not hE rfl rfl rfl (by rw [hg92]; decide)) rfl ?_; clear hE a; intro a hE
                        refine WL.no hE (runs_not hE rfl rfl rfl (by rw [hg92]; decide)) rfl ?_; clear hE a; intro a hE
                        refine WL.no hE (runs_not hE rfl rfl rfl (by rw [hg92]; decide)) rfl ?_; clear hE a; intro a hE
                        refine WL.vS hS hE (runs_if hE rfl rfl rfl hg91) (Gives.pickF hE rfl hg92 rfl) rfl ?_; clear hE a; intro a hE
                        refine WL.vS hS hE (runs_plain rfl) (Gives.pickF hE rfl hg91 rfl) rfl ?_; clear hE a; intro a hE
                        refine WL.vS hS hE (runs_plain rfl) (Gives.p hE rfl) rfl ?_; clear hE a; intro a hE
                        refine WL.nil ?_
                        subst hK83
                        exact ⟨false, hq78, hE.pick _ ⟨rfl, rfl, trivial⟩, hS⟩
                  · replace hq78 := iteF hg90 hq78
                    refine WL.no hE (runs_not hE rfl rfl rfl (by rw [hg90]; decide)) rfl ?_; clear hE a; intro a hE
                    refine WL.no hE (runs_not hE rfl rfl rfl (by rw [hg90]; decide)) rfl ?_; clear hE a; intro a hE
                    refine WL.no hE (runs_not hE rfl rfl rfl (by rw [hg90]; decide)) rfl ?_; clear hE a; intro a hE
                    refine WL.no hE (runs_not hE rfl rfl rfl (by rw [hg90]; decide)) rfl ?_; clear hE a; intro a hE
                    refine WL.vS hS hE (runs_if hE rfl rfl rfl rfl) (Gives.pickF hE rfl hg90 rfl) rfl ?_; clear hE a; intro a hE
                    refine WL.vS hS hE (runs_plain rfl) (Gives.pickF hE rfl rfl rfl) rfl ?_; clear hE a; intro a hE
                    refine WL.vS hS hE (runs_plain rfl) (Gives.p hE rfl) rfl ?_; clear hE a; intro a hE
                    refine WL.vS hS hE (runs_if hE rfl rfl rfl rfl) (Gives.fld hE rfl fl45_0) rfl ?_; clear hE a; intro a hE
                    refine WL.vS hS hE (runs_if hE rfl rfl rfl rfl) (Gives.loadB hE 0 rfl rfl rfl ty3) rfl ?_; clear hE a; intro a hE
                    refine WL.vS hS hE (runs_if hE rfl rfl rfl rfl) (Gives.p hE rfl) rfl ?_; clear hE a; intro a hE
                    refine WL.vS hS hE (runs_if hE rfl rfl rfl rfl) (Gives.p hE rfl) rfl ?_; clear hE a; intro a hE
                    rcases Bool.eq_false_or_eq_true (decide (x0.Kind < 9)) with hg93 | hg93
                    · replace hq78 := iteT hg93 hq78
                      refine WL.vS hS hE (runs_if hE rfl rfl rfl hg93) (Gives.fld hE rfl fl45_3) rfl ?_; clear hE a; intro a hE
                      refine WL.vS hS hE (runs_if hE rfl rfl rfl hg93) (Gives.loadB hE 0 rfl rfl rfl ty43) rfl ?_; clear hE a; intro a hE
                      refine WL.vS hS hE (runs_if hE rfl rfl rfl hg93) (Gives.len hE rfl sl43) rfl ?_; clear hE a; intro a hE
                      refine WL.vS hS hE (runs_if hE rfl rfl rfl hg93) (Gives.p hE rfl) rfl ?_; clear hE a; intro a hE
                      refine WL.vS hS hE (runs_if hE rfl rfl rfl rfl) (Gives.pickT hE rfl hg93 rfl) rfl ?_; clear hE a; intro a hE
                      refine WL.vS hS hE (runs_plain rfl) (Gives.pickF hE rfl rfl rfl) rfl ?_; clear hE a; intro a hE
                      refine WL.vS hS hE (runs_plain rfl) (Gives.p hE rfl) rfl ?_; clear hE a; intro a hE
                      refine WL.nil ?_
                      subst hK83
                      exact ⟨decide (((x0.Kids).length : Int) > 0), hq78, hE.pick _ ⟨rfl, rfl, trivial⟩, hS⟩
                    · replace hq78 := iteF hg93 hq78
                      refine WL.no hE (runs_not hE rfl rfl rfl (by rw [hg93]; decide)) rfl ?_; clear hE a; intro a hE
                      refine WL.no hE (runs_not hE rfl rfl rfl (by rw [hg93]; decide)) rfl ?_; clear hE a; intro a hE
                      refine WL.no hE (runs_not hE rfl rfl rfl (by rw [hg93]; decide)) rfl ?_; clear hE a; intro a hE
                      refine WL.no hE (runs_not hE rfl rfl rfl (by rw [hg93]; decide)) rfl ?_; clear hE a; intro a hE
                      refine WL.vS hS hE (runs_if hE rfl rfl rfl rfl) (Gives.pickF hE rfl hg93 rfl) rfl ?_; clear hE a; intro a hE
                      refine WL.vS hS hE (runs_plain rfl) (Gives.pickF hE rfl rfl rfl) rfl ?_; clear hE a; intro a hE
                      refine WL.vS hS hE (runs_plain rfl) (Gives.p hE rfl) rfl ?_; clear hE a; intro a hE
                      refine WL.nil ?_
                      subst hK83
                      exact ⟨false, hq78, hE.pick _ ⟨rfl, rfl, trivial⟩, hS⟩
              · clear hE hS a w; rintro a w ⟨q82, rfl, hE, hS⟩
                refine W.cond hE rfl (fun hc94 => ?_) (fun hc94 => ?_)
                · replace hr := iteT hc94 hr
                  refine W.seq ?_
                  refine W.region ?_
                  refine WL.vS hS hE (runs_plain rfl) (Gives.p hE rfl) rfl ?_; clear hE a; intro a hE
                  refine WL.nil ?_
                  refine W.ret ?_
                  refine finG (fn := Try.f48) (rs := [.tmp 2]) (vs := [_]) hE rfl ⟨rfl, trivial⟩ ?_
                  obtain rfl := Option.some.inj hr
                  replace hS := hS.tail
                  exact ⟨rfl, hS⟩
                · replace hr := iteF hc94 hr
                  refine W.skip ?_
                  refine W.seq ?_
                  refine W.seq ?_
                  refine W.region ?_
                  refine WL.vS hS hE (runs_plain rfl) (Gives.fld hE rfl fl45_3) rfl ?_; clear hE a; intro a hE
                  refine WL.vS hS hE (runs_plain rfl) (Gives.loadB hE 0 rfl rfl rfl ty43) rfl ?_; clear hE a; intro a hE
                  refine WL.vS hS hE (runs_plain rfl) (Gives.len hE rfl sl43) rfl ?_; clear hE a; intro a hE
                  refine WL.vS hS hE (runs_plain rfl) (Gives.p hE rfl) rfl ?_; clear hE a; intro a hE
                  refine WL.nil ?_
                  obtain ⟨q96, hq95, hr⟩ := bindS hr
                  refine W.cut (fun a w => (.next ()) = q96 ∧ Rep a 99 [] ∧ St w s (pt b51 (.cells #[.int .i64 x0.Kind, .int .i64 x0.A, .int .i64 x0.B, .slice a0_0 x0.Kids.length c0_0] 45 (0, 0)) :: R)) ?_ ?_
                  · refine W.block ?_
                    refine W.loop (fun m a w => ∃ (rest99 : List FareCond) (k97 : Nat), rest99.length = m ∧ x0.Kids.drop k97 = rest99 ∧ FareCondnode.loop1 self_FareCondnode rest99 = some q96 ∧ Rep a 99 [(87, .slice a0_0 x0.Kids.length c0_0), (88, .int .i64 ((x0.Kids).length : Int)), (89, .int .i64 ((k97 : Nat) : Int))] ∧ St w s (pt b51 (.cells #[.int .i64 x0.Kind, .int .i64 x0.A, .int .i64 x0.B, .slice a0_0 x0.Kids.length c0_0] 45 (0, 0)) :: R)) (m := x0.Kids.length) ⟨x0.Kids, 0, rfl, rfl, hq95, hE.pick _ ⟨rfl, rfl, rfl, trivial⟩, hS⟩ ?_
                    clear hE hS a w hq95; rintro m103 a w ⟨rest99, k97, rfl, hd100, hq95, hE, hS⟩
                    refine W.gen fun K106 hK106 => ?_
                    rcases rest99 with _ | ⟨x98, rest99⟩
                    · have hlt101 := drop_nil hd100
                      refine W.seq ?_
                      refine W.region ?_
                      refine WL.vS hS hE (runs_plain rfl) (Gives.p hE rfl) rfl ?_; clear hE a; intro a hE
                      refine WL.nil ?_
                      refine W.seq ?_
                      refine W.condF hE rfl (decide_eq_false (by omega)) ?_
                      subst hK106
                      refine W.exit rfl ?_
                      exact ⟨Option.some.inj hq95, hE.pick _ trivial, hS⟩
                    · obtain ⟨hlt101, hx102, hd100⟩ := drop_cons hd100
                      rw [FareCondnode.loop1] at hq95
                      refine W.seq ?_
                      refine W.region ?_
                      refine WL.vS hS hE (runs_plain rfl) (Gives.p hE rfl) rfl ?_; clear hE a; intro a hE
                      refine WL.nil ?_
                      refine W.seq ?_
                      refine W.condT hE rfl (decide_eq_true (by omega)) ?_
                      refine W.skip ?_
                      refine W.seq ?_
                      refine W.block ?_
                      refine W.seq ?_
                      refine W.region ?_
                      obtain ⟨cs107, hl108, hR109, hat110⟩ := h0_0.at hx102
                      obtain ⟨a111, c112, rfl, h113⟩ := hR109.unf
                      refine WL.vS hS hE (runs_plain rfl) (Gives.idx hE k97 rfl rfl sl43 rfl hlt101 (h0_0.aok hlt101)) rfl ?_; clear hE a; intro a hE
                      refine WL.vS hS hE (runs_plain rfl) (Gives.loadA hE rfl (fun w h => hat110 w _ h) ty45) rfl ?_; clear hE a; intro a hE
                      refine WL.alloc hE hS (runs_plain rfl) zr45 rfl ?_; clear hE hS a w; intro b114 a w hE hS
                      refine WL.storeI hE hS 0 rfl [.int .i64 x98.Kind, .int .i64 x98.A, .int .i64 x98.B, .slice a111 x98.Kids.length c112] (runs_plain rfl) rfl rfl rfl ty45 rfl rfl rfl rfl ?_; clear hE hS a w; intro a w hE hS
                      refine WL.nil ?_
                      refine W.seq ?_
                      refine W.region ?_
                      refine WL.vS hS hE (runs_plain rfl) (Gives.loadBA hE 0 rfl rfl ty45) rfl ?_; clear hE a; intro a hE
                      obtain ⟨q115, hq116, hq95⟩ := bindS hq95
                      have hc_ := ih_FareCondnode hS h113 hq116
                      refine WL.fnq hE (hc_) (runs_plain rfl) bd48 rfl rfl rfl ?_
                      clear hE hS hc_; rintro e w ⟨rfl, hS⟩; refine ⟨_, rfl, ?_⟩; clear a; intro a hE
                      refine WL.vS hS hE (runs_plain rfl) (Gives.p hE rfl) rfl ?_; clear hE a; intro a hE
                      refine WL.nil ?_
                      refine W.seq ?_
                      refine W.region ?_
                      refine WL.vS hS hE (runs_plain rfl) (Gives.p hE rfl) rfl ?_; clear hE a; intro a hE
                      refine WL.vS hS hE (runs_plain rfl) (Gives.p hE rfl) rfl ?_; clear hE a; intro a hE
                      refine WL.nil ?_
                      refine W.cond hE rfl (fun hc117 => ?_) (fun hc117 => ?_)
                      · replace hq95 := iteT hc117 hq95
                        refine W.seq ?_
                        refine W.region ?_
                        refine WL.vS hS hE (runs_plain rfl) (Gives.p hE rfl) rfl ?_; clear hE a; intro a hE
                        refine WL.vS hS hE (runs_plain rfl) (Gives.p hE rfl) rfl ?_; clear hE a; intro a hE
                        refine WL.nil ?_
                        refine W.ret ?_
                        subst hK106
                        rw [← Option.some.inj hq95] at hr
                        dsimp only at hr
                        refine finG (fn := Try.f48) (rs := [.tmp 2]) (vs := [_]) hE rfl ⟨rfl, trivial⟩ ?_
                        obtain rfl := Option.some.inj hr
                        replace hS := hS.tail
                        replace hS := hS.tail
                        exact ⟨rfl, hS⟩
                      · replace hq95 := iteF hc117 hq95
                        refine W.skip ?_
                        refine W.region ?_
                        refine WL.vS hS hE (runs_plain rfl) (Gives.inc hE rfl (by have := h0_0.small; omega)) rfl ?_; clear hE a; intro a hE
                        refine WL.vS hS hE (runs_plain rfl) (Gives.p hE rfl) rfl ?_; clear hE a; intro a hE
                        refine WL.nil ?_
                        replace hS := hS.tail
                        subst hK106
                        exact ⟨rest99.length, Nat.lt_succ_self _, rest99, k97 + 1, rfl, hd100, hq95, hE.pick _ ⟨rfl, rfl, rfl, trivial⟩, hS⟩
                  · clear hE hS a w; rintro a w ⟨rfl, hE, hS⟩
                    dsimp only at hr
                    refine W.seq ?_
                    refine W.region ?_
                    refine WL.vS hS hE (runs_plain rfl) (Gives.p hE rfl) rfl ?_; clear hE a; intro a hE
                    refine WL.nil ?_
                    refine W.ret ?_
                    refine finG (fn := Try.f48) (rs := [.tmp 2]) (vs := [_]) hE rfl ⟨rfl, trivial⟩ ?_
                    obtain rfl := Option.some.inj hr
                    replace hS := hS.tail
                    exact ⟨rfl, hS⟩
set_option maxHeartbeats 8000000 in
theorem FareCondcheck_ok {fu : Nat}  {w : World} {s : Sg} {R : List HP} {x0 : FareCond} {a0_0 : Option Addr} {c0_0 : Nat} (hS : St w s (R)) (h0_0 : Sl 4 RFareCond s a0_0 c0_0 x0.Kids) {r : Int} (hr : FareCondcheck fu x0 = some r) :
    Calls Try.prog 30 [.agg (List.toArray [.int .i64 x0.Kind, .int .i64 x0.A, .int .i64 x0.B, .slice a0_0 x0.Kids.length c0_0])].toArray w (fun e w => e = .returned (.int .i64 r) ∧ St w s (R)) := by
  refine enter Try.func30 rfl rfl rfl fun a hE => ?_
  rw [FareCondcheck] at hr
  refine W.seq ?_
  refine W.region ?_
  refine WL.box hE hS (runs_plain rfl) rfl rfl rfl ?_; clear hE hS a w; intro b51 a w hE hS
  refine WL.vS hS hE (runs_plain rfl) (Gives.p hE rfl) rfl ?_; clear hE a; intro a hE
  refine WL.nil ?_
  refine W.seq ?_
  refine W.seq ?_
  refine W.region ?_
  refine WL.vS hS hE (runs_plain rfl) (Gives.loadBA hE 0 rfl rfl ty45) rfl ?_; clear hE a; intro a hE
  obtain ⟨q52, hq53, hr⟩ := bindS hr
  have hc_ := FareCondsize_ok hS h0_0 hq53
  refine WL.fnq hE (hc_) (runs_plain rfl) bd47 rfl rfl rfl ?_
  clear hE hS hc_; rintro e w ⟨rfl, hS⟩; refine ⟨_, rfl, ?_⟩; clear a; intro a hE
  refine WL.vS hS hE (runs_plain rfl) (Gives.p hE rfl) rfl ?_; clear hE a; intro a hE
  refine WL.vS hS hE (runs_plain rfl) (Gives.p hE rfl) rfl ?_; clear hE a; intro a hE
  refine WL.vS hS hE (runs_plain rfl) (Gives.p hE rfl) rfl ?_; clear hE a; intro a hE
  refine WL.vS hS hE (runs_plain rfl) (Gives.p hE rfl) rfl ?_; clear hE a; intro a hE
  refine WL.vS hS hE (runs_plain rfl) (Gives.p hE rfl) rfl ?_; clear hE a; intro a hE
  refine WL.nil ?_
  refine W.seq ?_
  obtain ⟨q55, hq54, hr⟩ := bndS hr
  refine W.cut (fun a w => ∃ (q58 : Bool), q58 = q55 ∧ Rep a 18 [(1, .pointer (some ⟨b51, 0, none⟩)), (15, .bool q58)] ∧ St w s (pt b51 (.cells #[.int .i64 x0.Kind, .int .i64 x0.A, .int .i64 x0.B, .slice a0_0 x0.Kids.length c0_0] 45 (0, 0)) :: R)) ?_ ?_
  · refine W.gen fun K59 hK59 => ?_
    refine W.region ?_
    refine WL.vS hS hE (runs_plain rfl) (Gives.p hE rfl) rfl ?_; clear hE a; intro a hE
    refine WL.vS hS hE (runs_plain rfl) (Gives.p hE rfl) rfl ?_; clear hE a; intro a hE
    refine WL.vS hS hE (runs_plain rfl) (Gives.p hE rfl) rfl ?_; clear hE a; intro a hE
    rcases Bool.eq_false_or_eq_true (decide (q52.1 > 40)) with hg60 | hg60
    · replace hq54 := iteT hg60 hq54
      refine WL.no hE (runs_not hE rfl rfl rfl (by rw [hg60]; decide)) rfl ?_; clear hE a; intro a hE
      refine WL.no hE (runs_not hE rfl rfl rfl (by rw [hg60]; decide)) rfl ?_; clear hE a; intro a hE
      refine WL.vS hS hE (runs_plain rfl) (Gives.pickT hE rfl hg60 rfl) rfl ?_; clear hE a; intro a hE
      refine WL.nil ?_
      subst hK59
      exact ⟨true, hq54, hE.pick _ ⟨rfl, rfl, trivial⟩, hS⟩
    · replace hq54 := iteF hg60 hq54
      refine WL.vS hS hE (runs_if hE rfl rfl rfl hg60) (Gives.p hE rfl) rfl ?_; clear hE a; intro a hE
      refine WL.vS hS hE (runs_if hE rfl rfl rfl hg60) (Gives.p hE rfl) rfl ?_; clear hE a; intro a hE
      refine WL.vS hS hE (runs_plain rfl) (Gives.pickF hE rfl hg60 rfl) rfl ?_; clear hE a; intro a hE
      refine WL.nil ?_
      subst hK59
      exact ⟨decide (q52.2 > 6), hq54, hE.pick _ ⟨rfl, rfl, trivial⟩, hS⟩
  · clear hE hS a w; rintro a w ⟨q58, rfl, hE, hS⟩
    refine W.cond hE rfl (fun hc61 => ?_) (fun hc61 => ?_)
    · replace hr := iteT hc61 hr
      refine W.seq ?_
      refine W.region ?_
      refine WL.vS hS hE (runs_plain rfl) (Gives.p hE rfl) rfl ?_; clear hE a; intro a hE
      refine WL.nil ?_
      refine W.ret ?_
      refine finG (fn := Try.f30) (rs := [.tmp 2]) (vs := [_]) hE rfl ⟨rfl, trivial⟩ ?_
      obtain rfl := Option.some.inj hr
      replace hS := hS.tail
      exact ⟨rfl, hS⟩
    · replace hr := iteF hc61 hr
      refine W.skip ?_
      refine W.seq ?_
      refine W.region ?_
      refine WL.vS hS hE (runs_plain rfl) (Gives.loadBA hE 0 rfl rfl ty45) rfl ?_; clear hE a; intro a hE
      obtain ⟨q62, hq63, hr⟩ := bindS hr
      have hc_ := FareCondnode_ok hS h0_0 hq63
      refine WL.fnq hE (hc_) (runs_plain rfl) bd48 rfl rfl rfl ?_
      clear hE hS hc_; rintro e w ⟨rfl, hS⟩; refine ⟨_, rfl, ?_⟩; clear a; intro a hE
      refine WL.vS hS hE (runs_plain rfl) (Gives.p hE rfl) rfl ?_; clear hE a; intro a hE
      refine WL.nil ?_
      refine W.ret ?_
      refine finG (fn := Try.f30) (rs := [.tmp 2]) (vs := [_]) hE rfl ⟨rfl, trivial⟩ ?_
      obtain rfl := Option.some.inj hr
      replace hS := hS.tail
      exact ⟨rfl, hS⟩
end Go.Proofs.Ytckhpgbcajnpnaa
