/- The walks of the functions that FareOpens reaches: each call comes to what its mirror says. The conditions are those of each contract. -/
import Derived.Test.YtledekclojpbbaaDoorProg
import Derived.Test.YtledekclojpbbaaDoorFareOpensM
import Derived.Test.YtledekclojpbbaaDoorFpAllT
import Derived.Test.YtledekclojpbbaaDoorFareOpensS
import Derived.Test.YtledekclojpbbaaDoorFpErr
import Derived.Test.YtledekclojpbbaaDoorFpPan
set_option maxRecDepth 10000
namespace Go.Proofs.YtledekclojpbbaaDoor
open Go Go.Fp
theorem ap23 : apOk Tryd.prog 23 3 1 = true := by kernel_rfl
theorem bd104 : bodied Tryd.prog 104 = true := by kernel_rfl
theorem bd105 : bodied Tryd.prog 105 = true := by kernel_rfl
theorem bd106 : bodied Tryd.prog 106 = true := by kernel_rfl
theorem bd107 : bodied Tryd.prog 107 = true := by kernel_rfl
theorem bd108 : bodied Tryd.prog 108 = true := by kernel_rfl
theorem bd11 : bodied Tryd.prog 11 = true := by kernel_rfl
theorem bd134 : bodied Tryd.prog 134 = true := by kernel_rfl
theorem bd135 : bodied Tryd.prog 135 = true := by kernel_rfl
theorem bd136 : bodied Tryd.prog 136 = true := by kernel_rfl
theorem bd137 : bodied Tryd.prog 137 = true := by kernel_rfl
theorem bd138 : bodied Tryd.prog 138 = true := by kernel_rfl
theorem bd139 : bodied Tryd.prog 139 = true := by kernel_rfl
theorem bd158 : bodied Tryd.prog 158 = true := by kernel_rfl
theorem bd159 : bodied Tryd.prog 159 = true := by kernel_rfl
theorem bd18 : bodied Tryd.prog 18 = true := by kernel_rfl
theorem bd19 : bodied Tryd.prog 19 = true := by kernel_rfl
theorem bd20 : bodied Tryd.prog 20 = true := by kernel_rfl
theorem bd21 : bodied Tryd.prog 21 = true := by kernel_rfl
theorem bd30 : bodied Tryd.prog 30 = true := by kernel_rfl
theorem bd43 : bodied Tryd.prog 43 = true := by kernel_rfl
theorem bd49 : bodied Tryd.prog 49 = true := by kernel_rfl
theorem bd50 : bodied Tryd.prog 50 = true := by kernel_rfl
theorem bd51 : bodied Tryd.prog 51 = true := by kernel_rfl
theorem bd52 : bodied Tryd.prog 52 = true := by kernel_rfl
theorem bd53 : bodied Tryd.prog 53 = true := by kernel_rfl
theorem bd54 : bodied Tryd.prog 54 = true := by kernel_rfl
theorem bd55 : bodied Tryd.prog 55 = true := by kernel_rfl
theorem bd56 : bodied Tryd.prog 56 = true := by kernel_rfl
theorem bd57 : bodied Tryd.prog 57 = true := by kernel_rfl
theorem bd58 : bodied Tryd.prog 58 = true := by kernel_rfl
theorem bd59 : bodied Tryd.prog 59 = true := by kernel_rfl
theorem bd60 : bodied Tryd.prog 60 = true := by kernel_rfl
theorem bd63 : bodied Tryd.prog 63 = true := by kernel_rfl
theorem bd64 : bodied Tryd.prog 64 = true := by kernel_rfl
theorem bd75 : bodied Tryd.prog 75 = true := by kernel_rfl
theorem bd76 : bodied Tryd.prog 76 = true := by kernel_rfl
theorem bd77 : bodied Tryd.prog 77 = true := by kernel_rfl
theorem bd78 : bodied Tryd.prog 78 = true := by kernel_rfl
theorem bd79 : bodied Tryd.prog 79 = true := by kernel_rfl
theorem bd80 : bodied Tryd.prog 80 = true := by kernel_rfl
theorem bd81 : bodied Tryd.prog 81 = true := by kernel_rfl
theorem bd83 : bodied Tryd.prog 83 = true := by kernel_rfl
theorem bd84 : bodied Tryd.prog 84 = true := by kernel_rfl
theorem bd85 : bodied Tryd.prog 85 = true := by kernel_rfl
theorem bd86 : bodied Tryd.prog 86 = true := by kernel_rfl
theorem bd87 : bodied Tryd.prog 87 = true := by kernel_rfl
theorem bd88 : bodied Tryd.prog 88 = true := by kernel_rfl
theorem bd90 : bodied Tryd.prog 90 = true := by kernel_rfl
theorem bd97 : bodied Tryd.prog 97 = true := by kernel_rfl
theorem fl114_0 : fldOk Tryd.prog 114 0 0 = true := by kernel_rfl
theorem fl114_1 : fldOk Tryd.prog 114 1 1 = true := by kernel_rfl
theorem fl118_0 : fldOk Tryd.prog 118 0 0 = true := by kernel_rfl
theorem fl118_1 : fldOk Tryd.prog 118 1 1 = true := by kernel_rfl
theorem fl118_2 : fldOk Tryd.prog 118 2 2 = true := by kernel_rfl
theorem fl118_3 : fldOk Tryd.prog 118 3 3 = true := by kernel_rfl
theorem fl120_0 : fldOk Tryd.prog 120 0 0 = true := by kernel_rfl
theorem fl120_1 : fldOk Tryd.prog 120 1 4 = true := by kernel_rfl
theorem fl120_2 : fldOk Tryd.prog 120 2 5 = true := by kernel_rfl
theorem fl120_3 : fldOk Tryd.prog 120 3 6 = true := by kernel_rfl
theorem fl123_0 : fldOk Tryd.prog 123 0 0 = true := by kernel_rfl
theorem fl123_1 : fldOk Tryd.prog 123 1 1 = true := by kernel_rfl
theorem fl123_2 : fldOk Tryd.prog 123 2 2 = true := by kernel_rfl
theorem fl123_3 : fldOk Tryd.prog 123 3 3 = true := by kernel_rfl
theorem fl127_0 : fldOk Tryd.prog 127 0 0 = true := by kernel_rfl
theorem fl127_1 : fldOk Tryd.prog 127 1 1 = true := by kernel_rfl
theorem fl127_2 : fldOk Tryd.prog 127 2 2 = true := by kernel_rfl
theorem fl127_3 : fldOk Tryd.prog 127 3 3 = true := by kernel_rfl
theorem fl127_4 : fldOk Tryd.prog 127 4 4 = true := by kernel_rfl
theorem fl127_5 : fldOk Tryd.prog 127 5 5 = true := by kernel_rfl
theorem fl44_0 : fldOk Tryd.prog 44 0 0 = true := by kernel_rfl
theorem fl44_1 : fldOk Tryd.prog 44 1 1 = true := by kernel_rfl
theorem fl44_2 : fldOk Tryd.prog 44 2 2 = true := by kernel_rfl
theorem fl46_0 : fldOk Tryd.prog 46 0 0 = true := by kernel_rfl
theorem fl46_1 : fldOk Tryd.prog 46 1 1 = true := by kernel_rfl
theorem fl46_2 : fldOk Tryd.prog 46 2 2 = true := by kernel_rfl
theorem fl46_3 : fldOk Tryd.prog 46 3 3 = true := by kernel_rfl
theorem fl46_4 : fldOk Tryd.prog 46 4 4 = true := by kernel_rfl
theorem fl46_5 : fldOk Tryd.prog 46 5 5 = true := by kernel_rfl
theorem hu5 : (Tryd.prog.underlying 5).isSome = true := by kernel_rfl
theorem if73 : ifOk Tryd.prog 73 = true := by kernel_rfl
theorem ifc138 : ifcOk Tryd.prog 138 = true := by kernel_rfl
theorem mixed : Tryd.prog.follows .mixedOrders = true := by kernel_rfl
theorem sl115 : slOk Tryd.prog 115 114 2 = true := by kernel_rfl
theorem sl116 : slOk Tryd.prog 116 118 4 = true := by kernel_rfl
theorem sl121 : slOk Tryd.prog 121 120 7 = true := by kernel_rfl
theorem sl23 : slOk Tryd.prog 23 3 1 = true := by kernel_rfl
theorem sl83 : slOk Tryd.prog 83 9 1 = true := by kernel_rfl
theorem st9 : stOk Tryd.prog 9 = true := by kernel_rfl
theorem ty114 : tyOk Tryd.prog 114 true 2 = true := by kernel_rfl
theorem ty115 : tyOk Tryd.prog 115 false 1 = true := by kernel_rfl
theorem ty116 : tyOk Tryd.prog 116 false 1 = true := by kernel_rfl
theorem ty118 : tyOk Tryd.prog 118 true 4 = true := by kernel_rfl
theorem ty120 : tyOk Tryd.prog 120 true 7 = true := by kernel_rfl
theorem ty121 : tyOk Tryd.prog 121 false 1 = true := by kernel_rfl
theorem ty123 : tyOk Tryd.prog 123 true 4 = true := by kernel_rfl
theorem ty127 : tyOk Tryd.prog 127 true 6 = true := by kernel_rfl
theorem ty23 : tyOk Tryd.prog 23 false 1 = true := by kernel_rfl
theorem ty3 : tyOk Tryd.prog 3 false 1 = true := by kernel_rfl
theorem ty4 : tyOk Tryd.prog 4 false 1 = true := by kernel_rfl
theorem ty44 : tyOk Tryd.prog 44 true 3 = true := by kernel_rfl
theorem ty46 : tyOk Tryd.prog 46 true 6 = true := by kernel_rfl
theorem ty9 : tyOk Tryd.prog 9 false 1 = true := by kernel_rfl
theorem ui3 : Tryd.prog.underlying 3 = some (.int .i64) := by kernel_rfl
theorem zr114 : (Tryd.prog.info? 114).bind (fun i => i.zero.map fun z => z.cells.toList) = some [.int .i64 0, .int .i64 0] := by kernel_rfl
theorem zr118 : (Tryd.prog.info? 118).bind (fun i => i.zero.map fun z => z.cells.toList) = some [.int .i64 0, .int .i64 0, .int .i64 0, .slice none 0 0] := by kernel_rfl
theorem zr120 : (Tryd.prog.info? 120).bind (fun i => i.zero.map fun z => z.cells.toList) = some [.int .i64 0, .int .i64 0, .int .i64 0, .slice none 0 0, .int .i64 0, .int .i64 0, .bool false] := by kernel_rfl
theorem zr123 : (Tryd.prog.info? 123).bind (fun i => i.zero.map fun z => z.cells.toList) = some [.bool false, .slice none 0 0, .int .i64 0, .slice none 0 0] := by kernel_rfl
theorem zr3 : (Tryd.prog.info? 3).bind (fun i => i.zero.map fun z => z.cells.toList) = some [.int .i64 0] := by kernel_rfl
theorem zr4 : (Tryd.prog.info? 4).bind (fun i => i.zero.map fun z => z.cells.toList) = some [.bool false] := by kernel_rfl
theorem zr46 : (Tryd.prog.info? 46).bind (fun i => i.zero.map fun z => z.cells.toList) = some [.int .i64 0, .int .i64 0, .int .i64 0, .int .i64 0, .int .i64 0, .slice none 0 0] := by kernel_rfl
abbrev TabX (s : Sg) : Prop := TabG Tryd.prog 0 2 3 s
theorem split_ok {w : World} {s : Sg} {R : List HP} {x y : ByteArray} {r : List ByteArray} (hS : St w s R) (hTab : TabX s) (hr : splitq x y = some r) : Calls Tryd.prog 56 [.string x, .string y].toArray w (fun e w => ∃ b cs, e = .returned (.slice (some ⟨b, 0, none⟩) r.length r.length) ∧ Ev 1 RS s cs r ∧ St w s (vecC 9 1 (some ⟨b, 0, none⟩) r.length r.length cs :: R)) := by
  obtain ⟨h0, h1, rfl⟩ := splitq_some hr
  obtain ⟨m, hm⟩ := hTab.max
  have hlen := Lib.splitB_all y h1 0 _ x rfl
  have hle := Lib.countB_le y h1 x.size x (Nat.le_refl _)
  refine (Tryd.strings_Split x y m w h0 (hm w R hS) h1).mono ?_
  rintro e w' ⟨rfl, rfl⟩
  refine ⟨w.heap.size, _, by rw [hlen], Ev.strs _, ?_⟩
  exact (hS.alloc _).ptVec (by simp) (by unfold maxLen; omega)
theorem atoi_ok {w : World} {s : Sg} {R : List HP} {x : ByteArray} {r : Int × Bool} (hS : St w s R) (hTab : TabX s) (hr : atoiq x = some r) : Calls Tryd.prog 83 [.string x].toArray w (fun e w => ∃ v, e = .returned (.tuple #[.int .i64 r.1, v]) ∧ ErrV v r.2 ∧ St w s R) := by
  unfold atoiq at hr
  split at hr
  · rename_i hz
    injection hr with hr
    subst hr
    cases h : Lib.atoiAll x.data.toList with
    | ok v =>
      refine (Tryd.strconv_Atoi_ok x (by omega) v h w).mono ?_
      rintro e w' ⟨rfl, hw⟩
      refine ⟨_, rfl, rfl, ?_⟩
      rcases hw with rfl | ⟨t, rfl⟩
      · exact hS
      · exact hS.frozen _ _
    | range =>
      obtain ⟨ev, h1, h2⟩ := hTab.ran
      refine (Tryd.strconv_Atoi_range x (by omega) h ev w (h1 w R hS) h2).mono ?_
      rintro e w' ⟨N, rfl, _, _, hB⟩
      exact ⟨_, rfl, ⟨_, _, rfl⟩, hS.grown hB⟩
    | _ =>
      obtain ⟨ev, h1, h2⟩ := hTab.syn
      refine (Tryd.strconv_Atoi_syntax x (by omega) h ev w (h1 w R hS) h2).mono ?_
      rintro e w' ⟨N, rfl, _, _, hB⟩
      exact ⟨_, rfl, ⟨_, _, rfl⟩, hS.grown hB⟩
  · cases hr
theorem oc_ret_75 (p : Addr) (w : World) : CallsDIn Fence.wide 0 Tryd.prog 75 #[.pointer (some p)] .returning w fun e u' w' => e = .returned (.tuple #[]) ∧ u' = .returning ∧ w' = w := by
  refine callsDIn_of_wpSIn Tryd.func75 rfl trivial fun c₀ cs hu => ?_
  apply wpSIn_seq
  apply wpSIn_region
  simp [wpOpsSIn, go_sem, recoverD, hu, Tryd.ntmps75, Exit.thenS, Fence.wide]
  apply wpSIn_seq
  apply wpSIn_region
  simp [wpOpsSIn, go_sem, Tryd.ntmps75, Exit.thenS, Fence.wide]
  refine wpSIn_cond (t := false) (by simp [Act.eval, Array.replicate]) ?_
  simp only [Bool.false_eq_true, if_false]
  refine wpSIn_of_wpIn rfl (wpIn_skip ?_)
  cases c₀
  simp_all [bodyPostS, results, Tryd.results75]
theorem oc_pan_75 (b : Nat) (w : World) (x : Bool) (hc : w.cell? ⟨b, 0, none⟩ = some (.bool x)) (hz : w.frozen? ⟨b, 0, none⟩ = false) : CallsDIn Fence.wide 0 Tryd.prog 75 #[.pointer (some ⟨b, 0, none⟩)] (.panicking [{ v := .iface 138 (.agg #[]), recovered := false }]) w fun e u' w' => e = .returned (.tuple #[]) ∧ u' = .panicking [{ v := .iface 138 (.agg #[]), recovered := true }] ∧ ∃ o, w' = (w.alloc o).setCell ⟨b, 0, none⟩ (.bool false) := by
  have hta : ∀ w : World, (Instr.typeAssert (.iface 138 (.agg #[])) 20 138 true).run Tryd.prog w = .ok (.tuple #[.agg #[], .bool true]) w := fun _ => rfl
  have hst : ∀ (a : Addr) (w : World), (storeCells a []).run Tryd.prog w = .ok () w := fun _ _ => rfl
  refine callsDIn_of_wpSIn Tryd.func75 rfl trivial fun c₀ cs hu => ?_
  apply wpSIn_seq
  apply wpSIn_region
  simp [wpOpsSIn, go_sem, recoverD, hu, Tryd.ntmps75, Exit.thenS, Fence.wide]
  apply wpSIn_seq
  apply wpSIn_region
  simp [wpOpsSIn, go_sem, Exit.thenS]
  refine wpSIn_cond (t := true) (by simp [Act.eval, Array.replicate]) ?_
  simp only [if_true]
  apply wpSIn_seq
  apply wpSIn_seq
  apply wpSIn_region
  simp [wpOpsSIn, go_sem, Exit.thenS, hta, hst]
  apply wpSIn_seq
  apply wpSIn_region
  simp [wpOpsSIn, go_sem, Exit.thenS]
  refine wpSIn_cond (t := false) (by simp [Act.eval, Array.replicate]) ?_
  simp only [Bool.false_eq_true, if_false]
  refine wpSIn_of_wpIn rfl (wpIn_skip ?_)
  simp only [Exit.thenS]
  apply wpSIn_region
  have hb : b < w.heap.size := World.block_lt_of_cell? _ _ hc
  have hc2 : ∀ o, (w.alloc o).cell? ⟨b, 0, none⟩ = some (.bool x) := fun o => by rw [World.cell?_alloc_old _ _ _ (Nat.ne_of_lt hb)]; exact hc
  have hz2 : ∀ o, (w.alloc o).frozen? ⟨b, 0, none⟩ = false := fun o => by
    have e : (w.alloc o).heap[b]? = w.heap[b]? := heap_alloc_old _ _ hb
    unfold World.frozen? at hz ⊢
    simp only at hz ⊢
    rw [e]
    exact hz
  simp [wpOpsSIn, go_sem, bodyPostS, results, Tryd.results75, hc2, hz2]
  exact ⟨_, rfl⟩
theorem itoa_ok {w : World} {s : Sg} {R : List HP} {x : Int} {r : ByteArray} (hS : St w s R) (hTab : TabS Tryd.prog s) (hr : itoa x = some r) : Calls Tryd.prog 43 [.int .i64 x].toArray w (fun e w => e = .returned (.string r) ∧ St w s R) := by
  obtain ⟨⟨h0, h1⟩, rfl⟩ := itoa_some hr
  refine (Tryd.strconv_Itoa x h0 h1 w (hTab w R hS)).mono ?_
  rintro e w' ⟨rfl, k, os, rfl⟩
  exact ⟨rfl, (hS.drewN k).growBy os⟩
set_option maxHeartbeats 8000000 in
theorem Farewithin_ok  {w : World} {s : Sg} {R : List HP} {x0 : Int} {x1 : Int} {x2 : Int} (hS : St w s (R))  {r : Bool} (hr : Farewithin x0 x1 x2 = r) :
    Calls Tryd.prog 63 [.int .i64 x0, .int .i64 x1, .int .i64 x2].toArray w (fun e w => e = .returned (.bool r) ∧ St w s (R)) := by
  refine enter Tryd.func63 rfl rfl rfl fun a hE => ?_
  rw [Farewithin] at hr
  refine W.seq ?_
  refine W.region ?_
  refine WL.vS hS hE (runs_plain rfl) (Gives.p hE rfl) rfl ?_; clear hE a; intro a hE
  refine WL.nil ?_
  refine W.seq ?_
  obtain ⟨q52, hq51, hr⟩ := bndS hr
  refine W.cut (fun a w => ∃ (q55 : Bool), q55 = q52 ∧ Rep a 15 [(6, .bool q55)] ∧ St w s (R)) ?_ ?_
  · refine W.gen fun K56 hK56 => ?_
    refine W.region ?_
    refine WL.vS hS hE (runs_plain rfl) (Gives.p hE rfl) rfl ?_; clear hE a; intro a hE
    refine WL.vS hS hE (runs_plain rfl) (Gives.p hE rfl) rfl ?_; clear hE a; intro a hE
    refine WL.vS hS hE (runs_plain rfl) (Gives.p hE rfl) rfl ?_; clear hE a; intro a hE
    refine WL.vS hS hE (runs_plain rfl) (Gives.p hE rfl) rfl ?_; clear hE a; intro a hE
    rcases Bool.eq_false_or_eq_true (decide (x0 ≥ x1)) with hg57 | hg57
    · replace hq51 := iteT hg57 hq51
      refine WL.vS hS hE (runs_if hE rfl rfl rfl hg57) (Gives.p hE rfl) rfl ?_; clear hE a; intro a hE
      refine WL.vS hS hE (runs_if hE rfl rfl rfl hg57) (Gives.p hE rfl) rfl ?_; clear hE a; intro a hE
      refine WL.vS hS hE (runs_if hE rfl rfl rfl hg57) (Gives.p hE rfl) rfl ?_; clear hE a; intro a hE
      refine WL.vS hS hE (runs_plain rfl) (Gives.pickT hE rfl hg57 rfl) rfl ?_; clear hE a; intro a hE
      refine WL.vS hS hE (runs_plain rfl) (Gives.p hE rfl) rfl ?_; clear hE a; intro a hE
      refine WL.nil ?_
      subst hK56
      exact ⟨decide (x0 ≤ x2), hq51, hE.pick _ ⟨rfl, trivial⟩, hS⟩
    · replace hq51 := iteF hg57 hq51
      refine WL.no hE (runs_not hE rfl rfl rfl (by rw [hg57]; decide)) rfl ?_; clear hE a; intro a hE
      refine WL.no hE (runs_not hE rfl rfl rfl (by rw [hg57]; decide)) rfl ?_; clear hE a; intro a hE
      refine WL.no hE (runs_not hE rfl rfl rfl (by rw [hg57]; decide)) rfl ?_; clear hE a; intro a hE
      refine WL.vS hS hE (runs_plain rfl) (Gives.pickF hE rfl hg57 rfl) rfl ?_; clear hE a; intro a hE
      refine WL.vS hS hE (runs_plain rfl) (Gives.p hE rfl) rfl ?_; clear hE a; intro a hE
      refine WL.nil ?_
      subst hK56
      exact ⟨false, hq51, hE.pick _ ⟨rfl, trivial⟩, hS⟩
  · clear hE hS a w; rintro a w ⟨q55, rfl, hE, hS⟩
    refine W.ret ?_
    refine finG (fn := Tryd.f63) (rs := [.tmp 6]) (vs := [_]) hE rfl ⟨rfl, trivial⟩ ?_
    subst hr
    exact ⟨rfl, hS⟩
set_option maxHeartbeats 8000000 in
theorem FareKeycheck_ok  {w : World} {s : Sg} {R : List HP} {x0 : FareKey} {x1 : Bool} (hS : St w s (R))  {r : Int} (hr : FareKeycheck x0 x1 = r) :
    Calls Tryd.prog 49 [.agg (FareKey.cells x0).toArray, .bool x1].toArray w (fun e w => e = .returned (.int .i64 r) ∧ St w s (R)) := by
  refine enter Tryd.func49 rfl rfl rfl fun a hE => ?_
  rw [FareKeycheck] at hr
  refine W.seq ?_
  refine W.region ?_
  refine WL.box hE hS (runs_plain rfl) rfl rfl rfl ?_; clear hE hS a w; intro b51 a w hE hS
  refine WL.vS hS hE (runs_plain rfl) (Gives.p hE rfl) rfl ?_; clear hE a; intro a hE
  refine WL.nil ?_
  refine W.seq ?_
  refine W.seq ?_
  obtain ⟨q53, hq52, hr⟩ := bndS hr
  refine W.cut (fun a w => ∃ (q56 : Bool), q56 = q53 ∧ Rep a 27 [(26, .bool q56)] ∧ St w s (pt b51 (.cells (FareKey.cells x0).toArray 44 (0, 0)) :: R)) ?_ ?_
  · refine W.gen fun K57 hK57 => ?_
    refine W.region ?_
    refine WL.vS hS hE (runs_plain rfl) (Gives.fld hE rfl fl44_0) rfl ?_; clear hE a; intro a hE
    refine WL.vS hS hE (runs_plain rfl) (Gives.loadB hE 0 rfl rfl rfl ty3) rfl ?_; clear hE a; intro a hE
    refine WL.fnq hE (Farewithin_ok hS  rfl (r := Farewithin x0.N 1018081 1072497001)) (runs_plain rfl) bd63 rfl rfl rfl ?_
    clear hE hS; rintro e w ⟨rfl, hS⟩; refine ⟨_, rfl, ?_⟩; clear a; intro a hE
    refine WL.vS hS hE (runs_plain rfl) (Gives.p hE rfl) rfl ?_; clear hE a; intro a hE
    refine WL.vS hS hE (runs_plain rfl) (Gives.p hE rfl) rfl ?_; clear hE a; intro a hE
    rcases Bool.eq_false_or_eq_true (!(Farewithin x0.N 1018081 1072497001)) with hg58 | hg58
    · replace hq52 := iteT hg58 hq52
      refine WL.no hE (runs_not hE rfl rfl rfl (by rw [hg58]; decide)) rfl ?_; clear hE a; intro a hE
      refine WL.no hE (runs_not hE rfl rfl rfl (by rw [hg58]; decide)) rfl ?_; clear hE a; intro a hE
      refine WL.no hE (runs_not hE rfl rfl rfl (by rw [hg58]; decide)) rfl ?_; clear hE a; intro a hE
      refine WL.no hE (runs_not hE rfl rfl rfl (by rw [hg58]; decide)) rfl ?_; clear hE a; intro a hE
      refine WL.vS hS hE (runs_plain rfl) (Gives.pickT hE rfl hg58 rfl) rfl ?_; clear hE a; intro a hE
      refine WL.vS hS hE (runs_plain rfl) (Gives.p hE rfl) rfl ?_; clear hE a; intro a hE
      refine WL.no hE (runs_not hE rfl rfl rfl (by decide)) rfl ?_; clear hE a; intro a hE
      refine WL.no hE (runs_not hE rfl rfl rfl (by decide)) rfl ?_; clear hE a; intro a hE
      refine WL.no hE (runs_undef hE rfl rfl rfl) rfl ?_; clear hE a; intro a hE
      refine WL.no hE (runs_undef hE rfl rfl rfl) rfl ?_; clear hE a; intro a hE
      refine WL.no hE (runs_undef hE rfl rfl rfl) rfl ?_; clear hE a; intro a hE
      refine WL.no hE (runs_undef hE rfl rfl rfl) rfl ?_; clear hE a; intro a hE
      refine WL.no hE (runs_undef hE rfl rfl rfl) rfl ?_; clear hE a; intro a hE
      refine WL.no hE (runs_undef hE rfl rfl rfl) rfl ?_; clear hE a; intro a hE
      refine WL.no hE (runs_undef hE rfl rfl rfl) rfl ?_; clear hE a; intro a hE
      refine WL.no hE (runs_not hE rfl rfl rfl (by decide)) rfl ?_; clear hE a; intro a hE
      refine WL.vS hS hE (runs_plain rfl) (Gives.pickT hE rfl rfl rfl) rfl ?_; clear hE a; intro a hE
      refine WL.nil ?_
      subst hK57
      exact ⟨true, hq52, hE.pick _ ⟨rfl, trivial⟩, hS⟩
    · replace hq52 := iteF hg58 hq52
      refine WL.vS hS hE (runs_if hE rfl rfl rfl hg58) (Gives.fld hE rfl fl44_1) rfl ?_; clear hE a; intro a hE
      refine WL.vS hS hE (runs_if hE rfl rfl rfl hg58) (Gives.loadB hE 0 rfl rfl rfl ty3) rfl ?_; clear hE a; intro a hE
      refine WL.fnq hE (Farewithin_ok hS  rfl (r := Farewithin x0.E 3 32749)) (runs_if hE rfl rfl rfl hg58) bd63 rfl rfl rfl ?_
      clear hE hS; rintro e w ⟨rfl, hS⟩; refine ⟨_, rfl, ?_⟩; clear a; intro a hE
      refine WL.vS hS hE (runs_if hE rfl rfl rfl hg58) (Gives.p hE rfl) rfl ?_; clear hE a; intro a hE
      refine WL.vS hS hE (runs_plain rfl) (Gives.pickF hE rfl hg58 rfl) rfl ?_; clear hE a; intro a hE
      refine WL.vS hS hE (runs_plain rfl) (Gives.p hE rfl) rfl ?_; clear hE a; intro a hE
      rcases Bool.eq_false_or_eq_true (!(Farewithin x0.E 3 32749)) with hg59 | hg59
      · replace hq52 := iteT hg59 hq52
        refine WL.no hE (runs_not hE rfl rfl rfl (by rw [hg59]; decide)) rfl ?_; clear hE a; intro a hE
        refine WL.no hE (runs_not hE rfl rfl rfl (by rw [hg59]; decide)) rfl ?_; clear hE a; intro a hE
        refine WL.no hE (runs_undef hE rfl rfl rfl) rfl ?_; clear hE a; intro a hE
        refine WL.no hE (runs_undef hE rfl rfl rfl) rfl ?_; clear hE a; intro a hE
        refine WL.no hE (runs_undef hE rfl rfl rfl) rfl ?_; clear hE a; intro a hE
        refine WL.no hE (runs_undef hE rfl rfl rfl) rfl ?_; clear hE a; intro a hE
        refine WL.no hE (runs_undef hE rfl rfl rfl) rfl ?_; clear hE a; intro a hE
        refine WL.no hE (runs_undef hE rfl rfl rfl) rfl ?_; clear hE a; intro a hE
        refine WL.no hE (runs_undef hE rfl rfl rfl) rfl ?_; clear hE a; intro a hE
        refine WL.no hE (runs_not hE rfl rfl rfl (by rw [hg59]; decide)) rfl ?_; clear hE a; intro a hE
        refine WL.vS hS hE (runs_plain rfl) (Gives.pickT hE rfl hg59 rfl) rfl ?_; clear hE a; intro a hE
        refine WL.nil ?_
        subst hK57
        exact ⟨true, hq52, hE.pick _ ⟨rfl, trivial⟩, hS⟩
      · replace hq52 := iteF hg59 hq52
        refine WL.vS hS hE (runs_if hE rfl rfl rfl hg59) (Gives.p hE rfl) rfl ?_; clear hE a; intro a hE
        refine WL.vS hS hE (runs_if hE rfl rfl rfl hg59) (Gives.p hE rfl) rfl ?_; clear hE a; intro a hE
        rcases Bool.eq_false_or_eq_true x1 with hg60 | hg60
        · replace hq52 := iteT hg60 hq52
          refine WL.vS hS hE (runs_if hE rfl rfl rfl hg60) (Gives.fld hE rfl fl44_2) rfl ?_; clear hE a; intro a hE
          refine WL.vS hS hE (runs_if hE rfl rfl rfl hg60) (Gives.loadB hE 0 rfl rfl rfl ty3) rfl ?_; clear hE a; intro a hE
          refine WL.vS hS hE (runs_if hE rfl rfl rfl hg60) (Gives.fld hE rfl fl44_0) rfl ?_; clear hE a; intro a hE
          refine WL.vS hS hE (runs_if hE rfl rfl rfl hg60) (Gives.loadB hE 0 rfl rfl rfl ty3) rfl ?_; clear hE a; intro a hE
          refine WL.vS hS hE (runs_if hE rfl rfl rfl hg60) (Gives.p hE rfl) rfl ?_; clear hE a; intro a hE
          refine WL.fnq hE (Farewithin_ok hS  rfl (r := Farewithin x0.D 1 (w64 (x0.N - 1)))) (runs_if hE rfl rfl rfl hg60) bd63 rfl rfl rfl ?_
          clear hE hS; rintro e w ⟨rfl, hS⟩; refine ⟨_, rfl, ?_⟩; clear a; intro a hE
          refine WL.vS hS hE (runs_if hE rfl rfl rfl hg60) (Gives.p hE rfl) rfl ?_; clear hE a; intro a hE
          refine WL.vS hS hE (runs_if hE rfl rfl rfl hg59) (Gives.pickT hE rfl hg60 rfl) rfl ?_; clear hE a; intro a hE
          refine WL.vS hS hE (runs_plain rfl) (Gives.pickF hE rfl hg59 rfl) rfl ?_; clear hE a; intro a hE
          refine WL.nil ?_
          subst hK57
          exact ⟨!(Farewithin x0.D 1 (w64 (x0.N - 1))), hq52, hE.pick _ ⟨rfl, trivial⟩, hS⟩
        · replace hq52 := iteF hg60 hq52
          refine WL.no hE (runs_not hE rfl rfl rfl (by rw [hg60]; decide)) rfl ?_; clear hE a; intro a hE
          refine WL.no hE (runs_not hE rfl rfl rfl (by rw [hg60]; decide)) rfl ?_; clear hE a; intro a hE
          refine WL.no hE (runs_not hE rfl rfl rfl (by rw [hg60]; decide)) rfl ?_; clear hE a; intro a hE
          refine WL.no hE (runs_not hE rfl rfl rfl (by rw [hg60]; decide)) rfl ?_; clear hE a; intro a hE
          refine WL.no hE (runs_not hE rfl rfl rfl (by rw [hg60]; decide)) rfl ?_; clear hE a; intro a hE
          refine WL.no hE (runs_not hE rfl rfl rfl (by rw [hg60]; decide)) rfl ?_; clear hE a; intro a hE
          refine WL.no hE (runs_not hE rfl rfl rfl (by rw [hg60]; decide)) rfl ?_; clear hE a; intro a hE
          refine WL.vS hS hE (runs_if hE rfl rfl rfl hg59) (Gives.pickF hE rfl hg60 rfl) rfl ?_; clear hE a; intro a hE
          refine WL.vS hS hE (runs_plain rfl) (Gives.pickF hE rfl hg59 rfl) rfl ?_; clear hE a; intro a hE
          refine WL.nil ?_
          subst hK57
          exact ⟨false, hq52, hE.pick _ ⟨rfl, trivial⟩, hS⟩
  · clear hE hS a w; rintro a w ⟨q56, rfl, hE, hS⟩
    refine W.cond hE rfl (fun hc61 => ?_) (fun hc61 => ?_)
    · replace hr := iteT hc61 hr
      refine W.seq ?_
      refine W.region ?_
      refine WL.vS hS hE (runs_plain rfl) (Gives.p hE rfl) rfl ?_; clear hE a; intro a hE
      refine WL.nil ?_
      refine W.ret ?_
      refine finG (fn := Tryd.f49) (rs := [.tmp 4]) (vs := [_]) hE rfl ⟨rfl, trivial⟩ ?_
      subst hr
      replace hS := hS.tail
      exact ⟨rfl, hS⟩
    · replace hr := iteF hc61 hr
      refine W.skip ?_
      refine W.seq ?_
      refine W.region ?_
      refine WL.vS hS hE (runs_plain rfl) (Gives.p hE rfl) rfl ?_; clear hE a; intro a hE
      refine WL.nil ?_
      refine W.ret ?_
      refine finG (fn := Tryd.f49) (rs := [.tmp 4]) (vs := [_]) hE rfl ⟨rfl, trivial⟩ ?_
      subst hr
      replace hS := hS.tail
      exact ⟨rfl, hS⟩
set_option maxHeartbeats 8000000 in
theorem InternalStringsliteHasSuffix_ok  {w : World} {s : Sg} {R : List HP} {x0 : ByteArray} {x1 : ByteArray} (hS : St w s (R))  {r : Bool} (hr : InternalStringsliteHasSuffix x0 x1 = some r) :
    Calls Tryd.prog 97 [.string x0, .string x1].toArray w (fun e w => e = .returned (.bool r) ∧ St w s (R)) := by
  refine enter Tryd.func97 rfl rfl rfl fun a hE => ?_
  rw [InternalStringsliteHasSuffix] at hr
  refine W.seq ?_
  refine W.region ?_
  refine WL.vS hS hE (runs_plain rfl) (Gives.p hE rfl) rfl ?_; clear hE a; intro a hE
  refine WL.nil ?_
  refine W.seq ?_
  obtain ⟨q52, hq51, hr⟩ := bindS hr
  refine W.cut (fun a w => ∃ (q55 : Bool), q55 = q52 ∧ Rep a 21 [(4, .bool q55)] ∧ St w s (R)) ?_ ?_
  · refine W.gen fun K56 hK56 => ?_
    refine W.region ?_
    refine WL.vS hS hE (runs_plain rfl) (Gives.p hE rfl) rfl ?_; clear hE a; intro a hE
    refine WL.vS hS hE (runs_plain rfl) (Gives.lenS hE rfl st9) rfl ?_; clear hE a; intro a hE
    refine WL.vS hS hE (runs_plain rfl) (Gives.p hE rfl) rfl ?_; clear hE a; intro a hE
    refine WL.vS hS hE (runs_plain rfl) (Gives.lenS hE rfl st9) rfl ?_; clear hE a; intro a hE
    refine WL.vS hS hE (runs_plain rfl) (Gives.p hE rfl) rfl ?_; clear hE a; intro a hE
    refine WL.vS hS hE (runs_plain rfl) (Gives.p hE rfl) rfl ?_; clear hE a; intro a hE
    rcases Bool.eq_false_or_eq_true (decide (((x0.size : Nat) : Int) ≥ ((x1.size : Nat) : Int))) with hg57 | hg57
    · replace hq51 := iteT hg57 hq51
      refine WL.vS hS hE (runs_if hE rfl rfl rfl hg57) (Gives.p hE rfl) rfl ?_; clear hE a; intro a hE
      refine WL.vS hS hE (runs_if hE rfl rfl rfl hg57) (Gives.p hE rfl) rfl ?_; clear hE a; intro a hE
      refine WL.vS hS hE (runs_if hE rfl rfl rfl hg57) (Gives.lenS hE rfl st9) rfl ?_; clear hE a; intro a hE
      refine WL.vS hS hE (runs_if hE rfl rfl rfl hg57) (Gives.p hE rfl) rfl ?_; clear hE a; intro a hE
      refine WL.vS hS hE (runs_if hE rfl rfl rfl hg57) (Gives.lenS hE rfl st9) rfl ?_; clear hE a; intro a hE
      refine WL.vS hS hE (runs_if hE rfl rfl rfl hg57) (Gives.p hE rfl) rfl ?_; clear hE a; intro a hE
      obtain ⟨x58, hx59, hq51⟩ := bindS hq51
      refine WL.vS hS hE (runs_if hE rfl rfl rfl hg57) (Gives.cutSL hE st9 rfl rfl hx59) rfl ?_; clear hE a; intro a hE
      refine WL.vS hS hE (runs_if hE rfl rfl rfl hg57) (Gives.p hE rfl) rfl ?_; clear hE a; intro a hE
      refine WL.vS hS hE (runs_if hE rfl rfl rfl hg57) (Gives.eqSt hE rfl rfl) rfl ?_; clear hE a; intro a hE
      refine WL.vS hS hE (runs_plain rfl) (Gives.pickT hE rfl hg57 rfl) rfl ?_; clear hE a; intro a hE
      refine WL.vS hS hE (runs_plain rfl) (Gives.p hE rfl) rfl ?_; clear hE a; intro a hE
      refine WL.nil ?_
      subst hK56
      exact ⟨(seq x58 x1), Option.some.inj hq51, hE.pick _ ⟨rfl, trivial⟩, hS⟩
    · replace hq51 := iteF hg57 hq51
      refine WL.no hE (runs_not hE rfl rfl rfl (by rw [hg57]; decide)) rfl ?_; clear hE a; intro a hE
      refine WL.no hE (runs_not hE rfl rfl rfl (by rw [hg57]; decide)) rfl ?_; clear hE a; intro a hE
      refine WL.no hE (runs_not hE rfl rfl rfl (by rw [hg57]; decide)) rfl ?_; clear hE a; intro a hE
      refine WL.no hE (runs_not hE rfl rfl rfl (by rw [hg57]; decide)) rfl ?_; clear hE a; intro a hE
      refine WL.no hE (runs_not hE rfl rfl rfl (by rw [hg57]; decide)) rfl ?_; clear hE a; intro a hE
      refine WL.no hE (runs_not hE rfl rfl rfl (by rw [hg57]; decide)) rfl ?_; clear hE a; intro a hE
      refine WL.no hE (runs_not hE rfl rfl rfl (by rw [hg57]; decide)) rfl ?_; clear hE a; intro a hE
      refine WL.no hE (runs_not hE rfl rfl rfl (by rw [hg57]; decide)) rfl ?_; clear hE a; intro a hE
      refine WL.no hE (runs_not hE rfl rfl rfl (by rw [hg57]; decide)) rfl ?_; clear hE a; intro a hE
      refine WL.vS hS hE (runs_plain rfl) (Gives.pickF hE rfl hg57 rfl) rfl ?_; clear hE a; intro a hE
      refine WL.vS hS hE (runs_plain rfl) (Gives.p hE rfl) rfl ?_; clear hE a; intro a hE
      refine WL.nil ?_
      subst hK56
      exact ⟨false, Option.some.inj hq51, hE.pick _ ⟨rfl, trivial⟩, hS⟩
  · clear hE hS a w; rintro a w ⟨q55, rfl, hE, hS⟩
    refine W.ret ?_
    refine finG (fn := Tryd.f97) (rs := [.tmp 4]) (vs := [_]) hE rfl ⟨rfl, trivial⟩ ?_
    obtain rfl := Option.some.inj hr
    exact ⟨rfl, hS⟩
set_option maxHeartbeats 8000000 in
theorem InternalStringsliteCutSuffix_ok  {w : World} {s : Sg} {R : List HP} {x0 : ByteArray} {x1 : ByteArray} (hS : St w s (R))  {r : ByteArray × Bool} (hr : InternalStringsliteCutSuffix x0 x1 = some r) :
    Calls Tryd.prog 81 [.string x0, .string x1].toArray w (fun e w => e = .returned (.tuple #[.string r.1, .bool r.2]) ∧ St w s (R)) := by
  refine enter Tryd.func81 rfl rfl rfl fun a hE => ?_
  rw [InternalStringsliteCutSuffix] at hr
  refine W.seq ?_
  refine W.region ?_
  refine WL.vS hS hE (runs_plain rfl) (Gives.p hE rfl) rfl ?_; clear hE a; intro a hE
  refine WL.vS hS hE (runs_plain rfl) (Gives.p hE rfl) rfl ?_; clear hE a; intro a hE
  refine WL.nil ?_
  refine W.seq ?_
  refine W.seq ?_
  refine W.region ?_
  refine WL.vS hS hE (runs_plain rfl) (Gives.p hE rfl) rfl ?_; clear hE a; intro a hE
  refine WL.vS hS hE (runs_plain rfl) (Gives.p hE rfl) rfl ?_; clear hE a; intro a hE
  obtain ⟨q51, hq52, hr⟩ := bindS hr
  have hc_ := InternalStringsliteHasSuffix_ok hS  hq52
  refine WL.fnq hE (hc_) (runs_plain rfl) bd97 rfl rfl rfl ?_
  clear hE hS hc_; rintro e w ⟨rfl, hS⟩; refine ⟨_, rfl, ?_⟩; clear a; intro a hE
  refine WL.vS hS hE (runs_plain rfl) (Gives.p hE rfl) rfl ?_; clear hE a; intro a hE
  refine WL.nil ?_
  refine W.cond hE rfl (fun hc53 => ?_) (fun hc53 => ?_)
  · replace hr := iteT hc53 hr
    refine W.seq ?_
    refine W.region ?_
    refine WL.vS hS hE (runs_plain rfl) (Gives.p hE rfl) rfl ?_; clear hE a; intro a hE
    refine WL.vS hS hE (runs_plain rfl) (Gives.p hE rfl) rfl ?_; clear hE a; intro a hE
    refine WL.vS hS hE (runs_plain rfl) (Gives.p hE rfl) rfl ?_; clear hE a; intro a hE
    refine WL.nil ?_
    refine W.ret ?_
    refine finG (fn := Tryd.f81) (rs := [.tmp 4, .tmp 5]) (vs := [_, _]) hE rfl ⟨rfl, rfl, trivial⟩ ?_
    obtain rfl := Option.some.inj hr
    exact ⟨rfl, hS⟩
  · replace hr := iteF hc53 hr
    refine W.skip ?_
    refine W.seq ?_
    refine W.region ?_
    refine WL.vS hS hE (runs_plain rfl) (Gives.p hE rfl) rfl ?_; clear hE a; intro a hE
    refine WL.vS hS hE (runs_plain rfl) (Gives.p hE rfl) rfl ?_; clear hE a; intro a hE
    refine WL.vS hS hE (runs_plain rfl) (Gives.lenS hE rfl st9) rfl ?_; clear hE a; intro a hE
    refine WL.vS hS hE (runs_plain rfl) (Gives.p hE rfl) rfl ?_; clear hE a; intro a hE
    refine WL.vS hS hE (runs_plain rfl) (Gives.lenS hE rfl st9) rfl ?_; clear hE a; intro a hE
    refine WL.vS hS hE (runs_plain rfl) (Gives.p hE rfl) rfl ?_; clear hE a; intro a hE
    obtain ⟨x54, hx55, hr⟩ := bindS hr
    refine WL.vS hS hE (runs_plain rfl) (Gives.cutSH hE st9 rfl rfl hx55) rfl ?_; clear hE a; intro a hE
    refine WL.vS hS hE (runs_plain rfl) (Gives.p hE rfl) rfl ?_; clear hE a; intro a hE
    refine WL.vS hS hE (runs_plain rfl) (Gives.p hE rfl) rfl ?_; clear hE a; intro a hE
    refine WL.nil ?_
    refine W.ret ?_
    refine finG (fn := Tryd.f81) (rs := [.tmp 4, .tmp 5]) (vs := [_, _]) hE rfl ⟨rfl, rfl, trivial⟩ ?_
    obtain rfl := Option.some.inj hr
    exact ⟨rfl, hS⟩
set_option maxHeartbeats 8000000 in
theorem StringsCutSuffix_ok  {w : World} {s : Sg} {R : List HP} {x0 : ByteArray} {x1 : ByteArray} (hS : St w s (R))  {r : ByteArray × Bool} (hr : StringsCutSuffix x0 x1 = some r) :
    Calls Tryd.prog 55 [.string x0, .string x1].toArray w (fun e w => e = .returned (.tuple #[.string r.1, .bool r.2]) ∧ St w s (R)) := by
  refine enter Tryd.func55 rfl rfl rfl fun a hE => ?_
  rw [StringsCutSuffix] at hr
  refine W.seq ?_
  refine W.region ?_
  refine WL.vS hS hE (runs_plain rfl) (Gives.p hE rfl) rfl ?_; clear hE a; intro a hE
  refine WL.vS hS hE (runs_plain rfl) (Gives.p hE rfl) rfl ?_; clear hE a; intro a hE
  refine WL.nil ?_
  refine W.seq ?_
  refine W.region ?_
  refine WL.vS hS hE (runs_plain rfl) (Gives.p hE rfl) rfl ?_; clear hE a; intro a hE
  refine WL.vS hS hE (runs_plain rfl) (Gives.p hE rfl) rfl ?_; clear hE a; intro a hE
  obtain ⟨q51, hq52, hr⟩ := bindS hr
  have hc_ := InternalStringsliteCutSuffix_ok hS  hq52
  refine WL.fnq hE (hc_) (runs_plain rfl) bd81 rfl rfl rfl ?_
  clear hE hS hc_; rintro e w ⟨rfl, hS⟩; refine ⟨_, rfl, ?_⟩; clear a; intro a hE
  refine WL.vS hS hE (runs_plain rfl) (Gives.p hE rfl) rfl ?_; clear hE a; intro a hE
  refine WL.vS hS hE (runs_plain rfl) (Gives.p hE rfl) rfl ?_; clear hE a; intro a hE
  refine WL.vS hS hE (runs_plain rfl) (Gives.p hE rfl) rfl ?_; clear hE a; intro a hE
  refine WL.vS hS hE (runs_plain rfl) (Gives.p hE rfl) rfl ?_; clear hE a; intro a hE
  refine WL.nil ?_
  refine W.ret ?_
  refine finG (fn := Tryd.f55) (rs := [.tmp 4, .tmp 5]) (vs := [_, _]) hE rfl ⟨rfl, rfl, trivial⟩ ?_
  obtain rfl := Option.some.inj hr
  exact ⟨rfl, hS⟩
set_option maxHeartbeats 8000000 in
theorem Farenumber_ok  {w : World} {s : Sg} {R : List HP} {x0 : ByteArray} (hS : St w s (R)) (hTab : TabX s) {r : Option Int} (hr : Farenumber x0 = some r) :
    Calls Tryd.prog 76 [.string x0].toArray w (fun e w => (r = none ∧ e = .panicked [{ v := .iface 138 (.agg #[]), recovered := false }] ∧ ∃ (t : Sg), s.Le t ∧ St w t R) ∨ (∃ rr, r = some rr ∧ e = .returned (.int .i64 rr) ∧ St w s (R))) := by
  refine enter Tryd.func76 rfl rfl rfl fun a hE => ?_
  rw [Farenumber] at hr
  refine W.seq ?_
  refine W.region ?_
  refine WL.vS hS hE (runs_plain rfl) (Gives.p hE rfl) rfl ?_; clear hE a; intro a hE
  refine WL.nil ?_
  refine W.seq ?_
  refine W.region ?_
  refine WL.vS hS hE (runs_plain rfl) (Gives.p hE rfl) rfl ?_; clear hE a; intro a hE
  obtain ⟨q51, hq52, hr⟩ := bindS hr
  refine WL.fnq hE (atoi_ok hS (TabG.mono (Sg.Le.refl _) hTab) hq52) (runs_plain rfl) bd83 rfl rfl rfl ?_
  clear hE hS; rintro e w ⟨ev53, rfl, h54, hS⟩; refine ⟨_, rfl, ?_⟩; clear a; intro a hE
  refine WL.vS hS hE (runs_plain rfl) (Gives.p hE rfl) rfl ?_; clear hE a; intro a hE
  refine WL.vS hS hE (runs_plain rfl) (Gives.p hE rfl) rfl ?_; clear hE a; intro a hE
  refine WL.vS hS hE (runs_plain rfl) (Gives.p hE rfl) rfl ?_; clear hE a; intro a hE
  refine WL.vS hS hE (runs_plain rfl) (Gives.p hE rfl) rfl ?_; clear hE a; intro a hE
  refine WL.vS hS hE (runs_plain rfl) (Gives.p hE rfl) rfl ?_; clear hE a; intro a hE
  refine WL.nil ?_
  refine W.seq ?_
  refine W.seq ?_
  obtain ⟨q56, hq55, hr⟩ := bindS hr
  refine W.cut (fun a w => ∃ (q59 : Bool), q59 = q56 ∧ Rep a 25 [(3, .int .i64 q51.1), (21, .bool q59)] ∧ St w s (R)) ?_ ?_
  · refine W.gen fun K60 hK60 => ?_
    refine W.region ?_
    refine WL.vS hS hE (runs_plain rfl) (Gives.p hE rfl) rfl ?_; clear hE a; intro a hE
    refine WL.vS hS hE (runs_plain rfl) (Gives.errNe hE if73 h54 rfl) rfl ?_; clear hE a; intro a hE
    refine WL.vS hS hE (runs_plain rfl) (Gives.p hE rfl) rfl ?_; clear hE a; intro a hE
    rcases Bool.eq_false_or_eq_true (!(q51.2)) with hg61 | hg61
    · replace hq55 := iteT hg61 hq55
      refine WL.no hE (runs_not hE rfl rfl rfl (by rw [hg61]; decide)) rfl ?_; clear hE a; intro a hE
      refine WL.no hE (runs_not hE rfl rfl rfl (by rw [hg61]; decide)) rfl ?_; clear hE a; intro a hE
      refine WL.vS hS hE (runs_plain rfl) (Gives.pickT hE rfl hg61 rfl) rfl ?_; clear hE a; intro a hE
      refine WL.vS hS hE (runs_plain rfl) (Gives.p hE rfl) rfl ?_; clear hE a; intro a hE
      refine WL.no hE (runs_not hE rfl rfl rfl (by decide)) rfl ?_; clear hE a; intro a hE
      refine WL.no hE (runs_not hE rfl rfl rfl (by decide)) rfl ?_; clear hE a; intro a hE
      refine WL.no hE (runs_not hE rfl rfl rfl (by decide)) rfl ?_; clear hE a; intro a hE
      refine WL.no hE (runs_not hE rfl rfl rfl (by decide)) rfl ?_; clear hE a; intro a hE
      refine WL.vS hS hE (runs_plain rfl) (Gives.pickT hE rfl rfl rfl) rfl ?_; clear hE a; intro a hE
      refine WL.nil ?_
      subst hK60
      exact ⟨true, Option.some.inj hq55, hE.pick _ ⟨rfl, rfl, trivial⟩, hS⟩
    · replace hq55 := iteF hg61 hq55
      refine WL.vS hS hE (runs_if hE rfl rfl rfl hg61) (Gives.p hE rfl) rfl ?_; clear hE a; intro a hE
      refine WL.vS hS hE (runs_if hE rfl rfl rfl hg61) (Gives.p hE rfl) rfl ?_; clear hE a; intro a hE
      refine WL.vS hS hE (runs_plain rfl) (Gives.pickF hE rfl hg61 rfl) rfl ?_; clear hE a; intro a hE
      refine WL.vS hS hE (runs_plain rfl) (Gives.p hE rfl) rfl ?_; clear hE a; intro a hE
      rcases Bool.eq_false_or_eq_true (decide (q51.1 < 0)) with hg62 | hg62
      · replace hq55 := iteT hg62 hq55
        refine WL.no hE (runs_not hE rfl rfl rfl (by rw [hg62]; decide)) rfl ?_; clear hE a; intro a hE
        refine WL.no hE (runs_not hE rfl rfl rfl (by rw [hg62]; decide)) rfl ?_; clear hE a; intro a hE
        refine WL.no hE (runs_not hE rfl rfl rfl (by rw [hg62]; decide)) rfl ?_; clear hE a; intro a hE
        refine WL.no hE (runs_not hE rfl rfl rfl (by rw [hg62]; decide)) rfl ?_; clear hE a; intro a hE
        refine WL.vS hS hE (runs_plain rfl) (Gives.pickT hE rfl hg62 rfl) rfl ?_; clear hE a; intro a hE
        refine WL.nil ?_
        subst hK60
        exact ⟨true, Option.some.inj hq55, hE.pick _ ⟨rfl, rfl, trivial⟩, hS⟩
      · replace hq55 := iteF hg62 hq55
        refine WL.vS hS hE (runs_if hE rfl rfl rfl hg62) (Gives.p hE rfl) rfl ?_; clear hE a; intro a hE
        obtain ⟨q63, hq64, hq55⟩ := bindS hq55
        refine WL.fnq hE (itoa_ok hS (TabG.mono (Sg.Le.refl _) hTab).tab hq64) (runs_if hE rfl rfl rfl hg62) bd43 rfl rfl rfl ?_
        clear hE hS; rintro e w ⟨rfl, hS⟩; refine ⟨_, rfl, ?_⟩; clear a; intro a hE
        refine WL.vS hS hE (runs_if hE rfl rfl rfl hg62) (Gives.p hE rfl) rfl ?_; clear hE a; intro a hE
        refine WL.vS hS hE (runs_if hE rfl rfl rfl hg62) (Gives.neSt hE rfl rfl) rfl ?_; clear hE a; intro a hE
        refine WL.vS hS hE (runs_plain rfl) (Gives.pickF hE rfl hg62 rfl) rfl ?_; clear hE a; intro a hE
        refine WL.nil ?_
        subst hK60
        exact ⟨!(seq q63 x0), Option.some.inj hq55, hE.pick _ ⟨rfl, rfl, trivial⟩, hS⟩
  · clear hE hS a w; rintro a w ⟨q59, rfl, hE, hS⟩
    refine W.cond hE rfl (fun hc65 => ?_) (fun hc65 => ?_)
    · replace hr := iteT hc65 hr
      refine W.region ?_
      refine WL.vS hS hE (runs_plain rfl) (Gives.build hE (vs := []) [] rfl (by kernel_rfl)) rfl ?_; clear hE a; intro a hE
      refine WL.vS hS hE (runs_plain rfl) (Gives.iface hE rfl ifc138) rfl ?_; clear hE a; intro a hE
      refine WL.panic hE rfl (runs_plain rfl) ?_; clear hE a; intro a hE
      obtain rfl := Option.some.inj hr
      exact ⟨hE.defers.trans rfl, .inl ⟨rfl, rfl, s, (Sg.Le.refl _), hS⟩⟩
    · replace hr := iteF hc65 hr
      refine W.skip ?_
      refine W.seq ?_
      refine W.region ?_
      refine WL.vS hS hE (runs_plain rfl) (Gives.p hE rfl) rfl ?_; clear hE a; intro a hE
      refine WL.vS hS hE (runs_plain rfl) (Gives.p hE rfl) rfl ?_; clear hE a; intro a hE
      refine WL.nil ?_
      refine W.ret ?_
      refine finG (fn := Tryd.f76) (rs := [.tmp 2]) (vs := [_]) hE rfl ⟨rfl, trivial⟩ ?_
      obtain rfl := Option.some.inj hr
      exact .inr ⟨_, rfl, ⟨rfl, hS⟩⟩
set_option maxHeartbeats 8000000 in
theorem Fareopen_ok  {w : World} {s : Sg} {R : List HP} {x0 : ByteArray} (hS : St w s (R)) (hTab : TabX s) {r : (List Int) × Int × Bool} (hr : Fareopen x0 = some r) :
    Calls Tryd.prog 50 [.string x0].toArray w (fun e w => ∃ (a0 : Option Addr) (c0 n0 : Nat) (cs0 : List Value) (t : Sg), e = .returned (.tuple #[.slice a0 n0 c0, .int .i64 r.2.1, .bool r.2.2]) ∧ s.Le t ∧ Ev 1 (RI .i64) t cs0 r.1 ∧ r.1.length = n0 ∧ St w t (vecC 3 1 a0 c0 n0 cs0 :: R)) := by
  refine enterD Tryd.func50 rfl rfl rfl fun a hE => ?_
  rw [Fareopen] at hr
  refine W.seq ?_
  refine W.region ?_
  replace hS := hS.vecNil 3 1
  refine WL.vS hS hE (runs_plain rfl) (Gives.p hE rfl) rfl ?_; clear hE a; intro a hE
  refine WL.vS hS hE (runs_plain rfl) (Gives.p hE rfl) rfl ?_; clear hE a; intro a hE
  refine WL.alloc hE hS (runs_plain rfl) zr4 rfl ?_; clear hE hS a w; intro b52 a w hE hS
  refine WL.nil ?_
  refine W.seq ?_
  refine W.regionD rfl ?_
  refine WL.vS hS hE (runs_plain rfl) (Gives.mkfn hE (vs := [.pointer (some ⟨b52, 0, none⟩)]) rfl) rfl ?_; clear hE a; intro a hE
  refine WL.defer hE rfl (runs_plain rfl) rfl ?_; clear hE a; intro a hE
  refine WL.nil ?_
  refine W.seq ?_
  refine W.region ?_
  refine WL.vS hS hE (runs_plain rfl) (Gives.p hE rfl) rfl ?_; clear hE a; intro a hE
  obtain ⟨q53, hq54, hr⟩ := bindS hr
  have hc_ := StringsCutSuffix_ok hS  hq54
  refine WL.fnq hE (hc_) (runs_plain rfl) bd55 rfl rfl rfl ?_
  clear hE hS hc_; rintro e w ⟨rfl, hS⟩; refine ⟨_, rfl, ?_⟩; clear a; intro a hE
  refine WL.vS hS hE (runs_plain rfl) (Gives.p hE rfl) rfl ?_; clear hE a; intro a hE
  refine WL.vS hS hE (runs_plain rfl) (Gives.p hE rfl) rfl ?_; clear hE a; intro a hE
  refine WL.vS hS hE (runs_plain rfl) (Gives.p hE rfl) rfl ?_; clear hE a; intro a hE
  refine WL.vS hS hE (runs_plain rfl) (Gives.p hE rfl) rfl ?_; clear hE a; intro a hE
  refine WL.vS hS hE (runs_plain rfl) (Gives.p hE rfl) rfl ?_; clear hE a; intro a hE
  refine WL.nil ?_
  refine W.seq ?_
  refine W.region ?_
  refine WL.vS hS hE (runs_plain rfl) (Gives.p hE rfl) rfl ?_; clear hE a; intro a hE
  obtain ⟨q55, hq56, hr⟩ := bindS hr
  refine WL.fnq hE (split_ok hS (TabG.mono (Sg.Le.refl _) hTab) hq56) (runs_plain rfl) bd56 rfl rfl rfl ?_
  clear hE hS; rintro e w ⟨b57, cs58, rfl, h59, hS⟩; refine ⟨_, rfl, ?_⟩; clear a; intro a hE
  refine WL.vS hS hE (runs_plain rfl) (Gives.p hE rfl) rfl ?_; clear hE a; intro a hE
  refine WL.nil ?_
  refine W.seq ?_
  refine W.seq ?_
  refine W.region ?_
  refine WL.vS hS hE (runs_plain rfl) (Gives.p hE rfl) rfl ?_; clear hE a; intro a hE
  refine WL.vS hS hE (runs_plain rfl) (Gives.len hE rfl sl83) rfl ?_; clear hE a; intro a hE
  refine WL.vS hS hE (runs_plain rfl) (Gives.p hE rfl) rfl ?_; clear hE a; intro a hE
  refine WL.nil ?_
  refine W.seq ?_
  obtain ⟨q62, hq61, hr⟩ := bindS hr
  refine W.cut (fun a w => ∃ (q65 : Bool), q65 = q62 ∧ Rep a 65 [(2, .slice none 0 0), (3, .int .i64 0), (4, .pointer (some ⟨b52, 0, none⟩)), (7, .slice (some ⟨b57, 0, none⟩) q55.length q55.length), (40, .bool q65), (4294967295, .func (.func 75) #[] #[.pointer (some ⟨b52, 0, none⟩)])] ∧ St w s (vecC 9 1 (some ⟨b57, 0, none⟩) q55.length q55.length cs58 :: pt b52 (.cells #[.bool false] 4 (0, 0)) :: vecC 3 1 none 0 0 [] :: R)) ?_ ?_
  · refine W.gen fun K66 hK66 => ?_
    refine W.region ?_
    refine WL.vS hS hE (runs_plain rfl) (Gives.p hE rfl) rfl ?_; clear hE a; intro a hE
    refine WL.vS hS hE (runs_plain rfl) (Gives.p hE rfl) rfl ?_; clear hE a; intro a hE
    refine WL.vS hS hE (runs_plain rfl) (Gives.p hE rfl) rfl ?_; clear hE a; intro a hE
    rcases Bool.eq_false_or_eq_true !q53.2 with hg67 | hg67
    · replace hq61 := iteT hg67 hq61
      refine WL.no hE (runs_not hE rfl rfl rfl (by rw [hg67]; decide)) rfl ?_; clear hE a; intro a hE
      refine WL.no hE (runs_not hE rfl rfl rfl (by rw [hg67]; decide)) rfl ?_; clear hE a; intro a hE
      refine WL.vS hS hE (runs_plain rfl) (Gives.pickT hE rfl hg67 rfl) rfl ?_; clear hE a; intro a hE
      refine WL.vS hS hE (runs_plain rfl) (Gives.p hE rfl) rfl ?_; clear hE a; intro a hE
      refine WL.no hE (runs_not hE rfl rfl rfl (by decide)) rfl ?_; clear hE a; intro a hE
      refine WL.no hE (runs_not hE rfl rfl rfl (by decide)) rfl ?_; clear hE a; intro a hE
      refine WL.no hE (runs_not hE rfl rfl rfl (by decide)) rfl ?_; clear hE a; intro a hE
      refine WL.no hE (runs_not hE rfl rfl rfl (by decide)) rfl ?_; clear hE a; intro a hE
      refine WL.vS hS hE (runs_plain rfl) (Gives.pickT hE rfl rfl rfl) rfl ?_; clear hE a; intro a hE
      refine WL.vS hS hE (runs_plain rfl) (Gives.p hE rfl) rfl ?_; clear hE a; intro a hE
      refine WL.no hE (runs_not hE rfl rfl rfl (by decide)) rfl ?_; clear hE a; intro a hE
      refine WL.no hE (runs_not hE rfl rfl rfl (by decide)) rfl ?_; clear hE a; intro a hE
      refine WL.no hE (runs_not hE rfl rfl rfl (by decide)) rfl ?_; clear hE a; intro a hE
      refine WL.no hE (runs_not hE rfl rfl rfl (by decide)) rfl ?_; clear hE a; intro a hE
      refine WL.no hE (runs_not hE rfl rfl rfl (by decide)) rfl ?_; clear hE a; intro a hE
      refine WL.no hE (runs_not hE rfl rfl rfl (by decide)) rfl ?_; clear hE a; intro a hE
      refine WL.vS hS hE (runs_plain rfl) (Gives.pickT hE rfl rfl rfl) rfl ?_; clear hE a; intro a hE
      refine WL.nil ?_
      subst hK66
      exact ⟨true, Option.some.inj hq61, hE.pick _ ⟨rfl, rfl, rfl, rfl, rfl, rfl, trivial⟩, hS⟩
    · replace hq61 := iteF hg67 hq61
      refine WL.vS hS hE (runs_if hE rfl rfl rfl hg67) (Gives.p hE rfl) rfl ?_; clear hE a; intro a hE
      refine WL.vS hS hE (runs_if hE rfl rfl rfl hg67) (Gives.p hE rfl) rfl ?_; clear hE a; intro a hE
      refine WL.vS hS hE (runs_plain rfl) (Gives.pickF hE rfl hg67 rfl) rfl ?_; clear hE a; intro a hE
      refine WL.vS hS hE (runs_plain rfl) (Gives.p hE rfl) rfl ?_; clear hE a; intro a hE
      rcases Bool.eq_false_or_eq_true (decide (((q55.length : Nat) : Int) < 9)) with hg68 | hg68
      · replace hq61 := iteT hg68 hq61
        refine WL.no hE (runs_not hE rfl rfl rfl (by rw [hg68]; decide)) rfl ?_; clear hE a; intro a hE
        refine WL.no hE (runs_not hE rfl rfl rfl (by rw [hg68]; decide)) rfl ?_; clear hE a; intro a hE
        refine WL.no hE (runs_not hE rfl rfl rfl (by rw [hg68]; decide)) rfl ?_; clear hE a; intro a hE
        refine WL.no hE (runs_not hE rfl rfl rfl (by rw [hg68]; decide)) rfl ?_; clear hE a; intro a hE
        refine WL.vS hS hE (runs_plain rfl) (Gives.pickT hE rfl hg68 rfl) rfl ?_; clear hE a; intro a hE
        refine WL.vS hS hE (runs_plain rfl) (Gives.p hE rfl) rfl ?_; clear hE a; intro a hE
        refine WL.no hE (runs_not hE rfl rfl rfl (by decide)) rfl ?_; clear hE a; intro a hE
        refine WL.no hE (runs_not hE rfl rfl rfl (by decide)) rfl ?_; clear hE a; intro a hE
        refine WL.no hE (runs_not hE rfl rfl rfl (by decide)) rfl ?_; clear hE a; intro a hE
        refine WL.no hE (runs_not hE rfl rfl rfl (by decide)) rfl ?_; clear hE a; intro a hE
        refine WL.no hE (runs_not hE rfl rfl rfl (by decide)) rfl ?_; clear hE a; intro a hE
        refine WL.no hE (runs_not hE rfl rfl rfl (by decide)) rfl ?_; clear hE a; intro a hE
        refine WL.vS hS hE (runs_plain rfl) (Gives.pickT hE rfl rfl rfl) rfl ?_; clear hE a; intro a hE
        refine WL.nil ?_
        subst hK66
        exact ⟨true, Option.some.inj hq61, hE.pick _ ⟨rfl, rfl, rfl, rfl, rfl, rfl, trivial⟩, hS⟩
      · replace hq61 := iteF hg68 hq61
        refine WL.vS hS hE (runs_if hE rfl rfl rfl hg68) (Gives.p hE rfl) rfl ?_; clear hE a; intro a hE
        obtain ⟨x69, hx70, hq61⟩ := bindS hq61
        obtain ⟨hi71, hlt72, hy73⟩ := gx_some hx70
        obtain ⟨vs74, hl75, hR76, hd77, hget78⟩ := h59.at hy73
        subst hR76
        refine WL.vS hS hE (runs_if hE rfl rfl rfl hg68) (Gives.idx hE (((0 : Int)).toNat) rfl rfl sl83 hi71 (by omega) (hS.vecAok 0 rfl (by omega : ((0 : Int)).toNat < q55.length))) rfl ?_; clear hE a; intro a hE
        refine WL.vS hS hE (runs_if hE rfl rfl rfl hg68) (Gives.load1 hE rfl (fun w h => St.vecSees h 0 rfl (((0 : Int)).toNat * 1) _ hget78) ty9) rfl ?_; clear hE a; intro a hE
        refine WL.vS hS hE (runs_if hE rfl rfl rfl hg68) (Gives.neSt hE rfl rfl) rfl ?_; clear hE a; intro a hE
        refine WL.vS hS hE (runs_plain rfl) (Gives.pickF hE rfl hg68 rfl) rfl ?_; clear hE a; intro a hE
        refine WL.vS hS hE (runs_plain rfl) (Gives.p hE rfl) rfl ?_; clear hE a; intro a hE
        rcases Bool.eq_false_or_eq_true (!(seq x69 (str [116, 105, 99, 107, 101, 116]))) with hg79 | hg79
        · replace hq61 := iteT hg79 hq61
          refine WL.no hE (runs_not hE rfl rfl rfl (by rw [hg79]; decide)) rfl ?_; clear hE a; intro a hE
          refine WL.no hE (runs_not hE rfl rfl rfl (by rw [hg79]; decide)) rfl ?_; clear hE a; intro a hE
          refine WL.no hE (runs_not hE rfl rfl rfl (by rw [hg79]; decide)) rfl ?_; clear hE a; intro a hE
          refine WL.no hE (runs_not hE rfl rfl rfl (by rw [hg79]; decide)) rfl ?_; clear hE a; intro a hE
          refine WL.no hE (runs_not hE rfl rfl rfl (by rw [hg79]; decide)) rfl ?_; clear hE a; intro a hE
          refine WL.no hE (runs_not hE rfl rfl rfl (by rw [hg79]; decide)) rfl ?_; clear hE a; intro a hE
          refine WL.vS hS hE (runs_plain rfl) (Gives.pickT hE rfl hg79 rfl) rfl ?_; clear hE a; intro a hE
          refine WL.nil ?_
          subst hK66
          exact ⟨true, Option.some.inj hq61, hE.pick _ ⟨rfl, rfl, rfl, rfl, rfl, rfl, trivial⟩, hS⟩
        · replace hq61 := iteF hg79 hq61
          refine WL.vS hS hE (runs_if hE rfl rfl rfl hg79) (Gives.p hE rfl) rfl ?_; clear hE a; intro a hE
          refine WL.vS hS hE (runs_if hE rfl rfl rfl hg79) (Gives.p hE rfl) rfl ?_; clear hE a; intro a hE
          refine WL.vS hS hE (runs_if hE rfl rfl rfl hg79) (Gives.p hE rfl) rfl ?_; clear hE a; intro a hE
          obtain ⟨x80, hx81, hq61⟩ := bindS hq61
          obtain ⟨hi82, hlt83, hy84⟩ := gx_some hx81
          obtain ⟨vs85, hl86, hR87, hd88, hget89⟩ := h59.at hy84
          subst hR87
          refine WL.vS hS hE (runs_if hE rfl rfl rfl hg79) (Gives.idx hE ((w64 (((q55.length : Nat) : Int) - 2)).toNat) rfl rfl sl83 hi82 (by omega) (hS.vecAok 0 rfl (by omega : (w64 (((q55.length : Nat) : Int) - 2)).toNat < q55.length))) rfl ?_; clear hE a; intro a hE
          refine WL.vS hS hE (runs_if hE rfl rfl rfl hg79) (Gives.load1 hE rfl (fun w h => St.vecSees h 0 rfl ((w64 (((q55.length : Nat) : Int) - 2)).toNat * 1) _ hget89) ty9) rfl ?_; clear hE a; intro a hE
          refine WL.vS hS hE (runs_if hE rfl rfl rfl hg79) (Gives.neSt hE rfl rfl) rfl ?_; clear hE a; intro a hE
          refine WL.vS hS hE (runs_plain rfl) (Gives.pickF hE rfl hg79 rfl) rfl ?_; clear hE a; intro a hE
          refine WL.nil ?_
          subst hK66
          exact ⟨!(seq x80 (str [58])), Option.some.inj hq61, hE.pick _ ⟨rfl, rfl, rfl, rfl, rfl, rfl, trivial⟩, hS⟩
  · clear hE hS a w; rintro a w ⟨q65, rfl, hE, hS⟩
    refine W.cond hE rfl (fun hc90 => ?_) (fun hc90 => ?_)
    · replace hr := iteT hc90 hr
      refine W.seq ?_
      refine W.region ?_
      replace hS := hS.vecNil 3 1
      refine WL.vS hS hE (runs_plain rfl) (Gives.p hE rfl) rfl ?_; clear hE a; intro a hE
      refine WL.vS hS hE (runs_plain rfl) (Gives.p hE rfl) rfl ?_; clear hE a; intro a hE
      refine WL.storeI hE hS 2 rfl [.bool false] (runs_plain rfl) rfl rfl rfl ty4 rfl rfl rfl rfl ?_; clear hE hS a w; intro a w hE hS
      refine WL.nil ?_
      refine W.ret ?_
      refine leavesG (fn := Tryd.f50) (rs := [.tmp 2, .tmp 3, .cell 4 4]) (vs := [.slice none 0 0, .int .i64 0, .bool false]) hE rfl (by simp) bd75 rfl (callsD_mono (oc_ret_75 _ _) ?_)
      rintro e u w2 ⟨rfl, rfl, rfl⟩
      refine ⟨rfl, rfl, ⟨rfl, rfl, ⟨_, rfl, .inr ⟨hS.seesAt 2 rfl, ty4⟩⟩, trivial⟩, ?_⟩
      obtain rfl := Option.some.inj hr
      replace hS := hS.dropAt 1
      replace hS := hS.dropAt 1
      replace hS := hS.dropAt 1
      exact ⟨none, 0, 0, [], s, rfl, (Sg.Le.refl _), (Ev.nil), (rfl), hS⟩
    · replace hr := iteF hc90 hr
      refine W.skip ?_
      refine W.seq ?_
      refine W.seq ?_
      refine W.region ?_
      refine WL.vS hS hE (runs_plain rfl) (Gives.p hE rfl) rfl ?_; clear hE a; intro a hE
      refine WL.vS hS hE (runs_plain rfl) (Gives.p hE rfl) rfl ?_; clear hE a; intro a hE
      refine WL.vS hS hE (runs_plain rfl) (Gives.len hE rfl sl83) rfl ?_; clear hE a; intro a hE
      refine WL.vS hS hE (runs_plain rfl) (Gives.p hE rfl) rfl ?_; clear hE a; intro a hE
      have hF := hS.fixD RS.mono 0 rfl h59 (rfl); clear hS; obtain ⟨s92, hle93, hS, h94⟩ := hF
      obtain ⟨x95, hx96, hr⟩ := bindS hr
      obtain ⟨a97, c98, heq99, h100⟩ := h94.cut hx96
      obtain ⟨h101, h102, h103, _⟩ := cutl_some hx96
      refine WL.vS hS hE (runs_plain rfl) (Gives.slLH hE sl83 rfl rfl rfl h101 h102 (Int.le_trans h103 (by have := h94.len; omega)) heq99) rfl ?_; clear hE a; intro a hE
      refine WL.vS hS hE (runs_plain rfl) (Gives.len hE rfl sl83) rfl ?_; clear hE a; intro a hE
      refine WL.vS hS hE (runs_plain rfl) (Gives.p hE rfl) rfl ?_; clear hE a; intro a hE
      refine WL.nil ?_
      obtain ⟨q105, hq104, hr⟩ := bindS hr
      refine W.cut (fun a w => ∃ (q115 : List Int), ∃ (a116 : Option Addr), ∃ (c117 : Nat), ∃ (n119 : Nat), ∃ (cs120 : List Value), (.next q115) = q105 ∧ Ev 1 (RI .i64) s92 cs120 q115 ∧ q115.length = n119 ∧ Rep a 65 [(2, .slice a116 n119 c117), (3, .int .i64 0), (4, .pointer (some ⟨b52, 0, none⟩)), (7, .slice (some ⟨b57, 0, none⟩) q55.length q55.length), (4294967295, .func (.func 75) #[] #[.pointer (some ⟨b52, 0, none⟩)])] ∧ St w s92 (pt b52 (.cells #[.bool false] 4 (0, 0)) :: vecC 3 1 a116 c117 n119 cs120 :: R)) ?_ ?_
      · refine W.block ?_
        refine W.loop (fun m a w => ∃ (rest108 : List ByteArray) (k106 : Nat), ∃ (q115 : List Int), ∃ (a116 : Option Addr), ∃ (c117 : Nat), ∃ (n119 : Nat), ∃ (cs120 : List Value), rest108.length = m ∧ x95.drop k106 = rest108 ∧ Fareopen.loop1 rest108 q115 = some q105 ∧ Ev 1 (RI .i64) s92 cs120 q115 ∧ q115.length = n119 ∧ Rep a 65 [(2, .slice a116 n119 c117), (3, .int .i64 0), (4, .pointer (some ⟨b52, 0, none⟩)), (7, .slice (some ⟨b57, 0, none⟩) q55.length q55.length), (45, .slice a97 x95.length c98), (46, .int .i64 ((x95).length : Int)), (47, .int .i64 ((k106 : Nat) : Int)), (4294967295, .func (.func 75) #[] #[.pointer (some ⟨b52, 0, none⟩)])] ∧ St w s92 (pt b52 (.cells #[.bool false] 4 (0, 0)) :: vecC 3 1 a116 c117 n119 cs120 :: R)) (m := x95.length) ⟨x95, 0, [], none, 0, 0, [], rfl, rfl, hq104, (Ev.nil), (rfl), hE.pick _ ⟨rfl, rfl, rfl, rfl, rfl, rfl, rfl, rfl, trivial⟩, hS⟩ ?_
        clear hE hS a w hq104; rintro m112 a w ⟨rest108, k106, q115, a116, c117, n119, cs120, rfl, hd109, hq104, h118, rfl, hE, hS⟩
        refine W.gen fun K122 hK122 => ?_
        rcases rest108 with _ | ⟨x107, rest108⟩
        · have hlt110 := drop_nil hd109
          refine W.seq ?_
          refine W.region ?_
          refine WL.vS hS hE (runs_plain rfl) (Gives.p hE rfl) rfl ?_; clear hE a; intro a hE
          refine WL.nil ?_
          refine W.seq ?_
          refine W.condF hE rfl (decide_eq_false (by omega)) ?_
          subst hK122
          refine W.exit rfl ?_
          exact ⟨q115, a116, c117, q115.length, cs120, Option.some.inj hq104, h118, rfl, hE.pick _ ⟨rfl, rfl, rfl, rfl, rfl, trivial⟩, hS⟩
        · obtain ⟨hlt110, hx111, hd109⟩ := drop_cons hd109
          rw [Fareopen.loop1] at hq104
          refine W.seq ?_
          refine W.region ?_
          refine WL.vS hS hE (runs_plain rfl) (Gives.p hE rfl) rfl ?_; clear hE a; intro a hE
          refine WL.nil ?_
          refine W.seq ?_
          refine W.condT hE rfl (decide_eq_true (by omega)) ?_
          refine W.skip ?_
          refine W.seq ?_
          refine W.block ?_
          refine W.seq ?_
          refine W.region ?_
          obtain ⟨cs123, hl124, hR125, hat126⟩ := h100.at hx111
          subst hR125
          refine WL.vS hS hE (runs_plain rfl) (Gives.idx hE k106 rfl rfl sl83 rfl hlt110 (h100.aok hlt110)) rfl ?_; clear hE a; intro a hE
          refine WL.vS hS hE (runs_plain rfl) (Gives.load1 hE rfl (fun w h => hat126 w _ h) ty9) rfl ?_; clear hE a; intro a hE
          refine WL.vS hS hE (runs_plain rfl) (Gives.p hE rfl) rfl ?_; clear hE a; intro a hE
          refine WL.nil ?_
          refine W.region ?_
          refine WL.vS hS hE (runs_plain rfl) (Gives.p hE rfl) rfl ?_; clear hE a; intro a hE
          refine WL.vS hS hE (runs_plain rfl) (Gives.p hE rfl) rfl ?_; clear hE a; intro a hE
          obtain ⟨q127, hq128, hq104⟩ := bindS hq104
          have hc_ := Farenumber_ok hS (TabG.mono hle93 hTab) hq128
          refine WL.fnP hE (hc_) (runs_plain rfl) bd76 rfl rfl rfl ?_
          clear hE hS hc_; rintro e w (⟨hz130, rfl, t132, hle133, hS⟩ | ⟨rr129, hz131, rfl, hS⟩)
          · refine .inr ⟨_, rfl, ?_⟩; clear a; intro a hE
            rw [hz130] at hq104; dsimp only at hq104
            replace hS := hS.down hle133
            subst hK122
            rw [← Option.some.inj hq104] at hr
            dsimp only at hr
            obtain ⟨hc134, hz135⟩ := hS.cell1 0 rfl
            refine leavesG (fn := Tryd.f50) (rs := [.tmp 2, .tmp 3, .cell 4 4]) (vs := [.slice a116 q115.length c117, .int .i64 0, .bool false]) hE rfl (by simp) bd75 rfl (callsD_mono (oc_pan_75 _ _ _ hc134 hz135) ?_)
            rintro e u w2 ⟨rfl, rfl, o, rfl⟩
            replace hS := hS.recov 0 rfl o (.bool false)
            refine ⟨rfl, rfl, ⟨rfl, rfl, ⟨_, rfl, .inr ⟨hS.seesAt 0 rfl, ty4⟩⟩, trivial⟩, ?_⟩
            obtain rfl := Option.some.inj hr
            replace hS := hS.tail
            exact ⟨a116, c117, q115.length, cs120, s92, rfl, hle93, h118, rfl, hS⟩
          refine .inl ⟨_, rfl, ?_⟩; clear a; intro a hE
          rw [hz131] at hq104; dsimp only at hq104
          refine WL.lit hE hS (e := 3) (es := 1) (vs := [(0, .int .i64 rr129)]) (cs := [.int .i64 rr129]) (runs_plain rfl) rfl (by kernel_rfl) rfl ?_; clear hE hS a w; intro b136 a w hE hS
          obtain ⟨x137, hx138, hq104⟩ := bindS hq104
          refine WL.appD hE hS 1 (m := 1) (runs_plain rfl) rfl rfl rfl ap23 rfl h118 rfl (xs := [rr129]) (Ev.cons (c1 := [.int .i64 rr129]) rfl rfl (Ev.nil)) rfl rfl hx138 rfl ?_; clear hE hS a w; intro a139 c140 cs141 a w h142 hE hS
          refine WL.vS hS hE (runs_plain rfl) (Gives.p hE rfl) rfl ?_; clear hE a; intro a hE
          refine WL.nil ?_
          refine W.region ?_
          refine WL.vS hS hE (runs_plain rfl) (Gives.inc hE rfl (by have := h100.small; omega)) rfl ?_; clear hE a; intro a hE
          refine WL.vS hS hE (runs_plain rfl) (Gives.p hE rfl) rfl ?_; clear hE a; intro a hE
          refine WL.nil ?_
          subst hK122
          exact ⟨rest108.length, Nat.lt_succ_self _, rest108, k106 + 1, x137, a139, c140, x137.length, cs141, rfl, hd109, hq104, h142, (rfl), hE.pick _ ⟨rfl, rfl, rfl, rfl, rfl, rfl, rfl, rfl, trivial⟩, hS⟩
      · clear hE hS a w; rintro a w ⟨q115, a116, c117, n119, cs120, rfl, h118, rfl, hE, hS⟩
        dsimp only at hr
        refine W.seq ?_
        refine W.region ?_
        refine WL.vS hS hE (runs_plain rfl) (Gives.p hE rfl) rfl ?_; clear hE a; intro a hE
        refine WL.vS hS hE (runs_plain rfl) (Gives.p hE rfl) rfl ?_; clear hE a; intro a hE
        refine WL.vS hS hE (runs_plain rfl) (Gives.p hE rfl) rfl ?_; clear hE a; intro a hE
        refine WL.vS hS hE (runs_plain rfl) (Gives.len hE rfl sl83) rfl ?_; clear hE a; intro a hE
        refine WL.vS hS hE (runs_plain rfl) (Gives.p hE rfl) rfl ?_; clear hE a; intro a hE
        obtain ⟨x143, hx144, hr⟩ := bindS hr
        obtain ⟨hi145, hlt146, hy147⟩ := gx_some hx144
        obtain ⟨cs148, hl149, hR150, hat151⟩ := h94.at hy147
        subst hR150
        refine WL.vS hS hE (runs_plain rfl) (Gives.idx hE (w64 (((q55).length : Int) - 1)).toNat rfl rfl sl83 hi145 hlt146 (h94.aok hlt146)) rfl ?_; clear hE a; intro a hE
        refine WL.vS hS hE (runs_plain rfl) (Gives.load1 hE rfl (fun w h => hat151 w _ h) ty9) rfl ?_; clear hE a; intro a hE
        obtain ⟨q152, hq153, hr⟩ := bindS hr
        have hc_ := Farenumber_ok hS (TabG.mono hle93 hTab) hq153
        refine WL.fnP hE (hc_) (runs_plain rfl) bd76 rfl rfl rfl ?_
        clear hE hS hc_; rintro e w (⟨hz155, rfl, t157, hle158, hS⟩ | ⟨rr154, hz156, rfl, hS⟩)
        · refine .inr ⟨_, rfl, ?_⟩; clear a; intro a hE
          rw [hz155] at hr; dsimp only at hr
          replace hS := hS.down hle158
          obtain ⟨hc159, hz160⟩ := hS.cell1 0 rfl
          refine leavesG (fn := Tryd.f50) (rs := [.tmp 2, .tmp 3, .cell 4 4]) (vs := [.slice a116 q115.length c117, .int .i64 0, .bool false]) hE rfl (by simp) bd75 rfl (callsD_mono (oc_pan_75 _ _ _ hc159 hz160) ?_)
          rintro e u w2 ⟨rfl, rfl, o, rfl⟩
          replace hS := hS.recov 0 rfl o (.bool false)
          refine ⟨rfl, rfl, ⟨rfl, rfl, ⟨_, rfl, .inr ⟨hS.seesAt 0 rfl, ty4⟩⟩, trivial⟩, ?_⟩
          obtain rfl := Option.some.inj hr
          replace hS := hS.tail
          exact ⟨a116, c117, q115.length, cs120, s92, rfl, hle93, h118, rfl, hS⟩
        refine .inl ⟨_, rfl, ?_⟩; clear a; intro a hE
        rw [hz156] at hr; dsimp only at hr
        refine WL.vS hS hE (runs_plain rfl) (Gives.p hE rfl) rfl ?_; clear hE a; intro a hE
        refine WL.vS hS hE (runs_plain rfl) (Gives.p hE rfl) rfl ?_; clear hE a; intro a hE
        refine WL.storeI hE hS 0 rfl [.bool true] (runs_plain rfl) rfl rfl rfl ty4 rfl rfl rfl rfl ?_; clear hE hS a w; intro a w hE hS
        refine WL.nil ?_
        refine W.ret ?_
        refine leavesG (fn := Tryd.f50) (rs := [.tmp 2, .tmp 3, .cell 4 4]) (vs := [.slice a116 q115.length c117, .int .i64 rr154, .bool true]) hE rfl (by simp) bd75 rfl (callsD_mono (oc_ret_75 _ _) ?_)
        rintro e u w2 ⟨rfl, rfl, rfl⟩
        refine ⟨rfl, rfl, ⟨rfl, rfl, ⟨_, rfl, .inr ⟨hS.seesAt 0 rfl, ty4⟩⟩, trivial⟩, ?_⟩
        obtain rfl := Option.some.inj hr
        replace hS := hS.tail
        exact ⟨a116, c117, q115.length, cs120, s92, rfl, hle93, h118, rfl, hS⟩
set_option maxHeartbeats 8000000 in
theorem InternalBytealgLastIndexByteString_ok {fu : Nat}  {w : World} {s : Sg} {R : List HP} {x0 : ByteArray} {x1 : Int} (hS : St w s (R))  {r : Int} (hr : InternalBytealgLastIndexByteString fu x0 x1 = some r) :
    Calls Tryd.prog 79 [.string x0, .int .u8 x1].toArray w (fun e w => e = .returned (.int .i64 r) ∧ St w s (R)) := by
  refine enter Tryd.func79 rfl rfl rfl fun a hE => ?_
  rw [InternalBytealgLastIndexByteString] at hr
  refine W.seq ?_
  refine W.region ?_
  refine WL.vS hS hE (runs_plain rfl) (Gives.p hE rfl) rfl ?_; clear hE a; intro a hE
  refine WL.nil ?_
  refine W.seq ?_
  refine W.seq ?_
  refine W.region ?_
  refine WL.vS hS hE (runs_plain rfl) (Gives.p hE rfl) rfl ?_; clear hE a; intro a hE
  refine WL.vS hS hE (runs_plain rfl) (Gives.lenS hE rfl st9) rfl ?_; clear hE a; intro a hE
  refine WL.vS hS hE (runs_plain rfl) (Gives.p hE rfl) rfl ?_; clear hE a; intro a hE
  refine WL.vS hS hE (runs_plain rfl) (Gives.p hE rfl) rfl ?_; clear hE a; intro a hE
  refine WL.nil ?_
  obtain ⟨q52, hq51, hr⟩ := bindS hr
  refine W.cut (fun a w => ∃ (q57 : Int), (.next q57) = q52 ∧ Rep a 19 [] ∧ St w s (R)) ?_ ?_
  · refine W.block ?_
    refine W.loop (fun m a w => ∃ (n53 : Nat), ∃ (q57 : Int), n53 = m ∧ InternalBytealgLastIndexByteString.loop1 x0 x1 n53 q57 = some q52 ∧ Rep a 19 [(0, .string x0), (1, .int .u8 x1), (5, .int .i64 q57)] ∧ St w s (R)) (m := fu) ⟨fu, (w64 (((x0.size : Nat) : Int) - 1)), rfl, hq51, hE.pick _ ⟨rfl, rfl, rfl, trivial⟩, hS⟩ ?_
    clear hE hS a w hq51; rintro m54 a w ⟨n53, q57, rfl, hq51, hE, hS⟩
    refine W.gen fun K58 hK58 => ?_
    rcases n53 with _ | n53
    · rw [InternalBytealgLastIndexByteString.loop1] at hq51; exact absurd hq51 (by simp)
    rw [InternalBytealgLastIndexByteString.loop1] at hq51
    refine W.seq ?_
    refine W.seq ?_
    refine W.region ?_
    refine WL.vS hS hE (runs_plain rfl) (Gives.p hE rfl) rfl ?_; clear hE a; intro a hE
    refine WL.vS hS hE (runs_plain rfl) (Gives.p hE rfl) rfl ?_; clear hE a; intro a hE
    refine WL.nil ?_
    refine W.cond hE rfl (fun hc59 => ?_) (fun hc59 => ?_)
    · replace hq51 := iteT hc59 hq51
      refine W.skip ?_
      refine W.seq ?_
      refine W.block ?_
      refine W.seq ?_
      refine W.region ?_
      refine WL.vS hS hE (runs_plain rfl) (Gives.p hE rfl) rfl ?_; clear hE a; intro a hE
      refine WL.vS hS hE (runs_plain rfl) (Gives.p hE rfl) rfl ?_; clear hE a; intro a hE
      obtain ⟨x60, hx61, hq51⟩ := bindS hq51
      refine WL.vS hS hE (runs_plain rfl) (Gives.idxS hE st9 rfl rfl hx61) rfl ?_; clear hE a; intro a hE
      refine WL.vS hS hE (runs_plain rfl) (Gives.p hE rfl) rfl ?_; clear hE a; intro a hE
      refine WL.vS hS hE (runs_plain rfl) (Gives.p hE rfl) rfl ?_; clear hE a; intro a hE
      refine WL.nil ?_
      refine W.cond hE rfl (fun hc62 => ?_) (fun hc62 => ?_)
      · replace hq51 := iteT hc62 hq51
        refine W.seq ?_
        refine W.region ?_
        refine WL.vS hS hE (runs_plain rfl) (Gives.p hE rfl) rfl ?_; clear hE a; intro a hE
        refine WL.vS hS hE (runs_plain rfl) (Gives.p hE rfl) rfl ?_; clear hE a; intro a hE
        refine WL.nil ?_
        refine W.ret ?_
        subst hK58
        rw [← Option.some.inj hq51] at hr
        dsimp only at hr
        refine finG (fn := Tryd.f79) (rs := [.tmp 4]) (vs := [_]) hE rfl ⟨rfl, trivial⟩ ?_
        obtain rfl := Option.some.inj hr
        exact ⟨rfl, hS⟩
      · replace hq51 := iteF hc62 hq51
        refine W.skip ?_
        refine W.region ?_
        refine WL.vS hS hE (runs_plain rfl) (Gives.p hE rfl) rfl ?_; clear hE a; intro a hE
        refine WL.vS hS hE (runs_plain rfl) (Gives.p hE rfl) rfl ?_; clear hE a; intro a hE
        refine WL.vS hS hE (runs_plain rfl) (Gives.p hE rfl) rfl ?_; clear hE a; intro a hE
        refine WL.nil ?_
        subst hK58
        exact ⟨n53, Nat.lt_succ_self _, n53, (w64 (q57 - 1)), rfl, hq51, hE.pick _ ⟨rfl, rfl, rfl, trivial⟩, hS⟩
    · replace hq51 := iteF hc59 hq51
      subst hK58
      refine W.exit rfl ?_
      exact ⟨q57, Option.some.inj hq51, hE.pick _ trivial, hS⟩
  · clear hE hS a w; rintro a w ⟨q57, rfl, hE, hS⟩
    dsimp only at hr
    refine W.seq ?_
    refine W.region ?_
    refine WL.vS hS hE (runs_plain rfl) (Gives.p hE rfl) rfl ?_; clear hE a; intro a hE
    refine WL.nil ?_
    refine W.ret ?_
    refine finG (fn := Tryd.f79) (rs := [.tmp 4]) (vs := [_]) hE rfl ⟨rfl, trivial⟩ ?_
    obtain rfl := Option.some.inj hr
    exact ⟨rfl, hS⟩
set_option maxHeartbeats 8000000 in
theorem StringsLastIndexByte_ok {fu : Nat}  {w : World} {s : Sg} {R : List HP} {x0 : ByteArray} {x1 : Int} (hS : St w s (R))  {r : Int} (hr : StringsLastIndexByte fu x0 x1 = some r) :
    Calls Tryd.prog 52 [.string x0, .int .u8 x1].toArray w (fun e w => e = .returned (.int .i64 r) ∧ St w s (R)) := by
  refine enter Tryd.func52 rfl rfl rfl fun a hE => ?_
  rw [StringsLastIndexByte] at hr
  refine W.seq ?_
  refine W.region ?_
  refine WL.vS hS hE (runs_plain rfl) (Gives.p hE rfl) rfl ?_; clear hE a; intro a hE
  refine WL.nil ?_
  refine W.seq ?_
  refine W.region ?_
  refine WL.vS hS hE (runs_plain rfl) (Gives.p hE rfl) rfl ?_; clear hE a; intro a hE
  refine WL.vS hS hE (runs_plain rfl) (Gives.p hE rfl) rfl ?_; clear hE a; intro a hE
  obtain ⟨q51, hq52, hr⟩ := bindS hr
  have hc_ := InternalBytealgLastIndexByteString_ok hS  hq52
  refine WL.fnq hE (hc_) (runs_plain rfl) bd79 rfl rfl rfl ?_
  clear hE hS hc_; rintro e w ⟨rfl, hS⟩; refine ⟨_, rfl, ?_⟩; clear a; intro a hE
  refine WL.vS hS hE (runs_plain rfl) (Gives.p hE rfl) rfl ?_; clear hE a; intro a hE
  refine WL.nil ?_
  refine W.ret ?_
  refine finG (fn := Tryd.f52) (rs := [.tmp 4]) (vs := [_]) hE rfl ⟨rfl, trivial⟩ ?_
  obtain rfl := Option.some.inj hr
  exact ⟨rfl, hS⟩
set_option maxHeartbeats 8000000 in
theorem Farepower_ok {fu : Nat}  {w : World} {s : Sg} {R : List HP} {x0 : Int} {x1 : Int} {x2 : Int} (hS : St w s (R))  {r : Int} (hr : Farepower fu x0 x1 x2 = some r) :
    Calls Tryd.prog 77 [.int .i64 x0, .int .i64 x1, .int .i64 x2].toArray w (fun e w => e = .returned (.int .i64 r) ∧ St w s (R)) := by
  refine enter Tryd.func77 rfl rfl rfl fun a hE => ?_
  rw [Farepower] at hr
  refine W.seq ?_
  refine W.region ?_
  refine WL.vS hS hE (runs_plain rfl) (Gives.p hE rfl) rfl ?_; clear hE a; intro a hE
  refine WL.nil ?_
  refine W.seq ?_
  refine W.region ?_
  refine WL.vS hS hE (runs_plain rfl) (Gives.p hE rfl) rfl ?_; clear hE a; intro a hE
  obtain ⟨x51, hx52, hr⟩ := bindS hr
  refine WL.vS hS hE (runs_plain rfl) (Gives.rm hE rfl rfl hx52) rfl ?_; clear hE a; intro a hE
  refine WL.vS hS hE (runs_plain rfl) (Gives.p hE rfl) rfl ?_; clear hE a; intro a hE
  refine WL.nil ?_
  refine W.seq ?_
  refine W.seq ?_
  refine W.region ?_
  refine WL.vS hS hE (runs_plain rfl) (Gives.p hE rfl) rfl ?_; clear hE a; intro a hE
  refine WL.vS hS hE (runs_plain rfl) (Gives.p hE rfl) rfl ?_; clear hE a; intro a hE
  obtain ⟨x53, hx54, hr⟩ := bindS hr
  refine WL.vS hS hE (runs_plain rfl) (Gives.rm hE rfl rfl hx54) rfl ?_; clear hE a; intro a hE
  refine WL.vS hS hE (runs_plain rfl) (Gives.p hE rfl) rfl ?_; clear hE a; intro a hE
  refine WL.nil ?_
  obtain ⟨q56, hq55, hr⟩ := bindS hr
  refine W.cut (fun a w => ∃ (q61 : Int), ∃ (q62 : Int), ∃ (q63 : Int), (q61, q62, q63) = q56 ∧ Rep a 31 [(7, .int .i64 q63)] ∧ St w s (R)) ?_ ?_
  · refine W.block ?_
    refine W.loop (fun m a w => ∃ (n57 : Nat), ∃ (q61 : Int), ∃ (q62 : Int), ∃ (q63 : Int), n57 = m ∧ Farepower.loop1 x2 n57 q61 q62 q63 = some q56 ∧ Rep a 31 [(0, .int .i64 q61), (1, .int .i64 q62), (2, .int .i64 x2), (7, .int .i64 q63)] ∧ St w s (R)) (m := fu) ⟨fu, x53, x1, x51, rfl, hq55, hE.pick _ ⟨rfl, rfl, rfl, rfl, trivial⟩, hS⟩ ?_
    clear hE hS a w hq55; rintro m58 a w ⟨n57, q61, q62, q63, rfl, hq55, hE, hS⟩
    refine W.gen fun K64 hK64 => ?_
    rcases n57 with _ | n57
    · rw [Farepower.loop1] at hq55; exact absurd hq55 (by simp)
    rw [Farepower.loop1] at hq55
    refine W.seq ?_
    refine W.seq ?_
    refine W.region ?_
    refine WL.vS hS hE (runs_plain rfl) (Gives.p hE rfl) rfl ?_; clear hE a; intro a hE
    refine WL.vS hS hE (runs_plain rfl) (Gives.p hE rfl) rfl ?_; clear hE a; intro a hE
    refine WL.nil ?_
    refine W.cond hE rfl (fun hc65 => ?_) (fun hc65 => ?_)
    · replace hq55 := iteT hc65 hq55
      refine W.skip ?_
      refine W.seq ?_
      refine W.block ?_
      refine W.seq ?_
      refine W.seq ?_
      refine W.region ?_
      refine WL.vS hS hE (runs_plain rfl) (Gives.p hE rfl) rfl ?_; clear hE a; intro a hE
      refine WL.vS hS hE (runs_plain rfl) (Gives.p hE rfl) rfl ?_; clear hE a; intro a hE
      refine WL.vS hS hE (runs_plain rfl) (Gives.p hE rfl) rfl ?_; clear hE a; intro a hE
      refine WL.nil ?_
      obtain ⟨q67, hq66, hq55⟩ := bindS hq55
      refine W.cut (fun a w => ∃ (q70 : Int), q70 = q67 ∧ Rep a 31 [(0, .int .i64 q61), (1, .int .i64 q62), (2, .int .i64 x2), (7, .int .i64 q70)] ∧ St w s (R)) ?_ ?_
      · refine W.gen fun K71 hK71 => ?_
        refine W.cond hE rfl (fun hc72 => ?_) (fun hc72 => ?_)
        · replace hq66 := iteT hc72 hq66
          refine W.region ?_
          refine WL.vS hS hE (runs_plain rfl) (Gives.p hE rfl) rfl ?_; clear hE a; intro a hE
          refine WL.vS hS hE (runs_plain rfl) (Gives.p hE rfl) rfl ?_; clear hE a; intro a hE
          refine WL.vS hS hE (runs_plain rfl) (Gives.p hE rfl) rfl ?_; clear hE a; intro a hE
          refine WL.vS hS hE (runs_plain rfl) (Gives.p hE rfl) rfl ?_; clear hE a; intro a hE
          obtain ⟨x73, hx74, hq66⟩ := bindS hq66
          refine WL.vS hS hE (runs_plain rfl) (Gives.rm hE rfl rfl hx74) rfl ?_; clear hE a; intro a hE
          refine WL.vS hS hE (runs_plain rfl) (Gives.p hE rfl) rfl ?_; clear hE a; intro a hE
          refine WL.nil ?_
          subst hK71
          exact ⟨x73, Option.some.inj hq66, hE.pick _ ⟨rfl, rfl, rfl, rfl, trivial⟩, hS⟩
        · replace hq66 := iteF hc72 hq66
          refine W.skip ?_
          subst hK71
          exact ⟨q63, Option.some.inj hq66, hE.pick _ ⟨rfl, rfl, rfl, rfl, trivial⟩, hS⟩
      · clear hE hS a w; rintro a w ⟨q70, rfl, hE, hS⟩
        refine W.region ?_
        refine WL.vS hS hE (runs_plain rfl) (Gives.p hE rfl) rfl ?_; clear hE a; intro a hE
        refine WL.vS hS hE (runs_plain rfl) (Gives.p hE rfl) rfl ?_; clear hE a; intro a hE
        refine WL.vS hS hE (runs_plain rfl) (Gives.p hE rfl) rfl ?_; clear hE a; intro a hE
        refine WL.vS hS hE (runs_plain rfl) (Gives.p hE rfl) rfl ?_; clear hE a; intro a hE
        obtain ⟨x75, hx76, hq55⟩ := bindS hq55
        refine WL.vS hS hE (runs_plain rfl) (Gives.rm hE rfl rfl hx76) rfl ?_; clear hE a; intro a hE
        refine WL.vS hS hE (runs_plain rfl) (Gives.p hE rfl) rfl ?_; clear hE a; intro a hE
        refine WL.nil ?_
        refine W.region ?_
        refine WL.vS hS hE (runs_plain rfl) (Gives.p hE rfl) rfl ?_; clear hE a; intro a hE
        refine WL.vS hS hE (runs_plain rfl) (Gives.shr hE rfl rfl (by decide)) rfl ?_; clear hE a; intro a hE
        refine WL.vS hS hE (runs_plain rfl) (Gives.p hE rfl) rfl ?_; clear hE a; intro a hE
        refine WL.nil ?_
        subst hK64
        exact ⟨n57, Nat.lt_succ_self _, n57, x75, (Int.fdiv q62 (2 ^ (min (Int.toNat 1) (IntKind.bits .i64)))), q70, rfl, hq55, hE.pick _ ⟨rfl, rfl, rfl, rfl, trivial⟩, hS⟩
    · replace hq55 := iteF hc65 hq55
      subst hK64
      refine W.exit rfl ?_
      exact ⟨q61, q62, q63, Option.some.inj hq55, hE.pick _ ⟨rfl, trivial⟩, hS⟩
  · clear hE hS a w; rintro a w ⟨q61, q62, q63, rfl, hE, hS⟩
    dsimp only at hr
    refine W.seq ?_
    refine W.region ?_
    refine WL.vS hS hE (runs_plain rfl) (Gives.p hE rfl) rfl ?_; clear hE a; intro a hE
    refine WL.vS hS hE (runs_plain rfl) (Gives.p hE rfl) rfl ?_; clear hE a; intro a hE
    refine WL.nil ?_
    refine W.ret ?_
    refine finG (fn := Tryd.f77) (rs := [.tmp 6]) (vs := [_]) hE rfl ⟨rfl, trivial⟩ ?_
    obtain rfl := Option.some.inj hr
    exact ⟨rfl, hS⟩
set_option maxHeartbeats 8000000 in
theorem FareDigest_ok  {w : World} {s : Sg} {R : List HP} {x0 : ByteArray} (hS : St w s (R))  {r : Int} (hr : FareDigest x0 = some r) :
    Calls Tryd.prog 78 [.string x0].toArray w (fun e w => e = .returned (.int .i64 r) ∧ St w s (R)) := by
  refine enter Tryd.func78 rfl rfl rfl fun a hE => ?_
  rw [FareDigest] at hr
  refine W.seq ?_
  refine W.region ?_
  refine WL.vS hS hE (runs_plain rfl) (Gives.p hE rfl) rfl ?_; clear hE a; intro a hE
  refine WL.nil ?_
  refine W.seq ?_
  refine W.region ?_
  refine WL.vS hS hE (runs_plain rfl) (Gives.p hE rfl) rfl ?_; clear hE a; intro a hE
  refine WL.nil ?_
  refine W.seq ?_
  refine W.seq ?_
  refine W.region ?_
  refine WL.vS hS hE (runs_plain rfl) (Gives.p hE rfl) rfl ?_; clear hE a; intro a hE
  refine WL.vS hS hE (runs_plain rfl) (Gives.lenS hE rfl st9) rfl ?_; clear hE a; intro a hE
  refine WL.vS hS hE (runs_plain rfl) (Gives.p hE rfl) rfl ?_; clear hE a; intro a hE
  refine WL.nil ?_
  obtain ⟨_, hx62, hr⟩ := bindS hr
  have hb63 := szok_some hx62
  obtain ⟨q52, hq51, hr⟩ := bindS hr
  refine W.cut (fun a w => ∃ (q64 : Int), q64 = q52 ∧ Rep a 21 [(3, .int .i64 q64)] ∧ St w s (R)) ?_ ?_
  · refine W.block ?_
    refine W.loop (fun m a w => ∃ (rest55 : Nat) (k53 : Nat), ∃ (q64 : Int), rest55 = m ∧ k53 + rest55 = x0.size ∧ FareDigest.loop1 x0 rest55 k53 q64 = some q52 ∧ Rep a 21 [(0, .string x0), (3, .int .i64 q64), (6, .int .i64 ((x0.size : Nat) : Int)), (7, .int .i64 ((k53 : Nat) : Int))] ∧ St w s (R)) (m := x0.size) ⟨x0.size, 0, 1, rfl, by omega, hq51, hE.pick _ ⟨rfl, rfl, rfl, rfl, trivial⟩, hS⟩ ?_
    clear hE hS a w hq51; rintro m59 a w ⟨rest55, k53, q64, rfl, hd56, hq51, hE, hS⟩
    refine W.gen fun K65 hK65 => ?_
    rcases rest55 with _ | rest55
    · skip
      refine W.seq ?_
      refine W.region ?_
      refine WL.vS hS hE (runs_plain rfl) (Gives.p hE rfl) rfl ?_; clear hE a; intro a hE
      refine WL.nil ?_
      refine W.seq ?_
      refine W.condF hE rfl (decide_eq_false (by omega)) ?_
      subst hK65
      refine W.exit rfl ?_
      exact ⟨q64, Option.some.inj hq51, hE.pick _ ⟨rfl, trivial⟩, hS⟩
    · have hlt57 : k53 < x0.size := by omega
      rw [FareDigest.loop1] at hq51
      refine W.seq ?_
      refine W.region ?_
      refine WL.vS hS hE (runs_plain rfl) (Gives.p hE rfl) rfl ?_; clear hE a; intro a hE
      refine WL.nil ?_
      refine W.seq ?_
      refine W.condT hE rfl (decide_eq_true (by omega)) ?_
      refine W.skip ?_
      refine W.seq ?_
      refine W.block ?_
      refine W.seq ?_
      refine W.region ?_
      refine WL.vS hS hE (runs_plain rfl) (Gives.p hE rfl) rfl ?_; clear hE a; intro a hE
      refine WL.vS hS hE (runs_plain rfl) (Gives.p hE rfl) rfl ?_; clear hE a; intro a hE
      refine WL.nil ?_
      refine W.region ?_
      refine WL.vS hS hE (runs_plain rfl) (Gives.p hE rfl) rfl ?_; clear hE a; intro a hE
      refine WL.vS hS hE (runs_plain rfl) (Gives.p hE rfl) rfl ?_; clear hE a; intro a hE
      refine WL.vS hS hE (runs_plain rfl) (Gives.p hE rfl) rfl ?_; clear hE a; intro a hE
      refine WL.vS hS hE (runs_plain rfl) (Gives.p hE rfl) rfl ?_; clear hE a; intro a hE
      obtain ⟨x66, hx67, hq51⟩ := bindS hq51
      refine WL.vS hS hE (runs_plain rfl) (Gives.idxS hE st9 rfl rfl hx67) rfl ?_; clear hE a; intro a hE
      refine WL.vS hS hE (runs_plain rfl) (Gives.conv hE rfl hu5 ui3) rfl ?_; clear hE a; intro a hE
      refine WL.vS hS hE (runs_plain rfl) (Gives.p hE rfl) rfl ?_; clear hE a; intro a hE
      refine WL.vS hS hE (runs_plain rfl) (Gives.p hE rfl) rfl ?_; clear hE a; intro a hE
      refine WL.vS hS hE (runs_plain rfl) (Gives.p hE rfl) rfl ?_; clear hE a; intro a hE
      refine WL.vS hS hE (runs_plain rfl) (Gives.p hE rfl) rfl ?_; clear hE a; intro a hE
      refine WL.nil ?_
      refine W.region ?_
      refine WL.vS hS hE (runs_plain rfl) (Gives.inc hE rfl (by omega)) rfl ?_; clear hE a; intro a hE
      refine WL.vS hS hE (runs_plain rfl) (Gives.p hE rfl) rfl ?_; clear hE a; intro a hE
      refine WL.nil ?_
      subst hK65
      exact ⟨rest55, Nat.lt_succ_self _, rest55, k53 + 1, (Int.tmod (w64 ((w64 ((w64 (q64 * 257)) + (w64 x66))) + 1)) 999983), rfl, (by omega), hq51, hE.pick _ ⟨rfl, rfl, rfl, rfl, trivial⟩, hS⟩
  · clear hE hS a w; rintro a w ⟨q64, rfl, hE, hS⟩
    refine W.seq ?_
    refine W.region ?_
    refine WL.vS hS hE (runs_plain rfl) (Gives.p hE rfl) rfl ?_; clear hE a; intro a hE
    refine WL.vS hS hE (runs_plain rfl) (Gives.p hE rfl) rfl ?_; clear hE a; intro a hE
    refine WL.nil ?_
    refine W.ret ?_
    refine finG (fn := Tryd.f78) (rs := [.tmp 2]) (vs := [_]) hE rfl ⟨rfl, trivial⟩ ?_
    obtain rfl := Option.some.inj hr
    exact ⟨rfl, hS⟩
set_option maxHeartbeats 8000000 in
theorem FareVerify_ok {fu : Nat}  {w : World} {s : Sg} {R : List HP} {x0 : FareKey} {x1 : ByteArray} {x2 : Int} (hS : St w s (R))  {r : Bool × Int} (hr : FareVerify fu x0 x1 x2 = some r) :
    Calls Tryd.prog 51 [.agg (FareKey.cells x0).toArray, .string x1, .int .i64 x2].toArray w (fun e w => e = .returned (.tuple #[.bool r.1, .int .i64 r.2]) ∧ St w s (R)) := by
  refine enter Tryd.func51 rfl rfl rfl fun a hE => ?_
  rw [FareVerify] at hr
  refine W.seq ?_
  refine W.region ?_
  refine WL.box hE hS (runs_plain rfl) rfl rfl rfl ?_; clear hE hS a w; intro b51 a w hE hS
  refine WL.vS hS hE (runs_plain rfl) (Gives.p hE rfl) rfl ?_; clear hE a; intro a hE
  refine WL.vS hS hE (runs_plain rfl) (Gives.p hE rfl) rfl ?_; clear hE a; intro a hE
  refine WL.nil ?_
  refine W.seq ?_
  refine W.seq ?_
  refine W.region ?_
  refine WL.vS hS hE (runs_plain rfl) (Gives.loadBA hE 0 rfl rfl ty44) rfl ?_; clear hE a; intro a hE
  refine WL.fnq hE (FareKeycheck_ok hS  rfl (r := FareKeycheck x0 false)) (runs_plain rfl) bd49 rfl rfl rfl ?_
  clear hE hS; rintro e w ⟨rfl, hS⟩; refine ⟨_, rfl, ?_⟩; clear a; intro a hE
  refine WL.vS hS hE (runs_plain rfl) (Gives.p hE rfl) rfl ?_; clear hE a; intro a hE
  refine WL.nil ?_
  refine W.seq ?_
  refine W.region ?_
  refine WL.vS hS hE (runs_plain rfl) (Gives.p hE rfl) rfl ?_; clear hE a; intro a hE
  refine WL.vS hS hE (runs_plain rfl) (Gives.p hE rfl) rfl ?_; clear hE a; intro a hE
  refine WL.nil ?_
  refine W.cond hE rfl (fun hc52 => ?_) (fun hc52 => ?_)
  · replace hr := iteT hc52 hr
    refine W.seq ?_
    refine W.region ?_
    refine WL.vS hS hE (runs_plain rfl) (Gives.p hE rfl) rfl ?_; clear hE a; intro a hE
    refine WL.vS hS hE (runs_plain rfl) (Gives.p hE rfl) rfl ?_; clear hE a; intro a hE
    refine WL.vS hS hE (runs_plain rfl) (Gives.p hE rfl) rfl ?_; clear hE a; intro a hE
    refine WL.nil ?_
    refine W.ret ?_
    refine finG (fn := Tryd.f51) (rs := [.tmp 6, .tmp 7]) (vs := [_, _]) hE rfl ⟨rfl, rfl, trivial⟩ ?_
    obtain rfl := Option.some.inj hr
    replace hS := hS.tail
    exact ⟨rfl, hS⟩
  · replace hr := iteF hc52 hr
    refine W.skip ?_
    refine W.seq ?_
    obtain ⟨q54, hq53, hr⟩ := bindS hr
    refine W.cut (fun a w => ∃ (q57 : Bool), ∃ (q58 : Int), (q57, q58) = q54 ∧ Rep a 30 [(6, .bool q57), (7, .int .i64 q58)] ∧ St w s (pt b51 (.cells (FareKey.cells x0).toArray 44 (0, 0)) :: R)) ?_ ?_
    · refine W.gen fun K59 hK59 => ?_
      refine W.region ?_
      refine WL.vS hS hE (runs_plain rfl) (Gives.p hE rfl) rfl ?_; clear hE a; intro a hE
      refine WL.vS hS hE (runs_plain rfl) (Gives.fld hE rfl fl44_0) rfl ?_; clear hE a; intro a hE
      refine WL.vS hS hE (runs_plain rfl) (Gives.loadB hE 0 rfl rfl rfl ty3) rfl ?_; clear hE a; intro a hE
      refine WL.vS hS hE (runs_plain rfl) (Gives.p hE rfl) rfl ?_; clear hE a; intro a hE
      refine WL.fnq hE (Farewithin_ok hS  rfl (r := Farewithin x2 0 (w64 (x0.N - 1)))) (runs_plain rfl) bd63 rfl rfl rfl ?_
      clear hE hS; rintro e w ⟨rfl, hS⟩; refine ⟨_, rfl, ?_⟩; clear a; intro a hE
      refine WL.vS hS hE (runs_plain rfl) (Gives.p hE rfl) rfl ?_; clear hE a; intro a hE
      rcases Bool.eq_false_or_eq_true (Farewithin x2 0 (w64 (x0.N - 1))) with hg60 | hg60
      · replace hq53 := iteT hg60 hq53
        refine WL.vS hS hE (runs_if hE rfl rfl rfl hg60) (Gives.p hE rfl) rfl ?_; clear hE a; intro a hE
        refine WL.vS hS hE (runs_if hE rfl rfl rfl hg60) (Gives.fld hE rfl fl44_1) rfl ?_; clear hE a; intro a hE
        refine WL.vS hS hE (runs_if hE rfl rfl rfl hg60) (Gives.loadB hE 0 rfl rfl rfl ty3) rfl ?_; clear hE a; intro a hE
        refine WL.vS hS hE (runs_if hE rfl rfl rfl hg60) (Gives.fld hE rfl fl44_0) rfl ?_; clear hE a; intro a hE
        refine WL.vS hS hE (runs_if hE rfl rfl rfl hg60) (Gives.loadB hE 0 rfl rfl rfl ty3) rfl ?_; clear hE a; intro a hE
        obtain ⟨q61, hq62, hq53⟩ := bindS hq53
        have hc_ := Farepower_ok hS  hq62
        refine WL.fnq hE (hc_) (runs_if hE rfl rfl rfl hg60) bd77 rfl rfl rfl ?_
        clear hE hS hc_; rintro e w ⟨rfl, hS⟩; refine ⟨_, rfl, ?_⟩; clear a; intro a hE
        refine WL.vS hS hE (runs_if hE rfl rfl rfl hg60) (Gives.p hE rfl) rfl ?_; clear hE a; intro a hE
        obtain ⟨q63, hq64, hq53⟩ := bindS hq53
        have hc_ := FareDigest_ok hS  hq64
        refine WL.fnq hE (hc_) (runs_if hE rfl rfl rfl hg60) bd78 rfl rfl rfl ?_
        clear hE hS hc_; rintro e w ⟨rfl, hS⟩; refine ⟨_, rfl, ?_⟩; clear a; intro a hE
        refine WL.vS hS hE (runs_if hE rfl rfl rfl hg60) (Gives.p hE rfl) rfl ?_; clear hE a; intro a hE
        refine WL.vS hS hE (runs_plain rfl) (Gives.pickT hE rfl hg60 rfl) rfl ?_; clear hE a; intro a hE
        refine WL.vS hS hE (runs_plain rfl) (Gives.p hE rfl) rfl ?_; clear hE a; intro a hE
        refine WL.vS hS hE (runs_plain rfl) (Gives.p hE rfl) rfl ?_; clear hE a; intro a hE
        refine WL.nil ?_
        subst hK59
        exact ⟨(q61 == q63), 0, Option.some.inj hq53, hE.pick _ ⟨rfl, rfl, trivial⟩, hS⟩
      · replace hq53 := iteF hg60 hq53
        refine WL.no hE (runs_not hE rfl rfl rfl (by rw [hg60]; decide)) rfl ?_; clear hE a; intro a hE
        refine WL.no hE (runs_not hE rfl rfl rfl (by rw [hg60]; decide)) rfl ?_; clear hE a; intro a hE
        refine WL.no hE (runs_not hE rfl rfl rfl (by rw [hg60]; decide)) rfl ?_; clear hE a; intro a hE
        refine WL.no hE (runs_not hE rfl rfl rfl (by rw [hg60]; decide)) rfl ?_; clear hE a; intro a hE
        refine WL.no hE (runs_not hE rfl rfl rfl (by rw [hg60]; decide)) rfl ?_; clear hE a; intro a hE
        refine WL.no hE (runs_not hE rfl rfl rfl (by rw [hg60]; decide)) rfl ?_; clear hE a; intro a hE
        refine WL.no hE (runs_not hE rfl rfl rfl (by rw [hg60]; decide)) rfl ?_; clear hE a; intro a hE
        refine WL.no hE (runs_not hE rfl rfl rfl (by rw [hg60]; decide)) rfl ?_; clear hE a; intro a hE
        refine WL.no hE (runs_not hE rfl rfl rfl (by rw [hg60]; decide)) rfl ?_; clear hE a; intro a hE
        refine WL.vS hS hE (runs_plain rfl) (Gives.pickF hE rfl hg60 rfl) rfl ?_; clear hE a; intro a hE
        refine WL.vS hS hE (runs_plain rfl) (Gives.p hE rfl) rfl ?_; clear hE a; intro a hE
        refine WL.vS hS hE (runs_plain rfl) (Gives.p hE rfl) rfl ?_; clear hE a; intro a hE
        refine WL.nil ?_
        subst hK59
        exact ⟨false, 0, Option.some.inj hq53, hE.pick _ ⟨rfl, rfl, trivial⟩, hS⟩
    · clear hE hS a w; rintro a w ⟨q57, q58, rfl, hE, hS⟩
      dsimp only at hr
      refine W.ret ?_
      refine finG (fn := Tryd.f51) (rs := [.tmp 6, .tmp 7]) (vs := [_, _]) hE rfl ⟨rfl, rfl, trivial⟩ ?_
      obtain rfl := Option.some.inj hr
      replace hS := hS.tail
      exact ⟨rfl, hS⟩
set_option maxHeartbeats 8000000 in
theorem FarecheckZones_ok  {w : World} {s : Sg} {R : List HP} {x0 : List Int} {a0 : Option Addr} {c0 : Nat} {x1 : Bool} (hS : St w s (R)) (h0 : Sl 1 (RI .i64) s a0 c0 x0) {r : Int} (hr : FarecheckZones x0 x1 = some r) :
    Calls Tryd.prog 80 [.slice a0 x0.length c0, .bool x1].toArray w (fun e w => e = .returned (.int .i64 r) ∧ St w s (R)) := by
  refine enter Tryd.func80 rfl rfl rfl fun a hE => ?_
  rw [FarecheckZones] at hr
  refine W.seq ?_
  refine W.region ?_
  refine WL.vS hS hE (runs_plain rfl) (Gives.p hE rfl) rfl ?_; clear hE a; intro a hE
  refine WL.nil ?_
  refine W.seq ?_
  refine W.seq ?_
  refine W.region ?_
  refine WL.vS hS hE (runs_plain rfl) (Gives.p hE rfl) rfl ?_; clear hE a; intro a hE
  refine WL.vS hS hE (runs_plain rfl) (Gives.len hE rfl sl23) rfl ?_; clear hE a; intro a hE
  refine WL.vS hS hE (runs_plain rfl) (Gives.p hE rfl) rfl ?_; clear hE a; intro a hE
  refine WL.nil ?_
  obtain ⟨q52, hq51, hr⟩ := bindS hr
  refine W.cut (fun a w => (.next ()) = q52 ∧ Rep a 41 [] ∧ St w s (R)) ?_ ?_
  · refine W.block ?_
    refine W.loop (fun m a w => ∃ (rest55 : List Int) (k53 : Nat), rest55.length = m ∧ x0.drop k53 = rest55 ∧ FarecheckZones.loop1 x0 x1 rest55 k53 = some q52 ∧ Rep a 41 [(0, .slice a0 x0.length c0), (1, .bool x1), (7, .slice a0 x0.length c0), (8, .int .i64 ((x0).length : Int)), (9, .int .i64 ((k53 : Nat) : Int))] ∧ St w s (R)) (m := x0.length) ⟨x0, 0, rfl, rfl, hq51, hE.pick _ ⟨rfl, rfl, rfl, rfl, rfl, trivial⟩, hS⟩ ?_
    clear hE hS a w hq51; rintro m59 a w ⟨rest55, k53, rfl, hd56, hq51, hE, hS⟩
    refine W.gen fun K62 hK62 => ?_
    rcases rest55 with _ | ⟨x54, rest55⟩
    · have hlt57 := drop_nil hd56
      refine W.seq ?_
      refine W.region ?_
      refine WL.vS hS hE (runs_plain rfl) (Gives.p hE rfl) rfl ?_; clear hE a; intro a hE
      refine WL.nil ?_
      refine W.seq ?_
      refine W.condF hE rfl (decide_eq_false (by omega)) ?_
      subst hK62
      refine W.exit rfl ?_
      exact ⟨Option.some.inj hq51, hE.pick _ trivial, hS⟩
    · obtain ⟨hlt57, hx58, hd56⟩ := drop_cons hd56
      rw [FarecheckZones.loop1] at hq51
      refine W.seq ?_
      refine W.region ?_
      refine WL.vS hS hE (runs_plain rfl) (Gives.p hE rfl) rfl ?_; clear hE a; intro a hE
      refine WL.nil ?_
      refine W.seq ?_
      refine W.condT hE rfl (decide_eq_true (by omega)) ?_
      refine W.skip ?_
      refine W.seq ?_
      refine W.block ?_
      refine W.seq ?_
      refine W.region ?_
      refine WL.vS hS hE (runs_plain rfl) (Gives.p hE rfl) rfl ?_; clear hE a; intro a hE
      obtain ⟨cs63, hl64, hR65, hat66⟩ := h0.at hx58
      subst hR65
      refine WL.vS hS hE (runs_plain rfl) (Gives.idx hE k53 rfl rfl sl23 rfl hlt57 (h0.aok hlt57)) rfl ?_; clear hE a; intro a hE
      refine WL.vS hS hE (runs_plain rfl) (Gives.load1 hE rfl (fun w h => hat66 w _ h) ty3) rfl ?_; clear hE a; intro a hE
      refine WL.vS hS hE (runs_plain rfl) (Gives.p hE rfl) rfl ?_; clear hE a; intro a hE
      refine WL.vS hS hE (runs_plain rfl) (Gives.p hE rfl) rfl ?_; clear hE a; intro a hE
      refine WL.nil ?_
      refine W.seq ?_
      refine W.seq ?_
      refine W.region ?_
      refine WL.vS hS hE (runs_plain rfl) (Gives.p hE rfl) rfl ?_; clear hE a; intro a hE
      refine WL.fnq hE (Farewithin_ok hS  rfl (r := Farewithin x54 0 19)) (runs_plain rfl) bd63 rfl rfl rfl ?_
      clear hE hS; rintro e w ⟨rfl, hS⟩; refine ⟨_, rfl, ?_⟩; clear a; intro a hE
      refine WL.vS hS hE (runs_plain rfl) (Gives.p hE rfl) rfl ?_; clear hE a; intro a hE
      refine WL.nil ?_
      refine W.cond hE rfl (fun hc67 => ?_) (fun hc67 => ?_)
      · replace hq51 := iteT hc67 hq51
        refine W.seq ?_
        refine W.region ?_
        refine WL.vS hS hE (runs_plain rfl) (Gives.p hE rfl) rfl ?_; clear hE a; intro a hE
        refine WL.nil ?_
        refine W.ret ?_
        subst hK62
        rw [← Option.some.inj hq51] at hr
        dsimp only at hr
        refine finG (fn := Tryd.f80) (rs := [.tmp 4]) (vs := [_]) hE rfl ⟨rfl, trivial⟩ ?_
        obtain rfl := Option.some.inj hr
        exact ⟨rfl, hS⟩
      · replace hq51 := iteF hc67 hq51
        refine W.skip ?_
        refine W.seq ?_
        obtain ⟨q69, hq68, hq51⟩ := bindS hq51
        refine W.cut (fun a w => ∃ (q72 : Bool), q72 = q69 ∧ Rep a 41 [(0, .slice a0 x0.length c0), (1, .bool x1), (7, .slice a0 x0.length c0), (8, .int .i64 ((x0).length : Int)), (9, .int .i64 ((k53 : Nat) : Int)), (39, .bool q72)] ∧ St w s (R)) ?_ ?_
        · refine W.gen fun K73 hK73 => ?_
          refine W.region ?_
          refine WL.vS hS hE (runs_plain rfl) (Gives.p hE rfl) rfl ?_; clear hE a; intro a hE
          refine WL.vS hS hE (runs_plain rfl) (Gives.p hE rfl) rfl ?_; clear hE a; intro a hE
          refine WL.vS hS hE (runs_plain rfl) (Gives.p hE rfl) rfl ?_; clear hE a; intro a hE
          rcases Bool.eq_false_or_eq_true (decide (((k53 : Nat) : Int) > 0)) with hg74 | hg74
          · replace hq68 := iteT hg74 hq68
            refine WL.vS hS hE (runs_if hE rfl rfl rfl hg74) (Gives.p hE rfl) rfl ?_; clear hE a; intro a hE
            refine WL.vS hS hE (runs_if hE rfl rfl rfl hg74) (Gives.p hE rfl) rfl ?_; clear hE a; intro a hE
            refine WL.vS hS hE (runs_if hE rfl rfl rfl hg74) (Gives.p hE rfl) rfl ?_; clear hE a; intro a hE
            refine WL.vS hS hE (runs_if hE rfl rfl rfl hg74) (Gives.p hE rfl) rfl ?_; clear hE a; intro a hE
            obtain ⟨x75, hx76, hq68⟩ := bindS hq68
            obtain ⟨hi77, hlt78, hy79⟩ := gx_some hx76
            obtain ⟨cs80, hl81, hR82, hat83⟩ := h0.at hy79
            subst hR82
            refine WL.vS hS hE (runs_if hE rfl rfl rfl hg74) (Gives.idx hE (w64 (((k53 : Nat) : Int) - 1)).toNat rfl rfl sl23 hi77 hlt78 (h0.aok hlt78)) rfl ?_; clear hE a; intro a hE
            refine WL.vS hS hE (runs_if hE rfl rfl rfl hg74) (Gives.load1 hE rfl (fun w h => hat83 w _ h) ty3) rfl ?_; clear hE a; intro a hE
            refine WL.vS hS hE (runs_if hE rfl rfl rfl hg74) (Gives.p hE rfl) rfl ?_; clear hE a; intro a hE
            refine WL.vS hS hE (runs_if hE rfl rfl rfl hg74) (Gives.p hE rfl) rfl ?_; clear hE a; intro a hE
            rcases Bool.eq_false_or_eq_true (x54 == x75) with hg84 | hg84
            · replace hq68 := iteT hg84 hq68
              refine WL.no hE (runs_not hE rfl rfl rfl (by rw [hg84]; decide)) rfl ?_; clear hE a; intro a hE
              refine WL.no hE (runs_not hE rfl rfl rfl (by rw [hg84]; decide)) rfl ?_; clear hE a; intro a hE
              refine WL.no hE (runs_undef hE rfl rfl rfl) rfl ?_; clear hE a; intro a hE
              refine WL.no hE (runs_undef hE rfl rfl rfl) rfl ?_; clear hE a; intro a hE
              refine WL.no hE (runs_undef hE rfl rfl rfl) rfl ?_; clear hE a; intro a hE
              refine WL.no hE (runs_undef hE rfl rfl rfl) rfl ?_; clear hE a; intro a hE
              refine WL.no hE (runs_undef hE rfl rfl rfl) rfl ?_; clear hE a; intro a hE
              refine WL.no hE (runs_undef hE rfl rfl rfl) rfl ?_; clear hE a; intro a hE
              refine WL.no hE (runs_undef hE rfl rfl rfl) rfl ?_; clear hE a; intro a hE
              refine WL.no hE (runs_not hE rfl rfl rfl (by rw [hg84]; decide)) rfl ?_; clear hE a; intro a hE
              refine WL.vS hS hE (runs_if hE rfl rfl rfl hg74) (Gives.pickT hE rfl hg84 rfl) rfl ?_; clear hE a; intro a hE
              refine WL.vS hS hE (runs_plain rfl) (Gives.pickT hE rfl hg74 rfl) rfl ?_; clear hE a; intro a hE
              refine WL.nil ?_
              subst hK73
              exact ⟨true, Option.some.inj hq68, hE.pick _ ⟨rfl, rfl, rfl, rfl, rfl, rfl, trivial⟩, hS⟩
            · replace hq68 := iteF hg84 hq68
              refine WL.vS hS hE (runs_if hE rfl rfl rfl hg84) (Gives.p hE rfl) rfl ?_; clear hE a; intro a hE
              refine WL.vS hS hE (runs_if hE rfl rfl rfl hg84) (Gives.p hE rfl) rfl ?_; clear hE a; intro a hE
              rcases Bool.eq_false_or_eq_true x1 with hg85 | hg85
              · replace hq68 := iteT hg85 hq68
                refine WL.vS hS hE (runs_if hE rfl rfl rfl hg85) (Gives.p hE rfl) rfl ?_; clear hE a; intro a hE
                refine WL.vS hS hE (runs_if hE rfl rfl rfl hg85) (Gives.p hE rfl) rfl ?_; clear hE a; intro a hE
                refine WL.vS hS hE (runs_if hE rfl rfl rfl hg85) (Gives.p hE rfl) rfl ?_; clear hE a; intro a hE
                refine WL.vS hS hE (runs_if hE rfl rfl rfl hg85) (Gives.p hE rfl) rfl ?_; clear hE a; intro a hE
                obtain ⟨x86, hx87, hq68⟩ := bindS hq68
                obtain ⟨hi88, hlt89, hy90⟩ := gx_some hx87
                obtain ⟨cs91, hl92, hR93, hat94⟩ := h0.at hy90
                subst hR93
                refine WL.vS hS hE (runs_if hE rfl rfl rfl hg85) (Gives.idx hE (w64 (((k53 : Nat) : Int) - 1)).toNat rfl rfl sl23 hi88 hlt89 (h0.aok hlt89)) rfl ?_; clear hE a; intro a hE
                refine WL.vS hS hE (runs_if hE rfl rfl rfl hg85) (Gives.load1 hE rfl (fun w h => hat94 w _ h) ty3) rfl ?_; clear hE a; intro a hE
                refine WL.vS hS hE (runs_if hE rfl rfl rfl hg85) (Gives.p hE rfl) rfl ?_; clear hE a; intro a hE
                refine WL.vS hS hE (runs_if hE rfl rfl rfl hg84) (Gives.pickT hE rfl hg85 rfl) rfl ?_; clear hE a; intro a hE
                refine WL.vS hS hE (runs_if hE rfl rfl rfl hg74) (Gives.pickF hE rfl hg84 rfl) rfl ?_; clear hE a; intro a hE
                refine WL.vS hS hE (runs_plain rfl) (Gives.pickT hE rfl hg74 rfl) rfl ?_; clear hE a; intro a hE
                refine WL.nil ?_
                subst hK73
                exact ⟨decide (x54 < x86), Option.some.inj hq68, hE.pick _ ⟨rfl, rfl, rfl, rfl, rfl, rfl, trivial⟩, hS⟩
              · replace hq68 := iteF hg85 hq68
                refine WL.no hE (runs_not hE rfl rfl rfl (by rw [hg85]; decide)) rfl ?_; clear hE a; intro a hE
                refine WL.no hE (runs_not hE rfl rfl rfl (by rw [hg85]; decide)) rfl ?_; clear hE a; intro a hE
                refine WL.no hE (runs_not hE rfl rfl rfl (by rw [hg85]; decide)) rfl ?_; clear hE a; intro a hE
                refine WL.no hE (runs_not hE rfl rfl rfl (by rw [hg85]; decide)) rfl ?_; clear hE a; intro a hE
                refine WL.no hE (runs_not hE rfl rfl rfl (by rw [hg85]; decide)) rfl ?_; clear hE a; intro a hE
                refine WL.no hE (runs_not hE rfl rfl rfl (by rw [hg85]; decide)) rfl ?_; clear hE a; intro a hE
                refine WL.no hE (runs_not hE rfl rfl rfl (by rw [hg85]; decide)) rfl ?_; clear hE a; intro a hE
                refine WL.vS hS hE (runs_if hE rfl rfl rfl hg84) (Gives.pickF hE rfl hg85 rfl) rfl ?_; clear hE a; intro a hE
                refine WL.vS hS hE (runs_if hE rfl rfl rfl hg74) (Gives.pickF hE rfl hg84 rfl) rfl ?_; clear hE a; intro a hE
                refine WL.vS hS hE (runs_plain rfl) (Gives.pickT hE rfl hg74 rfl) rfl ?_; clear hE a; intro a hE
                refine WL.nil ?_
                subst hK73
                exact ⟨false, Option.some.inj hq68, hE.pick _ ⟨rfl, rfl, rfl, rfl, rfl, rfl, trivial⟩, hS⟩
          · replace hq68 := iteF hg74 hq68
            refine WL.no hE (runs_not hE rfl rfl rfl (by rw [hg74]; decide)) rfl ?_; clear hE a; intro a hE
            refine WL.no hE (runs_not hE rfl rfl rfl (by rw [hg74]; decide)) rfl ?_; clear hE a; intro a hE
            refine WL.no hE (runs_not hE rfl rfl rfl (by rw [hg74]; decide)) rfl ?_; clear hE a; intro a hE
            refine WL.no hE (runs_not hE rfl rfl rfl (by rw [hg74]; decide)) rfl ?_; clear hE a; intro a hE
            refine WL.no hE (runs_not hE rfl rfl rfl (by rw [hg74]; decide)) rfl ?_; clear hE a; intro a hE
            refine WL.no hE (runs_not hE rfl rfl rfl (by rw [hg74]; decide)) rfl ?_; clear hE a; intro a hE
            refine WL.no hE (runs_not hE rfl rfl rfl (by rw [hg74]; decide)) rfl ?_; clear hE a; intro a hE
            refine WL.no hE (runs_not hE rfl rfl rfl (by rw [hg74]; decide)) rfl ?_; clear hE a; intro a hE
            refine WL.no hE (runs_undef hE rfl rfl rfl) rfl ?_; clear hE a; intro a hE
            refine WL.no hE (runs_undef hE rfl rfl rfl) rfl ?_; clear hE a; intro a hE
            refine WL.no hE (runs_undef hE rfl rfl rfl) rfl ?_; clear hE a; intro a hE
            refine WL.no hE (runs_undef hE rfl rfl rfl) rfl ?_; clear hE a; intro a hE
            refine WL.no hE (runs_undef hE rfl rfl rfl) rfl ?_; clear hE a; intro a hE
            refine WL.no hE (runs_undef hE rfl rfl rfl) rfl ?_; clear hE a; intro a hE
            refine WL.no hE (runs_undef hE rfl rfl rfl) rfl ?_; clear hE a; intro a hE
            refine WL.no hE (runs_undef hE rfl rfl rfl) rfl ?_; clear hE a; intro a hE
            refine WL.no hE (runs_undef hE rfl rfl rfl) rfl ?_; clear hE a; intro a hE
            refine WL.no hE (runs_undef hE rfl rfl rfl) rfl ?_; clear hE a; intro a hE
            refine WL.no hE (runs_not hE rfl rfl rfl (by rw [hg74]; decide)) rfl ?_; clear hE a; intro a hE
            refine WL.vS hS hE (runs_plain rfl) (Gives.pickF hE rfl hg74 rfl) rfl ?_; clear hE a; intro a hE
            refine WL.nil ?_
            subst hK73
            exact ⟨false, Option.some.inj hq68, hE.pick _ ⟨rfl, rfl, rfl, rfl, rfl, rfl, trivial⟩, hS⟩
        · clear hE hS a w; rintro a w ⟨q72, rfl, hE, hS⟩
          refine W.cond hE rfl (fun hc95 => ?_) (fun hc95 => ?_)
          · replace hq51 := iteT hc95 hq51
            refine W.seq ?_
            refine W.region ?_
            refine WL.vS hS hE (runs_plain rfl) (Gives.p hE rfl) rfl ?_; clear hE a; intro a hE
            refine WL.nil ?_
            refine W.ret ?_
            subst hK62
            rw [← Option.some.inj hq51] at hr
            dsimp only at hr
            refine finG (fn := Tryd.f80) (rs := [.tmp 4]) (vs := [_]) hE rfl ⟨rfl, trivial⟩ ?_
            obtain rfl := Option.some.inj hr
            exact ⟨rfl, hS⟩
          · replace hq51 := iteF hc95 hq51
            refine W.skip ?_
            refine W.region ?_
            refine WL.vS hS hE (runs_plain rfl) (Gives.inc hE rfl (by have := h0.small; omega)) rfl ?_; clear hE a; intro a hE
            refine WL.vS hS hE (runs_plain rfl) (Gives.p hE rfl) rfl ?_; clear hE a; intro a hE
            refine WL.nil ?_
            subst hK62
            exact ⟨rest55.length, Nat.lt_succ_self _, rest55, k53 + 1, rfl, hd56, hq51, hE.pick _ ⟨rfl, rfl, rfl, rfl, rfl, trivial⟩, hS⟩
  · clear hE hS a w; rintro a w ⟨rfl, hE, hS⟩
    dsimp only at hr
    refine W.seq ?_
    refine W.region ?_
    refine WL.vS hS hE (runs_plain rfl) (Gives.p hE rfl) rfl ?_; clear hE a; intro a hE
    refine WL.nil ?_
    refine W.ret ?_
    refine finG (fn := Tryd.f80) (rs := [.tmp 4]) (vs := [_]) hE rfl ⟨rfl, trivial⟩ ?_
    obtain rfl := Option.some.inj hr
    exact ⟨rfl, hS⟩
set_option maxHeartbeats 8000000 in
theorem FareTicketcheck_ok  {w : World} {s : Sg} {R : List HP} {x0 : FareTicket} {a0_0 : Option Addr} {c0_0 : Nat} (hS : St w s (R)) (h0_0 : Sl 1 (RI .i64) s a0_0 c0_0 x0.Zones) {r : Int} (hr : FareTicketcheck x0 = some r) :
    Calls Tryd.prog 53 [.agg (List.toArray [.int .i64 x0.No, .int .i64 x0.Day, .int .i64 x0.Start, .int .i64 x0.End, .int .i64 x0.Price, .slice a0_0 x0.Zones.length c0_0])].toArray w (fun e w => e = .returned (.int .i64 r) ∧ St w s (R)) := by
  refine enter Tryd.func53 rfl rfl rfl fun a hE => ?_
  rw [FareTicketcheck] at hr
  refine W.seq ?_
  refine W.region ?_
  refine WL.box hE hS (runs_plain rfl) rfl rfl rfl ?_; clear hE hS a w; intro b51 a w hE hS
  refine WL.vS hS hE (runs_plain rfl) (Gives.p hE rfl) rfl ?_; clear hE a; intro a hE
  refine WL.nil ?_
  refine W.seq ?_
  refine W.block ?_
  refine W.seq ?_
  obtain ⟨q53, hq52, hr⟩ := bndS hr
  refine W.cut (fun a w => ∃ (q56 : Bool), q56 = q53 ∧ Rep a 47 [(1, .pointer (some ⟨b51, 0, none⟩)), (3, .bool q56)] ∧ St w s (pt b51 (.cells #[.int .i64 x0.No, .int .i64 x0.Day, .int .i64 x0.Start, .int .i64 x0.End, .int .i64 x0.Price, .slice a0_0 x0.Zones.length c0_0] 46 (0, 0)) :: R)) ?_ ?_
  · refine W.gen fun K57 hK57 => ?_
    refine W.region ?_
    refine WL.vS hS hE (runs_plain rfl) (Gives.fld hE rfl fl46_0) rfl ?_; clear hE a; intro a hE
    refine WL.vS hS hE (runs_plain rfl) (Gives.loadB hE 0 rfl rfl rfl ty3) rfl ?_; clear hE a; intro a hE
    refine WL.fnq hE (Farewithin_ok hS  rfl (r := Farewithin x0.No 0 999999)) (runs_plain rfl) bd63 rfl rfl rfl ?_
    clear hE hS; rintro e w ⟨rfl, hS⟩; refine ⟨_, rfl, ?_⟩; clear a; intro a hE
    refine WL.vS hS hE (runs_plain rfl) (Gives.p hE rfl) rfl ?_; clear hE a; intro a hE
    refine WL.vS hS hE (runs_plain rfl) (Gives.p hE rfl) rfl ?_; clear hE a; intro a hE
    rcases Bool.eq_false_or_eq_true (!(Farewithin x0.No 0 999999)) with hg58 | hg58
    · replace hq52 := iteT hg58 hq52
      refine WL.no hE (runs_not hE rfl rfl rfl (by rw [hg58]; decide)) rfl ?_; clear hE a; intro a hE
      refine WL.no hE (runs_not hE rfl rfl rfl (by rw [hg58]; decide)) rfl ?_; clear hE a; intro a hE
      refine WL.no hE (runs_not hE rfl rfl rfl (by rw [hg58]; decide)) rfl ?_; clear hE a; intro a hE
      refine WL.no hE (runs_not hE rfl rfl rfl (by rw [hg58]; decide)) rfl ?_; clear hE a; intro a hE
      refine WL.vS hS hE (runs_plain rfl) (Gives.pickT hE rfl hg58 rfl) rfl ?_; clear hE a; intro a hE
      refine WL.vS hS hE (runs_plain rfl) (Gives.p hE rfl) rfl ?_; clear hE a; intro a hE
      refine WL.no hE (runs_not hE rfl rfl rfl (by decide)) rfl ?_; clear hE a; intro a hE
      refine WL.no hE (runs_not hE rfl rfl rfl (by decide)) rfl ?_; clear hE a; intro a hE
      refine WL.no hE (runs_not hE rfl rfl rfl (by decide)) rfl ?_; clear hE a; intro a hE
      refine WL.no hE (runs_not hE rfl rfl rfl (by decide)) rfl ?_; clear hE a; intro a hE
      refine WL.vS hS hE (runs_plain rfl) (Gives.pickT hE rfl rfl rfl) rfl ?_; clear hE a; intro a hE
      refine WL.vS hS hE (runs_plain rfl) (Gives.p hE rfl) rfl ?_; clear hE a; intro a hE
      refine WL.no hE (runs_not hE rfl rfl rfl (by decide)) rfl ?_; clear hE a; intro a hE
      refine WL.no hE (runs_not hE rfl rfl rfl (by decide)) rfl ?_; clear hE a; intro a hE
      refine WL.no hE (runs_not hE rfl rfl rfl (by decide)) rfl ?_; clear hE a; intro a hE
      refine WL.no hE (runs_not hE rfl rfl rfl (by decide)) rfl ?_; clear hE a; intro a hE
      refine WL.vS hS hE (runs_plain rfl) (Gives.pickT hE rfl rfl rfl) rfl ?_; clear hE a; intro a hE
      refine WL.vS hS hE (runs_plain rfl) (Gives.p hE rfl) rfl ?_; clear hE a; intro a hE
      refine WL.no hE (runs_not hE rfl rfl rfl (by decide)) rfl ?_; clear hE a; intro a hE
      refine WL.no hE (runs_not hE rfl rfl rfl (by decide)) rfl ?_; clear hE a; intro a hE
      refine WL.no hE (runs_not hE rfl rfl rfl (by decide)) rfl ?_; clear hE a; intro a hE
      refine WL.no hE (runs_not hE rfl rfl rfl (by decide)) rfl ?_; clear hE a; intro a hE
      refine WL.vS hS hE (runs_plain rfl) (Gives.pickT hE rfl rfl rfl) rfl ?_; clear hE a; intro a hE
      refine WL.vS hS hE (runs_plain rfl) (Gives.p hE rfl) rfl ?_; clear hE a; intro a hE
      refine WL.nil ?_
      subst hK57
      exact ⟨true, hq52, hE.pick _ ⟨rfl, rfl, trivial⟩, hS⟩
    · replace hq52 := iteF hg58 hq52
      refine WL.vS hS hE (runs_if hE rfl rfl rfl hg58) (Gives.fld hE rfl fl46_1) rfl ?_; clear hE a; intro a hE
      refine WL.vS hS hE (runs_if hE rfl rfl rfl hg58) (Gives.loadB hE 0 rfl rfl rfl ty3) rfl ?_; clear hE a; intro a hE
      refine WL.fnq hE (Farewithin_ok hS  rfl (r := Farewithin x0.Day 0 6)) (runs_if hE rfl rfl rfl hg58) bd63 rfl rfl rfl ?_
      clear hE hS; rintro e w ⟨rfl, hS⟩; refine ⟨_, rfl, ?_⟩; clear a; intro a hE
      refine WL.vS hS hE (runs_if hE rfl rfl rfl hg58) (Gives.p hE rfl) rfl ?_; clear hE a; intro a hE
      refine WL.vS hS hE (runs_plain rfl) (Gives.pickF hE rfl hg58 rfl) rfl ?_; clear hE a; intro a hE
      refine WL.vS hS hE (runs_plain rfl) (Gives.p hE rfl) rfl ?_; clear hE a; intro a hE
      rcases Bool.eq_false_or_eq_true (!(Farewithin x0.Day 0 6)) with hg59 | hg59
      · replace hq52 := iteT hg59 hq52
        refine WL.no hE (runs_not hE rfl rfl rfl (by rw [hg59]; decide)) rfl ?_; clear hE a; intro a hE
        refine WL.no hE (runs_not hE rfl rfl rfl (by rw [hg59]; decide)) rfl ?_; clear hE a; intro a hE
        refine WL.no hE (runs_not hE rfl rfl rfl (by rw [hg59]; decide)) rfl ?_; clear hE a; intro a hE
        refine WL.no hE (runs_not hE rfl rfl rfl (by rw [hg59]; decide)) rfl ?_; clear hE a; intro a hE
        refine WL.vS hS hE (runs_plain rfl) (Gives.pickT hE rfl hg59 rfl) rfl ?_; clear hE a; intro a hE
        refine WL.vS hS hE (runs_plain rfl) (Gives.p hE rfl) rfl ?_; clear hE a; intro a hE
        refine WL.no hE (runs_not hE rfl rfl rfl (by decide)) rfl ?_; clear hE a; intro a hE
        refine WL.no hE (runs_not hE rfl rfl rfl (by decide)) rfl ?_; clear hE a; intro a hE
        refine WL.no hE (runs_not hE rfl rfl rfl (by decide)) rfl ?_; clear hE a; intro a hE
        refine WL.no hE (runs_not hE rfl rfl rfl (by decide)) rfl ?_; clear hE a; intro a hE
        refine WL.vS hS hE (runs_plain rfl) (Gives.pickT hE rfl rfl rfl) rfl ?_; clear hE a; intro a hE
        refine WL.vS hS hE (runs_plain rfl) (Gives.p hE rfl) rfl ?_; clear hE a; intro a hE
        refine WL.no hE (runs_not hE rfl rfl rfl (by decide)) rfl ?_; clear hE a; intro a hE
        refine WL.no hE (runs_not hE rfl rfl rfl (by decide)) rfl ?_; clear hE a; intro a hE
        refine WL.no hE (runs_not hE rfl rfl rfl (by decide)) rfl ?_; clear hE a; intro a hE
        refine WL.no hE (runs_not hE rfl rfl rfl (by decide)) rfl ?_; clear hE a; intro a hE
        refine WL.vS hS hE (runs_plain rfl) (Gives.pickT hE rfl rfl rfl) rfl ?_; clear hE a; intro a hE
        refine WL.vS hS hE (runs_plain rfl) (Gives.p hE rfl) rfl ?_; clear hE a; intro a hE
        refine WL.nil ?_
        subst hK57
        exact ⟨true, hq52, hE.pick _ ⟨rfl, rfl, trivial⟩, hS⟩
      · replace hq52 := iteF hg59 hq52
        refine WL.vS hS hE (runs_if hE rfl rfl rfl hg59) (Gives.fld hE rfl fl46_2) rfl ?_; clear hE a; intro a hE
        refine WL.vS hS hE (runs_if hE rfl rfl rfl hg59) (Gives.loadB hE 0 rfl rfl rfl ty3) rfl ?_; clear hE a; intro a hE
        refine WL.fnq hE (Farewithin_ok hS  rfl (r := Farewithin x0.Start 0 28800)) (runs_if hE rfl rfl rfl hg59) bd63 rfl rfl rfl ?_
        clear hE hS; rintro e w ⟨rfl, hS⟩; refine ⟨_, rfl, ?_⟩; clear a; intro a hE
        refine WL.vS hS hE (runs_if hE rfl rfl rfl hg59) (Gives.p hE rfl) rfl ?_; clear hE a; intro a hE
        refine WL.vS hS hE (runs_plain rfl) (Gives.pickF hE rfl hg59 rfl) rfl ?_; clear hE a; intro a hE
        refine WL.vS hS hE (runs_plain rfl) (Gives.p hE rfl) rfl ?_; clear hE a; intro a hE
        rcases Bool.eq_false_or_eq_true (!(Farewithin x0.Start 0 28800)) with hg60 | hg60
        · replace hq52 := iteT hg60 hq52
          refine WL.no hE (runs_not hE rfl rfl rfl (by rw [hg60]; decide)) rfl ?_; clear hE a; intro a hE
          refine WL.no hE (runs_not hE rfl rfl rfl (by rw [hg60]; decide)) rfl ?_; clear hE a; intro a hE
          refine WL.no hE (runs_not hE rfl rfl rfl (by rw [hg60]; decide)) rfl ?_; clear hE a; intro a hE
          refine WL.no hE (runs_not hE rfl rfl rfl (by rw [hg60]; decide)) rfl ?_; clear hE a; intro a hE
          refine WL.vS hS hE (runs_plain rfl) (Gives.pickT hE rfl hg60 rfl) rfl ?_; clear hE a; intro a hE
          refine WL.vS hS hE (runs_plain rfl) (Gives.p hE rfl) rfl ?_; clear hE a; intro a hE
          refine WL.no hE (runs_not hE rfl rfl rfl (by decide)) rfl ?_; clear hE a; intro a hE
          refine WL.no hE (runs_not hE rfl rfl rfl (by decide)) rfl ?_; clear hE a; intro a hE
          refine WL.no hE (runs_not hE rfl rfl rfl (by decide)) rfl ?_; clear hE a; intro a hE
          refine WL.no hE (runs_not hE rfl rfl rfl (by decide)) rfl ?_; clear hE a; intro a hE
          refine WL.vS hS hE (runs_plain rfl) (Gives.pickT hE rfl rfl rfl) rfl ?_; clear hE a; intro a hE
          refine WL.vS hS hE (runs_plain rfl) (Gives.p hE rfl) rfl ?_; clear hE a; intro a hE
          refine WL.nil ?_
          subst hK57
          exact ⟨true, hq52, hE.pick _ ⟨rfl, rfl, trivial⟩, hS⟩
        · replace hq52 := iteF hg60 hq52
          refine WL.vS hS hE (runs_if hE rfl rfl rfl hg60) (Gives.fld hE rfl fl46_3) rfl ?_; clear hE a; intro a hE
          refine WL.vS hS hE (runs_if hE rfl rfl rfl hg60) (Gives.loadB hE 0 rfl rfl rfl ty3) rfl ?_; clear hE a; intro a hE
          refine WL.fnq hE (Farewithin_ok hS  rfl (r := Farewithin x0.End 0 28800)) (runs_if hE rfl rfl rfl hg60) bd63 rfl rfl rfl ?_
          clear hE hS; rintro e w ⟨rfl, hS⟩; refine ⟨_, rfl, ?_⟩; clear a; intro a hE
          refine WL.vS hS hE (runs_if hE rfl rfl rfl hg60) (Gives.p hE rfl) rfl ?_; clear hE a; intro a hE
          refine WL.vS hS hE (runs_plain rfl) (Gives.pickF hE rfl hg60 rfl) rfl ?_; clear hE a; intro a hE
          refine WL.vS hS hE (runs_plain rfl) (Gives.p hE rfl) rfl ?_; clear hE a; intro a hE
          rcases Bool.eq_false_or_eq_true (!(Farewithin x0.End 0 28800)) with hg61 | hg61
          · replace hq52 := iteT hg61 hq52
            refine WL.no hE (runs_not hE rfl rfl rfl (by rw [hg61]; decide)) rfl ?_; clear hE a; intro a hE
            refine WL.no hE (runs_not hE rfl rfl rfl (by rw [hg61]; decide)) rfl ?_; clear hE a; intro a hE
            refine WL.no hE (runs_not hE rfl rfl rfl (by rw [hg61]; decide)) rfl ?_; clear hE a; intro a hE
            refine WL.no hE (runs_not hE rfl rfl rfl (by rw [hg61]; decide)) rfl ?_; clear hE a; intro a hE
            refine WL.vS hS hE (runs_plain rfl) (Gives.pickT hE rfl hg61 rfl) rfl ?_; clear hE a; intro a hE
            refine WL.vS hS hE (runs_plain rfl) (Gives.p hE rfl) rfl ?_; clear hE a; intro a hE
            refine WL.nil ?_
            subst hK57
            exact ⟨true, hq52, hE.pick _ ⟨rfl, rfl, trivial⟩, hS⟩
          · replace hq52 := iteF hg61 hq52
            refine WL.vS hS hE (runs_if hE rfl rfl rfl hg61) (Gives.fld hE rfl fl46_4) rfl ?_; clear hE a; intro a hE
            refine WL.vS hS hE (runs_if hE rfl rfl rfl hg61) (Gives.loadB hE 0 rfl rfl rfl ty3) rfl ?_; clear hE a; intro a hE
            refine WL.fnq hE (Farewithin_ok hS  rfl (r := Farewithin x0.Price 0 100000)) (runs_if hE rfl rfl rfl hg61) bd63 rfl rfl rfl ?_
            clear hE hS; rintro e w ⟨rfl, hS⟩; refine ⟨_, rfl, ?_⟩; clear a; intro a hE
            refine WL.vS hS hE (runs_if hE rfl rfl rfl hg61) (Gives.p hE rfl) rfl ?_; clear hE a; intro a hE
            refine WL.vS hS hE (runs_plain rfl) (Gives.pickF hE rfl hg61 rfl) rfl ?_; clear hE a; intro a hE
            refine WL.vS hS hE (runs_plain rfl) (Gives.p hE rfl) rfl ?_; clear hE a; intro a hE
            refine WL.nil ?_
            subst hK57
            exact ⟨!(Farewithin x0.Price 0 100000), hq52, hE.pick _ ⟨rfl, rfl, trivial⟩, hS⟩
  · clear hE hS a w; rintro a w ⟨q56, rfl, hE, hS⟩
    refine W.cond hE rfl (fun hc62 => ?_) (fun hc62 => ?_)
    · replace hr := iteT hc62 hr
      refine W.seq ?_
      refine W.region ?_
      refine WL.vS hS hE (runs_plain rfl) (Gives.p hE rfl) rfl ?_; clear hE a; intro a hE
      refine WL.nil ?_
      refine W.ret ?_
      refine finG (fn := Tryd.f53) (rs := [.tmp 2]) (vs := [_]) hE rfl ⟨rfl, trivial⟩ ?_
      obtain rfl := Option.some.inj hr
      replace hS := hS.tail
      exact ⟨rfl, hS⟩
    · replace hr := iteF hc62 hr
      refine W.seq ?_
      refine W.region ?_
      refine WL.vS hS hE (runs_plain rfl) (Gives.fld hE rfl fl46_3) rfl ?_; clear hE a; intro a hE
      refine WL.vS hS hE (runs_plain rfl) (Gives.loadB hE 0 rfl rfl rfl ty3) rfl ?_; clear hE a; intro a hE
      refine WL.vS hS hE (runs_plain rfl) (Gives.fld hE rfl fl46_2) rfl ?_; clear hE a; intro a hE
      refine WL.vS hS hE (runs_plain rfl) (Gives.loadB hE 0 rfl rfl rfl ty3) rfl ?_; clear hE a; intro a hE
      refine WL.vS hS hE (runs_plain rfl) (Gives.p hE rfl) rfl ?_; clear hE a; intro a hE
      refine WL.vS hS hE (runs_plain rfl) (Gives.p hE rfl) rfl ?_; clear hE a; intro a hE
      refine WL.nil ?_
      refine W.cond hE rfl (fun hc63 => ?_) (fun hc63 => ?_)
      · replace hr := iteT hc63 hr
        refine W.seq ?_
        refine W.region ?_
        refine WL.vS hS hE (runs_plain rfl) (Gives.p hE rfl) rfl ?_; clear hE a; intro a hE
        refine WL.nil ?_
        refine W.ret ?_
        refine finG (fn := Tryd.f53) (rs := [.tmp 2]) (vs := [_]) hE rfl ⟨rfl, trivial⟩ ?_
        obtain rfl := Option.some.inj hr
        replace hS := hS.tail
        exact ⟨rfl, hS⟩
      · replace hr := iteF hc63 hr
        refine W.seq ?_
        refine W.region ?_
        refine WL.vS hS hE (runs_plain rfl) (Gives.fld hE rfl fl46_5) rfl ?_; clear hE a; intro a hE
        refine WL.vS hS hE (runs_plain rfl) (Gives.loadB hE 0 rfl rfl rfl ty23) rfl ?_; clear hE a; intro a hE
        refine WL.vS hS hE (runs_plain rfl) (Gives.len hE rfl sl23) rfl ?_; clear hE a; intro a hE
        refine WL.fnq hE (Farewithin_ok hS  rfl (r := Farewithin ((x0.Zones).length : Int) 1 10)) (runs_plain rfl) bd63 rfl rfl rfl ?_
        clear hE hS; rintro e w ⟨rfl, hS⟩; refine ⟨_, rfl, ?_⟩; clear a; intro a hE
        refine WL.vS hS hE (runs_plain rfl) (Gives.p hE rfl) rfl ?_; clear hE a; intro a hE
        refine WL.vS hS hE (runs_plain rfl) (Gives.p hE rfl) rfl ?_; clear hE a; intro a hE
        refine WL.nil ?_
        refine W.cond hE rfl (fun hc64 => ?_) (fun hc64 => ?_)
        · replace hr := iteT hc64 hr
          refine W.seq ?_
          refine W.region ?_
          refine WL.vS hS hE (runs_plain rfl) (Gives.p hE rfl) rfl ?_; clear hE a; intro a hE
          refine WL.nil ?_
          refine W.ret ?_
          refine finG (fn := Tryd.f53) (rs := [.tmp 2]) (vs := [_]) hE rfl ⟨rfl, trivial⟩ ?_
          obtain rfl := Option.some.inj hr
          replace hS := hS.tail
          exact ⟨rfl, hS⟩
        · replace hr := iteF hc64 hr
          refine W.skip ?_
          refine W.seq ?_
          refine W.region ?_
          refine WL.vS hS hE (runs_plain rfl) (Gives.fld hE rfl fl46_5) rfl ?_; clear hE a; intro a hE
          refine WL.vS hS hE (runs_plain rfl) (Gives.loadB hE 0 rfl rfl rfl ty23) rfl ?_; clear hE a; intro a hE
          obtain ⟨q65, hq66, hr⟩ := bindS hr
          have hc_ := FarecheckZones_ok hS h0_0 hq66
          refine WL.fnq hE (hc_) (runs_plain rfl) bd80 rfl rfl rfl ?_
          clear hE hS hc_; rintro e w ⟨rfl, hS⟩; refine ⟨_, rfl, ?_⟩; clear a; intro a hE
          refine WL.vS hS hE (runs_plain rfl) (Gives.p hE rfl) rfl ?_; clear hE a; intro a hE
          refine WL.nil ?_
          refine W.ret ?_
          refine finG (fn := Tryd.f53) (rs := [.tmp 2]) (vs := [_]) hE rfl ⟨rfl, trivial⟩ ?_
          obtain rfl := Option.some.inj hr
          replace hS := hS.tail
          exact ⟨rfl, hS⟩
set_option maxHeartbeats 8000000 in
theorem FareOpen_ok {fu : Nat}  {w : World} {s : Sg} {R : List HP} {x0 : FareKey} {x1 : ByteArray} (hS : St w s (R)) (hTab : TabX s) {r : FareTicket × Int} (hr : FareOpen fu x0 x1 = some r) :
    Calls Tryd.prog 18 [.agg (FareKey.cells x0).toArray, .string x1].toArray w (fun e w => ∃ (cs0 : List Value) (t : Sg), e = .returned (.tuple #[.agg cs0.toArray, .int .i64 r.2]) ∧ s.Le t ∧ RFareTicket t cs0 r.1 ∧ St w t (R)) := by
  refine enter Tryd.func18 rfl rfl rfl fun a hE => ?_
  rw [FareOpen] at hr
  refine W.seq ?_
  refine W.region ?_
  refine WL.box hE hS (runs_plain rfl) rfl rfl rfl ?_; clear hE hS a w; intro b51 a w hE hS
  refine WL.alloc hE hS (runs_plain rfl) zr46 rfl ?_; clear hE hS a w; intro b52 a w hE hS
  refine WL.vS hS hE (runs_plain rfl) (Gives.p hE rfl) rfl ?_; clear hE a; intro a hE
  refine WL.nil ?_
  refine W.seq ?_
  refine W.seq ?_
  refine W.region ?_
  refine WL.vS hS hE (runs_plain rfl) (Gives.loadBA hE 1 rfl rfl ty44) rfl ?_; clear hE a; intro a hE
  refine WL.fnq hE (FareKeycheck_ok hS  rfl (r := FareKeycheck x0 false)) (runs_plain rfl) bd49 rfl rfl rfl ?_
  clear hE hS; rintro e w ⟨rfl, hS⟩; refine ⟨_, rfl, ?_⟩; clear a; intro a hE
  refine WL.vS hS hE (runs_plain rfl) (Gives.p hE rfl) rfl ?_; clear hE a; intro a hE
  refine WL.nil ?_
  refine W.seq ?_
  refine W.region ?_
  refine WL.vS hS hE (runs_plain rfl) (Gives.p hE rfl) rfl ?_; clear hE a; intro a hE
  refine WL.vS hS hE (runs_plain rfl) (Gives.p hE rfl) rfl ?_; clear hE a; intro a hE
  refine WL.nil ?_
  refine W.cond hE rfl (fun hc53 => ?_) (fun hc53 => ?_)
  · replace hr := iteT hc53 hr
    refine W.seq ?_
    refine W.region ?_
    refine WL.vS hS hE (runs_plain rfl) (Gives.build hE (vs := []) [.int .i64 0, .int .i64 0, .int .i64 0, .int .i64 0, .int .i64 0, .slice none 0 0] rfl (by kernel_rfl)) rfl ?_; clear hE a; intro a hE
    refine WL.vS hS hE (runs_plain rfl) (Gives.p hE rfl) rfl ?_; clear hE a; intro a hE
    refine WL.storeI hE hS 0 rfl [.int .i64 0, .int .i64 0, .int .i64 0, .int .i64 0, .int .i64 0, .slice none 0 0] (runs_plain rfl) rfl rfl rfl ty46 rfl rfl rfl rfl ?_; clear hE hS a w; intro a w hE hS
    refine WL.vS hS hE (runs_plain rfl) (Gives.p hE rfl) rfl ?_; clear hE a; intro a hE
    refine WL.nil ?_
    refine W.ret ?_
    refine finG (fn := Tryd.f18) (rs := [.cell 4 46, .tmp 5]) (vs := [_, _]) hE rfl ⟨⟨_, rfl, .inl ⟨_, rfl, hS.seesAt 0 rfl, ty46⟩⟩, rfl, trivial⟩ ?_
    obtain rfl := Option.some.inj hr
    replace hS := hS.tail
    replace hS := hS.tail
    exact ⟨_, s, rfl, (Sg.Le.refl _), ⟨_, _, rfl, Sl.nil⟩, hS⟩
  · replace hr := iteF hc53 hr
    refine W.skip ?_
    refine W.seq ?_
    refine W.seq ?_
    refine W.region ?_
    refine WL.vS hS hE (runs_plain rfl) (Gives.p hE rfl) rfl ?_; clear hE a; intro a hE
    refine WL.vS hS hE (runs_plain rfl) (Gives.lenS hE rfl st9) rfl ?_; clear hE a; intro a hE
    refine WL.vS hS hE (runs_plain rfl) (Gives.p hE rfl) rfl ?_; clear hE a; intro a hE
    refine WL.nil ?_
    refine W.cond hE rfl (fun hc54 => ?_) (fun hc54 => ?_)
    · replace hr := iteT hc54 hr
      refine W.seq ?_
      refine W.region ?_
      refine WL.vS hS hE (runs_plain rfl) (Gives.build hE (vs := []) [.int .i64 0, .int .i64 0, .int .i64 0, .int .i64 0, .int .i64 0, .slice none 0 0] rfl (by kernel_rfl)) rfl ?_; clear hE a; intro a hE
      refine WL.storeI hE hS 0 rfl [.int .i64 0, .int .i64 0, .int .i64 0, .int .i64 0, .int .i64 0, .slice none 0 0] (runs_plain rfl) rfl rfl rfl ty46 rfl rfl rfl rfl ?_; clear hE hS a w; intro a w hE hS
      refine WL.vS hS hE (runs_plain rfl) (Gives.p hE rfl) rfl ?_; clear hE a; intro a hE
      refine WL.nil ?_
      refine W.ret ?_
      refine finG (fn := Tryd.f18) (rs := [.cell 4 46, .tmp 5]) (vs := [_, _]) hE rfl ⟨⟨_, rfl, .inl ⟨_, rfl, hS.seesAt 0 rfl, ty46⟩⟩, rfl, trivial⟩ ?_
      obtain rfl := Option.some.inj hr
      replace hS := hS.tail
      replace hS := hS.tail
      exact ⟨_, s, rfl, (Sg.Le.refl _), ⟨_, _, rfl, Sl.nil⟩, hS⟩
    · replace hr := iteF hc54 hr
      refine W.skip ?_
      refine W.seq ?_
      refine W.region ?_
      refine WL.vS hS hE (runs_plain rfl) (Gives.p hE rfl) rfl ?_; clear hE a; intro a hE
      obtain ⟨q55, hq56, hr⟩ := bindS hr
      have hc_ := Fareopen_ok hS (TabG.mono (Sg.Le.refl _) hTab) hq56
      refine WL.fnq hE (hc_) (runs_plain rfl) bd50 rfl rfl rfl ?_
      clear hE hS hc_; rintro e w ⟨a57, c58, n59, cs60, s63, rfl, hle64, h61, rfl, hS⟩; refine ⟨_, rfl, ?_⟩; clear a; intro a hE
      refine WL.vS hS hE (runs_plain rfl) (Gives.p hE rfl) rfl ?_; clear hE a; intro a hE
      refine WL.vS hS hE (runs_plain rfl) (Gives.p hE rfl) rfl ?_; clear hE a; intro a hE
      refine WL.vS hS hE (runs_plain rfl) (Gives.p hE rfl) rfl ?_; clear hE a; intro a hE
      refine WL.vS hS hE (runs_plain rfl) (Gives.p hE rfl) rfl ?_; clear hE a; intro a hE
      refine WL.vS hS hE (runs_plain rfl) (Gives.p hE rfl) rfl ?_; clear hE a; intro a hE
      refine WL.vS hS hE (runs_plain rfl) (Gives.p hE rfl) rfl ?_; clear hE a; intro a hE
      refine WL.vS hS hE (runs_plain rfl) (Gives.p hE rfl) rfl ?_; clear hE a; intro a hE
      refine WL.nil ?_
      refine W.seq ?_
      refine W.seq ?_
      refine W.region ?_
      refine WL.vS hS hE (runs_plain rfl) (Gives.p hE rfl) rfl ?_; clear hE a; intro a hE
      refine WL.vS hS hE (runs_plain rfl) (Gives.p hE rfl) rfl ?_; clear hE a; intro a hE
      refine WL.nil ?_
      refine W.cond hE rfl (fun hc65 => ?_) (fun hc65 => ?_)
      · replace hr := iteT hc65 hr
        refine W.seq ?_
        refine W.region ?_
        refine WL.vS hS hE (runs_plain rfl) (Gives.build hE (vs := []) [.int .i64 0, .int .i64 0, .int .i64 0, .int .i64 0, .int .i64 0, .slice none 0 0] rfl (by kernel_rfl)) rfl ?_; clear hE a; intro a hE
        refine WL.storeI hE hS 1 rfl [.int .i64 0, .int .i64 0, .int .i64 0, .int .i64 0, .int .i64 0, .slice none 0 0] (runs_plain rfl) rfl rfl rfl ty46 rfl rfl rfl rfl ?_; clear hE hS a w; intro a w hE hS
        refine WL.vS hS hE (runs_plain rfl) (Gives.p hE rfl) rfl ?_; clear hE a; intro a hE
        refine WL.nil ?_
        refine W.ret ?_
        refine finG (fn := Tryd.f18) (rs := [.cell 4 46, .tmp 5]) (vs := [_, _]) hE rfl ⟨⟨_, rfl, .inl ⟨_, rfl, hS.seesAt 1 rfl, ty46⟩⟩, rfl, trivial⟩ ?_
        obtain rfl := Option.some.inj hr
        replace hS := hS.tail
        replace hS := hS.tail
        replace hS := hS.tail
        exact ⟨_, s63, rfl, hle64, ⟨_, _, rfl, Sl.nil⟩, hS⟩
      · replace hr := iteF hc65 hr
        refine W.skip ?_
        refine W.seq ?_
        refine W.seq ?_
        refine W.regionQ (C := fun w => St w s63 (vecC 3 1 a57 c58 q55.1.length cs60 :: pt b52 (.cells #[.int .i64 0, .int .i64 0, .int .i64 0, .int .i64 0, .int .i64 0, .slice none 0 0] 46 (0, 0)) :: pt b51 (.cells (FareKey.cells x0).toArray 44 (0, 0)) :: R)) mixed (by kernel_rfl) hS.drew ?_
        refine QL.v hE (runs_plain rfl) (Gives.loadBA hE 2 rfl rfl ty44) rfl ?_; clear hE a; intro a hE
        refine QL.v hE (runs_plain rfl) (Gives.p hE rfl) rfl ?_; clear hE a; intro a hE
        refine QL.v hE (runs_plain rfl) (Gives.p hE rfl) rfl ?_; clear hE a; intro a hE
        obtain ⟨q66, hq67, hr⟩ := bindS hr
        refine QL.fnq hE (fun w hS => StringsLastIndexByte_ok hS  hq67) (runs_plain rfl) bd52 rfl rfl rfl ?_; clear hE a; intro a hE
        refine QL.v hE (runs_plain rfl) (Gives.p hE rfl) rfl ?_; clear hE a; intro a hE
        obtain ⟨x68, hx69, hr⟩ := bindS hr
        refine QL.v hE (runs_plain rfl) (Gives.cutSH hE st9 rfl rfl hx69) rfl ?_; clear hE a; intro a hE
        refine QL.v hE (runs_plain rfl) (Gives.p hE rfl) rfl ?_; clear hE a; intro a hE
        obtain ⟨q70, hq71, hr⟩ := bindS hr
        refine QL.fnq hE (fun w hS => FareVerify_ok hS  hq71) (runs_plain rfl) bd51 rfl rfl rfl ?_; clear hE a; intro a hE
        refine QL.v hE (runs_plain rfl) (Gives.p hE rfl) rfl ?_; clear hE a; intro a hE
        refine QL.v hE (runs_plain rfl) (Gives.p hE rfl) rfl ?_; clear hE a; intro a hE
        refine QL.v hE (runs_plain rfl) (Gives.p hE rfl) rfl ?_; clear hE a; intro a hE
        refine QL.v hE (runs_plain rfl) (Gives.p hE rfl) rfl ?_; clear hE a; intro a hE
        refine QL.v hE (runs_plain rfl) (Gives.p hE rfl) rfl ?_; clear hE a; intro a hE
        refine QL.nil ?_; clear hS w; intro w hS
        refine W.seq ?_
        refine W.region ?_
        refine WL.vS hS hE (runs_plain rfl) (Gives.p hE rfl) rfl ?_; clear hE a; intro a hE
        refine WL.vS hS hE (runs_plain rfl) (Gives.p hE rfl) rfl ?_; clear hE a; intro a hE
        refine WL.nil ?_
        refine W.cond hE rfl (fun hc72 => ?_) (fun hc72 => ?_)
        · replace hr := iteT hc72 hr
          refine W.seq ?_
          refine W.region ?_
          refine WL.vS hS hE (runs_plain rfl) (Gives.build hE (vs := []) [.int .i64 0, .int .i64 0, .int .i64 0, .int .i64 0, .int .i64 0, .slice none 0 0] rfl (by kernel_rfl)) rfl ?_; clear hE a; intro a hE
          refine WL.storeI hE hS 1 rfl [.int .i64 0, .int .i64 0, .int .i64 0, .int .i64 0, .int .i64 0, .slice none 0 0] (runs_plain rfl) rfl rfl rfl ty46 rfl rfl rfl rfl ?_; clear hE hS a w; intro a w hE hS
          refine WL.vS hS hE (runs_plain rfl) (Gives.p hE rfl) rfl ?_; clear hE a; intro a hE
          refine WL.nil ?_
          refine W.ret ?_
          refine finG (fn := Tryd.f18) (rs := [.cell 4 46, .tmp 5]) (vs := [_, _]) hE rfl ⟨⟨_, rfl, .inl ⟨_, rfl, hS.seesAt 1 rfl, ty46⟩⟩, rfl, trivial⟩ ?_
          obtain rfl := Option.some.inj hr
          replace hS := hS.tail
          replace hS := hS.tail
          replace hS := hS.tail
          exact ⟨_, s63, rfl, hle64, ⟨_, _, rfl, Sl.nil⟩, hS⟩
        · replace hr := iteF hc72 hr
          refine W.skip ?_
          refine W.seq ?_
          have hF := hS.fixD RI.mono 0 rfl h61 rfl; clear hS; obtain ⟨s73, hle74, hS, h75⟩ := hF
          refine W.gen fun K76 hK76 => ?_
          refine W.regionE (sel (fun w => St w s73 (pt b52 (.cells #[.int .i64 0, .int .i64 0, .int .i64 0, .int .i64 0, .int .i64 0, .slice none 0 0] 46 (0, 0)) :: pt b51 (.cells (FareKey.cells x0).toArray 44 (0, 0)) :: R)) (fun w => St w s73 (pt b52 (.cells #[.int .i64 0, .int .i64 0, .int .i64 0, .int .i64 0, .int .i64 0, .slice none 0 0] 46 (0, 0)) :: pt b51 (.cells (FareKey.cells x0).toArray 44 (0, 0)) :: R))) (fun b i => cond b ([0, 1, 2, 3, 4, 5, 6, 7, 8, 9, 10, 11, 12, 13, 14, 15, 16, 17, 18, 19].contains i) ([0, 1, 2, 3, 4, 5, 6, 7, 8, 9, 10, 11, 12, 13, 14, 15, 16, 17, 18, 19].contains i)) mixed ?_
          replace hS := hS.drew
          refine Rg.takeP (i := 0) hE rfl (by kernel_rfl) (runs_plain rfl) (Gives.p hE rfl) rfl (tw_sel (fun _ => hS) (fun _ => hS)) ?_; clear hE a; intro a hE
          obtain ⟨x77, hx78, hr⟩ := bindS hr
          obtain ⟨hi79, hlt80, hy81⟩ := gx_some hx78
          obtain ⟨cs82, hl83, hR84, hat85⟩ := h75.at hy81
          subst hR84
          refine Rg.takeP (i := 1) hE rfl (by kernel_rfl) (runs_plain rfl) (Gives.idx hE ((0 : Int)).toNat rfl rfl sl23 hi79 hlt80 (h75.aok hlt80)) rfl (tw_sel (fun _ => hS) (fun _ => hS)) ?_; clear hE a; intro a hE
          have hT := tw_sel (A := fun w => St w s73 (pt b52 (.cells #[.int .i64 0, .int .i64 0, .int .i64 0, .int .i64 0, .int .i64 0, .slice none 0 0] 46 (0, 0)) :: pt b51 (.cells (FareKey.cells x0).toArray 44 (0, 0)) :: R)) (B := fun w => St w s73 (pt b52 (.cells #[.int .i64 0, .int .i64 0, .int .i64 0, .int .i64 0, .int .i64 0, .slice none 0 0] 46 (0, 0)) :: pt b51 (.cells (FareKey.cells x0).toArray 44 (0, 0)) :: R)) (w := _) (x := true) (y := true) (fun _ => hS) (fun _ => hS)
          have hF := hS; replace hS := hS
          refine Rg.take (i := 2) true rfl hE rfl (by kernel_rfl) (runs_plain rfl) (Gives.load1 hE rfl (fun w h => hat85 w _ h) ty3) rfl hT ?_; clear hE a; intro a hE
          replace hS := hF; clear hF hT
          refine Rg.takeP (i := 3) hE rfl (by kernel_rfl) (runs_plain rfl) (Gives.p hE rfl) rfl (tw_sel (fun _ => hS) (fun _ => hS)) ?_; clear hE a; intro a hE
          obtain ⟨x86, hx87, hr⟩ := bindS hr
          obtain ⟨hi88, hlt89, hy90⟩ := gx_some hx87
          obtain ⟨cs91, hl92, hR93, hat94⟩ := h75.at hy90
          subst hR93
          refine Rg.takeP (i := 4) hE rfl (by kernel_rfl) (runs_plain rfl) (Gives.idx hE ((1 : Int)).toNat rfl rfl sl23 hi88 hlt89 (h75.aok hlt89)) rfl (tw_sel (fun _ => hS) (fun _ => hS)) ?_; clear hE a; intro a hE
          have hT := tw_sel (A := fun w => St w s73 (pt b52 (.cells #[.int .i64 0, .int .i64 0, .int .i64 0, .int .i64 0, .int .i64 0, .slice none 0 0] 46 (0, 0)) :: pt b51 (.cells (FareKey.cells x0).toArray 44 (0, 0)) :: R)) (B := fun w => St w s73 (pt b52 (.cells #[.int .i64 0, .int .i64 0, .int .i64 0, .int .i64 0, .int .i64 0, .slice none 0 0] 46 (0, 0)) :: pt b51 (.cells (FareKey.cells x0).toArray 44 (0, 0)) :: R)) (w := _) (x := true) (y := true) (fun _ => hS) (fun _ => hS)
          have hF := hS; replace hS := hS
          refine Rg.take (i := 5) true rfl hE rfl (by kernel_rfl) (runs_plain rfl) (Gives.load1 hE rfl (fun w h => hat94 w _ h) ty3) rfl hT ?_; clear hE a; intro a hE
          replace hS := hF; clear hF hT
          refine Rg.takeP (i := 6) hE rfl (by kernel_rfl) (runs_plain rfl) (Gives.p hE rfl) rfl (tw_sel (fun _ => hS) (fun _ => hS)) ?_; clear hE a; intro a hE
          obtain ⟨x95, hx96, hr⟩ := bindS hr
          obtain ⟨hi97, hlt98, hy99⟩ := gx_some hx96
          obtain ⟨cs100, hl101, hR102, hat103⟩ := h75.at hy99
          subst hR102
          refine Rg.takeP (i := 7) hE rfl (by kernel_rfl) (runs_plain rfl) (Gives.idx hE ((2 : Int)).toNat rfl rfl sl23 hi97 hlt98 (h75.aok hlt98)) rfl (tw_sel (fun _ => hS) (fun _ => hS)) ?_; clear hE a; intro a hE
          have hT := tw_sel (A := fun w => St w s73 (pt b52 (.cells #[.int .i64 0, .int .i64 0, .int .i64 0, .int .i64 0, .int .i64 0, .slice none 0 0] 46 (0, 0)) :: pt b51 (.cells (FareKey.cells x0).toArray 44 (0, 0)) :: R)) (B := fun w => St w s73 (pt b52 (.cells #[.int .i64 0, .int .i64 0, .int .i64 0, .int .i64 0, .int .i64 0, .slice none 0 0] 46 (0, 0)) :: pt b51 (.cells (FareKey.cells x0).toArray 44 (0, 0)) :: R)) (w := _) (x := true) (y := true) (fun _ => hS) (fun _ => hS)
          have hF := hS; replace hS := hS
          refine Rg.take (i := 8) true rfl hE rfl (by kernel_rfl) (runs_plain rfl) (Gives.load1 hE rfl (fun w h => hat103 w _ h) ty3) rfl hT ?_; clear hE a; intro a hE
          replace hS := hF; clear hF hT
          refine Rg.takeP (i := 9) hE rfl (by kernel_rfl) (runs_plain rfl) (Gives.p hE rfl) rfl (tw_sel (fun _ => hS) (fun _ => hS)) ?_; clear hE a; intro a hE
          obtain ⟨x104, hx105, hr⟩ := bindS hr
          obtain ⟨hi106, hlt107, hy108⟩ := gx_some hx105
          obtain ⟨cs109, hl110, hR111, hat112⟩ := h75.at hy108
          subst hR111
          refine Rg.takeP (i := 10) hE rfl (by kernel_rfl) (runs_plain rfl) (Gives.idx hE ((3 : Int)).toNat rfl rfl sl23 hi106 hlt107 (h75.aok hlt107)) rfl (tw_sel (fun _ => hS) (fun _ => hS)) ?_; clear hE a; intro a hE
          have hT := tw_sel (A := fun w => St w s73 (pt b52 (.cells #[.int .i64 0, .int .i64 0, .int .i64 0, .int .i64 0, .int .i64 0, .slice none 0 0] 46 (0, 0)) :: pt b51 (.cells (FareKey.cells x0).toArray 44 (0, 0)) :: R)) (B := fun w => St w s73 (pt b52 (.cells #[.int .i64 0, .int .i64 0, .int .i64 0, .int .i64 0, .int .i64 0, .slice none 0 0] 46 (0, 0)) :: pt b51 (.cells (FareKey.cells x0).toArray 44 (0, 0)) :: R)) (w := _) (x := true) (y := true) (fun _ => hS) (fun _ => hS)
          have hF := hS; replace hS := hS
          refine Rg.take (i := 11) true rfl hE rfl (by kernel_rfl) (runs_plain rfl) (Gives.load1 hE rfl (fun w h => hat112 w _ h) ty3) rfl hT ?_; clear hE a; intro a hE
          replace hS := hF; clear hF hT
          refine Rg.takeP (i := 12) hE rfl (by kernel_rfl) (runs_plain rfl) (Gives.p hE rfl) rfl (tw_sel (fun _ => hS) (fun _ => hS)) ?_; clear hE a; intro a hE
          obtain ⟨x113, hx114, hr⟩ := bindS hr
          obtain ⟨hi115, hlt116, hy117⟩ := gx_some hx114
          obtain ⟨cs118, hl119, hR120, hat121⟩ := h75.at hy117
          subst hR120
          refine Rg.takeP (i := 13) hE rfl (by kernel_rfl) (runs_plain rfl) (Gives.idx hE ((4 : Int)).toNat rfl rfl sl23 hi115 hlt116 (h75.aok hlt116)) rfl (tw_sel (fun _ => hS) (fun _ => hS)) ?_; clear hE a; intro a hE
          have hT := tw_sel (A := fun w => St w s73 (pt b52 (.cells #[.int .i64 0, .int .i64 0, .int .i64 0, .int .i64 0, .int .i64 0, .slice none 0 0] 46 (0, 0)) :: pt b51 (.cells (FareKey.cells x0).toArray 44 (0, 0)) :: R)) (B := fun w => St w s73 (pt b52 (.cells #[.int .i64 0, .int .i64 0, .int .i64 0, .int .i64 0, .int .i64 0, .slice none 0 0] 46 (0, 0)) :: pt b51 (.cells (FareKey.cells x0).toArray 44 (0, 0)) :: R)) (w := _) (x := true) (y := true) (fun _ => hS) (fun _ => hS)
          have hF := hS; replace hS := hS
          refine Rg.take (i := 14) true rfl hE rfl (by kernel_rfl) (runs_plain rfl) (Gives.load1 hE rfl (fun w h => hat121 w _ h) ty3) rfl hT ?_; clear hE a; intro a hE
          replace hS := hF; clear hF hT
          refine Rg.takeP (i := 15) hE rfl (by kernel_rfl) (runs_plain rfl) (Gives.p hE rfl) rfl (tw_sel (fun _ => hS) (fun _ => hS)) ?_; clear hE a; intro a hE
          have hT := tw_sel (A := fun w => St w s73 (pt b52 (.cells #[.int .i64 0, .int .i64 0, .int .i64 0, .int .i64 0, .int .i64 0, .slice none 0 0] 46 (0, 0)) :: pt b51 (.cells (FareKey.cells x0).toArray 44 (0, 0)) :: R)) (B := fun w => St w s73 (pt b52 (.cells #[.int .i64 0, .int .i64 0, .int .i64 0, .int .i64 0, .int .i64 0, .slice none 0 0] 46 (0, 0)) :: pt b51 (.cells (FareKey.cells x0).toArray 44 (0, 0)) :: R)) (w := _) (x := true) (y := true) (fun _ => hS) (fun _ => hS)
          have hF := hS; replace hS := hS
          obtain ⟨x122, hx123, hr⟩ := bindS hr
          obtain ⟨a124, c125, heq126, h127⟩ := h75.cut hx123
          obtain ⟨h128, h129, h130, _⟩ := cutl_some hx123
          refine Rg.take (i := 16) true rfl hE rfl (by kernel_rfl) (runs_plain rfl) (Gives.slL hE sl23 rfl rfl h128 (by omega) (by simpa using heq126)) rfl hT ?_; clear hE a; intro a hE
          replace hS := hF; clear hF hT
          refine Rg.takeP (i := 17) hE rfl (by kernel_rfl) (runs_plain rfl) (Gives.build hE (vs := [(0, .int .i64 x77), (1, .int .i64 x86), (2, .int .i64 x95), (3, .int .i64 x104), (4, .int .i64 x113), (5, .slice a124 x122.length c125)]) [.int .i64 x77, .int .i64 x86, .int .i64 x95, .int .i64 x104, .int .i64 x113, .slice a124 x122.length c125] rfl (by kernel_rfl)) rfl (tw_sel (fun _ => hS) (fun _ => hS)) ?_; clear hE a; intro a hE
          refine Rg.one (i := 18) true true rfl (by kernel_rfl) (by kernel_rfl) (by kernel_rfl) ?_
          refine WL.alloc hE hS (runs_plain rfl) zr46 rfl ?_; clear hE hS a w; intro b131 a w hE hS
          refine WL.nil ?_
          refine ⟨⟨fun _ => (hS.tail), fun _ => (hS.tail)⟩, ?_⟩
          refine Rg.one (i := 19) true true rfl (by kernel_rfl) (by kernel_rfl) (by kernel_rfl) ?_
          refine WL.storeI hE hS 0 rfl [.int .i64 x77, .int .i64 x86, .int .i64 x95, .int .i64 x104, .int .i64 x113, .slice a124 x122.length c125] (runs_plain rfl) rfl rfl rfl ty46 rfl rfl rfl rfl ?_; clear hE hS a w; intro a w hE hS
          refine WL.nil ?_
          refine ⟨⟨fun _ => (hS.tail), fun _ => (hS.tail)⟩, ?_⟩
          refine Rg.done (by kernel_rfl) ?_
          subst hK76
          refine W.seq ?_
          refine W.seq ?_
          refine W.region ?_
          refine WL.vS hS hE (runs_plain rfl) (Gives.loadBA hE 0 rfl rfl ty46) rfl ?_; clear hE a; intro a hE
          obtain ⟨q132, hq133, hr⟩ := bindS hr
          have hc_ := FareTicketcheck_ok hS h127 hq133
          refine WL.fnq hE (hc_) (runs_plain rfl) bd53 rfl rfl rfl ?_
          clear hE hS hc_; rintro e w ⟨rfl, hS⟩; refine ⟨_, rfl, ?_⟩; clear a; intro a hE
          refine WL.vS hS hE (runs_plain rfl) (Gives.p hE rfl) rfl ?_; clear hE a; intro a hE
          refine WL.nil ?_
          refine W.seq ?_
          refine W.region ?_
          refine WL.vS hS hE (runs_plain rfl) (Gives.p hE rfl) rfl ?_; clear hE a; intro a hE
          refine WL.vS hS hE (runs_plain rfl) (Gives.p hE rfl) rfl ?_; clear hE a; intro a hE
          refine WL.nil ?_
          refine W.cond hE rfl (fun hc134 => ?_) (fun hc134 => ?_)
          · replace hr := iteT hc134 hr
            refine W.seq ?_
            refine W.region ?_
            refine WL.vS hS hE (runs_plain rfl) (Gives.build hE (vs := []) [.int .i64 0, .int .i64 0, .int .i64 0, .int .i64 0, .int .i64 0, .slice none 0 0] rfl (by kernel_rfl)) rfl ?_; clear hE a; intro a hE
            refine WL.vS hS hE (runs_plain rfl) (Gives.p hE rfl) rfl ?_; clear hE a; intro a hE
            refine WL.storeI hE hS 1 rfl [.int .i64 0, .int .i64 0, .int .i64 0, .int .i64 0, .int .i64 0, .slice none 0 0] (runs_plain rfl) rfl rfl rfl ty46 rfl rfl rfl rfl ?_; clear hE hS a w; intro a w hE hS
            refine WL.vS hS hE (runs_plain rfl) (Gives.p hE rfl) rfl ?_; clear hE a; intro a hE
            refine WL.nil ?_
            refine W.ret ?_
            refine finG (fn := Tryd.f18) (rs := [.cell 4 46, .tmp 5]) (vs := [_, _]) hE rfl ⟨⟨_, rfl, .inl ⟨_, rfl, hS.seesAt 1 rfl, ty46⟩⟩, rfl, trivial⟩ ?_
            obtain rfl := Option.some.inj hr
            replace hS := hS.tail
            replace hS := hS.tail
            replace hS := hS.tail
            exact ⟨_, s73, rfl, (Sg.Le.trans hle64 hle74), ⟨_, _, rfl, Sl.nil⟩, hS⟩
          · replace hr := iteF hc134 hr
            refine W.skip ?_
            refine W.seq ?_
            refine W.region ?_
            refine WL.vS hS hE (runs_plain rfl) (Gives.loadBA hE 0 rfl rfl ty46) rfl ?_; clear hE a; intro a hE
            refine WL.storeI hE hS 1 rfl [.int .i64 x77, .int .i64 x86, .int .i64 x95, .int .i64 x104, .int .i64 x113, .slice a124 x122.length c125] (runs_plain rfl) rfl rfl rfl ty46 rfl rfl rfl rfl ?_; clear hE hS a w; intro a w hE hS
            refine WL.vS hS hE (runs_plain rfl) (Gives.p hE rfl) rfl ?_; clear hE a; intro a hE
            refine WL.nil ?_
            refine W.ret ?_
            refine finG (fn := Tryd.f18) (rs := [.cell 4 46, .tmp 5]) (vs := [_, _]) hE rfl ⟨⟨_, rfl, .inl ⟨_, rfl, hS.seesAt 1 rfl, ty46⟩⟩, rfl, trivial⟩ ?_
            obtain rfl := Option.some.inj hr
            replace hS := hS.tail
            replace hS := hS.tail
            replace hS := hS.tail
            exact ⟨_, s73, rfl, (Sg.Le.trans hle64 hle74), ⟨_, _, rfl, h127⟩, hS⟩
set_option maxHeartbeats 8000000 in
theorem Fishref2within_ok  {w : World} {s : Sg} {R : List HP} {x0 : Int} {x1 : Int} {x2 : Int} (hS : St w s (R))  {r : Bool} (hr : Fishref2within x0 x1 x2 = r) :
    Calls Tryd.prog 30 [.int .i64 x0, .int .i64 x1, .int .i64 x2].toArray w (fun e w => e = .returned (.bool r) ∧ St w s (R)) := by
  refine enter Tryd.func30 rfl rfl rfl fun a hE => ?_
  rw [Fishref2within] at hr
  refine W.seq ?_
  refine W.region ?_
  refine WL.vS hS hE (runs_plain rfl) (Gives.p hE rfl) rfl ?_; clear hE a; intro a hE
  refine WL.nil ?_
  refine W.seq ?_
  obtain ⟨q52, hq51, hr⟩ := bndS hr
  refine W.cut (fun a w => ∃ (q55 : Bool), q55 = q52 ∧ Rep a 15 [(6, .bool q55)] ∧ St w s (R)) ?_ ?_
  · refine W.gen fun K56 hK56 => ?_
    refine W.region ?_
    refine WL.vS hS hE (runs_plain rfl) (Gives.p hE rfl) rfl ?_; clear hE a; intro a hE
    refine WL.vS hS hE (runs_plain rfl) (Gives.p hE rfl) rfl ?_; clear hE a; intro a hE
    refine WL.vS hS hE (runs_plain rfl) (Gives.p hE rfl) rfl ?_; clear hE a; intro a hE
    refine WL.vS hS hE (runs_plain rfl) (Gives.p hE rfl) rfl ?_; clear hE a; intro a hE
    rcases Bool.eq_false_or_eq_true (decide (x0 ≥ x1)) with hg57 | hg57
    · replace hq51 := iteT hg57 hq51
      refine WL.vS hS hE (runs_if hE rfl rfl rfl hg57) (Gives.p hE rfl) rfl ?_; clear hE a; intro a hE
      refine WL.vS hS hE (runs_if hE rfl rfl rfl hg57) (Gives.p hE rfl) rfl ?_; clear hE a; intro a hE
      refine WL.vS hS hE (runs_if hE rfl rfl rfl hg57) (Gives.p hE rfl) rfl ?_; clear hE a; intro a hE
      refine WL.vS hS hE (runs_plain rfl) (Gives.pickT hE rfl hg57 rfl) rfl ?_; clear hE a; intro a hE
      refine WL.vS hS hE (runs_plain rfl) (Gives.p hE rfl) rfl ?_; clear hE a; intro a hE
      refine WL.nil ?_
      subst hK56
      exact ⟨decide (x0 ≤ x2), hq51, hE.pick _ ⟨rfl, trivial⟩, hS⟩
    · replace hq51 := iteF hg57 hq51
      refine WL.no hE (runs_not hE rfl rfl rfl (by rw [hg57]; decide)) rfl ?_; clear hE a; intro a hE
      refine WL.no hE (runs_not hE rfl rfl rfl (by rw [hg57]; decide)) rfl ?_; clear hE a; intro a hE
      refine WL.no hE (runs_not hE rfl rfl rfl (by rw [hg57]; decide)) rfl ?_; clear hE a; intro a hE
      refine WL.vS hS hE (runs_plain rfl) (Gives.pickF hE rfl hg57 rfl) rfl ?_; clear hE a; intro a hE
      refine WL.vS hS hE (runs_plain rfl) (Gives.p hE rfl) rfl ?_; clear hE a; intro a hE
      refine WL.nil ?_
      subst hK56
      exact ⟨false, hq51, hE.pick _ ⟨rfl, trivial⟩, hS⟩
  · clear hE hS a w; rintro a w ⟨q55, rfl, hE, hS⟩
    refine W.ret ?_
    refine finG (fn := Tryd.f30) (rs := [.tmp 6]) (vs := [_]) hE rfl ⟨rfl, trivial⟩ ?_
    subst hr
    exact ⟨rfl, hS⟩
set_option maxHeartbeats 8000000 in
theorem Fishref2KeyFault_ok  {w : World} {s : Sg} {R : List HP} {x0 : FareKey} {x1 : Bool} (hS : St w s (R))  {r : Int} (hr : Fishref2KeyFault x0 x1 = r) :
    Calls Tryd.prog 54 [.agg (FareKey.cells x0).toArray, .bool x1].toArray w (fun e w => e = .returned (.int .i64 r) ∧ St w s (R)) := by
  refine enter Tryd.func54 rfl rfl rfl fun a hE => ?_
  rw [Fishref2KeyFault] at hr
  refine W.seq ?_
  refine W.region ?_
  refine WL.box hE hS (runs_plain rfl) rfl rfl rfl ?_; clear hE hS a w; intro b51 a w hE hS
  refine WL.vS hS hE (runs_plain rfl) (Gives.p hE rfl) rfl ?_; clear hE a; intro a hE
  refine WL.nil ?_
  refine W.seq ?_
  refine W.seq ?_
  obtain ⟨q53, hq52, hr⟩ := bndS hr
  refine W.cut (fun a w => ∃ (q56 : Bool), q56 = q53 ∧ Rep a 27 [(26, .bool q56)] ∧ St w s (pt b51 (.cells (FareKey.cells x0).toArray 44 (0, 0)) :: R)) ?_ ?_
  · refine W.gen fun K57 hK57 => ?_
    refine W.region ?_
    refine WL.vS hS hE (runs_plain rfl) (Gives.fld hE rfl fl44_0) rfl ?_; clear hE a; intro a hE
    refine WL.vS hS hE (runs_plain rfl) (Gives.loadB hE 0 rfl rfl rfl ty3) rfl ?_; clear hE a; intro a hE
    refine WL.fnq hE (Fishref2within_ok hS  rfl (r := Fishref2within x0.N 1018081 1072497001)) (runs_plain rfl) bd30 rfl rfl rfl ?_
    clear hE hS; rintro e w ⟨rfl, hS⟩; refine ⟨_, rfl, ?_⟩; clear a; intro a hE
    refine WL.vS hS hE (runs_plain rfl) (Gives.p hE rfl) rfl ?_; clear hE a; intro a hE
    refine WL.vS hS hE (runs_plain rfl) (Gives.p hE rfl) rfl ?_; clear hE a; intro a hE
    rcases Bool.eq_false_or_eq_true (!(Fishref2within x0.N 1018081 1072497001)) with hg58 | hg58
    · replace hq52 := iteT hg58 hq52
      refine WL.no hE (runs_not hE rfl rfl rfl (by rw [hg58]; decide)) rfl ?_; clear hE a; intro a hE
      refine WL.no hE (runs_not hE rfl rfl rfl (by rw [hg58]; decide)) rfl ?_; clear hE a; intro a hE
      refine WL.no hE (runs_not hE rfl rfl rfl (by rw [hg58]; decide)) rfl ?_; clear hE a; intro a hE
      refine WL.no hE (runs_not hE rfl rfl rfl (by rw [hg58]; decide)) rfl ?_; clear hE a; intro a hE
      refine WL.vS hS hE (runs_plain rfl) (Gives.pickT hE rfl hg58 rfl) rfl ?_; clear hE a; intro a hE
      refine WL.vS hS hE (runs_plain rfl) (Gives.p hE rfl) rfl ?_; clear hE a; intro a hE
      refine WL.no hE (runs_not hE rfl rfl rfl (by decide)) rfl ?_; clear hE a; intro a hE
      refine WL.no hE (runs_not hE rfl rfl rfl (by decide)) rfl ?_; clear hE a; intro a hE
      refine WL.no hE (runs_undef hE rfl rfl rfl) rfl ?_; clear hE a; intro a hE
      refine WL.no hE (runs_undef hE rfl rfl rfl) rfl ?_; clear hE a; intro a hE
      refine WL.no hE (runs_undef hE rfl rfl rfl) rfl ?_; clear hE a; intro a hE
      refine WL.no hE (runs_undef hE rfl rfl rfl) rfl ?_; clear hE a; intro a hE
      refine WL.no hE (runs_undef hE rfl rfl rfl) rfl ?_; clear hE a; intro a hE
      refine WL.no hE (runs_undef hE rfl rfl rfl) rfl ?_; clear hE a; intro a hE
      refine WL.no hE (runs_undef hE rfl rfl rfl) rfl ?_; clear hE a; intro a hE
      refine WL.no hE (runs_not hE rfl rfl rfl (by decide)) rfl ?_; clear hE a; intro a hE
      refine WL.vS hS hE (runs_plain rfl) (Gives.pickT hE rfl rfl rfl) rfl ?_; clear hE a; intro a hE
      refine WL.nil ?_
      subst hK57
      exact ⟨true, hq52, hE.pick _ ⟨rfl, trivial⟩, hS⟩
    · replace hq52 := iteF hg58 hq52
      refine WL.vS hS hE (runs_if hE rfl rfl rfl hg58) (Gives.fld hE rfl fl44_1) rfl ?_; clear hE a; intro a hE
      refine WL.vS hS hE (runs_if hE rfl rfl rfl hg58) (Gives.loadB hE 0 rfl rfl rfl ty3) rfl ?_; clear hE a; intro a hE
      refine WL.fnq hE (Fishref2within_ok hS  rfl (r := Fishref2within x0.E 3 32749)) (runs_if hE rfl rfl rfl hg58) bd30 rfl rfl rfl ?_
      clear hE hS; rintro e w ⟨rfl, hS⟩; refine ⟨_, rfl, ?_⟩; clear a; intro a hE
      refine WL.vS hS hE (runs_if hE rfl rfl rfl hg58) (Gives.p hE rfl) rfl ?_; clear hE a; intro a hE
      refine WL.vS hS hE (runs_plain rfl) (Gives.pickF hE rfl hg58 rfl) rfl ?_; clear hE a; intro a hE
      refine WL.vS hS hE (runs_plain rfl) (Gives.p hE rfl) rfl ?_; clear hE a; intro a hE
      rcases Bool.eq_false_or_eq_true (!(Fishref2within x0.E 3 32749)) with hg59 | hg59
      · replace hq52 := iteT hg59 hq52
        refine WL.no hE (runs_not hE rfl rfl rfl (by rw [hg59]; decide)) rfl ?_; clear hE a; intro a hE
        refine WL.no hE (runs_not hE rfl rfl rfl (by rw [hg59]; decide)) rfl ?_; clear hE a; intro a hE
        refine WL.no hE (runs_undef hE rfl rfl rfl) rfl ?_; clear hE a; intro a hE
        refine WL.no hE (runs_undef hE rfl rfl rfl) rfl ?_; clear hE a; intro a hE
        refine WL.no hE (runs_undef hE rfl rfl rfl) rfl ?_; clear hE a; intro a hE
        refine WL.no hE (runs_undef hE rfl rfl rfl) rfl ?_; clear hE a; intro a hE
        refine WL.no hE (runs_undef hE rfl rfl rfl) rfl ?_; clear hE a; intro a hE
        refine WL.no hE (runs_undef hE rfl rfl rfl) rfl ?_; clear hE a; intro a hE
        refine WL.no hE (runs_undef hE rfl rfl rfl) rfl ?_; clear hE a; intro a hE
        refine WL.no hE (runs_not hE rfl rfl rfl (by rw [hg59]; decide)) rfl ?_; clear hE a; intro a hE
        refine WL.vS hS hE (runs_plain rfl) (Gives.pickT hE rfl hg59 rfl) rfl ?_; clear hE a; intro a hE
        refine WL.nil ?_
        subst hK57
        exact ⟨true, hq52, hE.pick _ ⟨rfl, trivial⟩, hS⟩
      · replace hq52 := iteF hg59 hq52
        refine WL.vS hS hE (runs_if hE rfl rfl rfl hg59) (Gives.p hE rfl) rfl ?_; clear hE a; intro a hE
        refine WL.vS hS hE (runs_if hE rfl rfl rfl hg59) (Gives.p hE rfl) rfl ?_; clear hE a; intro a hE
        rcases Bool.eq_false_or_eq_true x1 with hg60 | hg60
        · replace hq52 := iteT hg60 hq52
          refine WL.vS hS hE (runs_if hE rfl rfl rfl hg60) (Gives.fld hE rfl fl44_2) rfl ?_; clear hE a; intro a hE
          refine WL.vS hS hE (runs_if hE rfl rfl rfl hg60) (Gives.loadB hE 0 rfl rfl rfl ty3) rfl ?_; clear hE a; intro a hE
          refine WL.vS hS hE (runs_if hE rfl rfl rfl hg60) (Gives.fld hE rfl fl44_0) rfl ?_; clear hE a; intro a hE
          refine WL.vS hS hE (runs_if hE rfl rfl rfl hg60) (Gives.loadB hE 0 rfl rfl rfl ty3) rfl ?_; clear hE a; intro a hE
          refine WL.vS hS hE (runs_if hE rfl rfl rfl hg60) (Gives.p hE rfl) rfl ?_; clear hE a; intro a hE
          refine WL.fnq hE (Fishref2within_ok hS  rfl (r := Fishref2within x0.D 1 (w64 (x0.N - 1)))) (runs_if hE rfl rfl rfl hg60) bd30 rfl rfl rfl ?_
          clear hE hS; rintro e w ⟨rfl, hS⟩; refine ⟨_, rfl, ?_⟩; clear a; intro a hE
          refine WL.vS hS hE (runs_if hE rfl rfl rfl hg60) (Gives.p hE rfl) rfl ?_; clear hE a; intro a hE
          refine WL.vS hS hE (runs_if hE rfl rfl rfl hg59) (Gives.pickT hE rfl hg60 rfl) rfl ?_; clear hE a; intro a hE
          refine WL.vS hS hE (runs_plain rfl) (Gives.pickF hE rfl hg59 rfl) rfl ?_; clear hE a; intro a hE
          refine WL.nil ?_
          subst hK57
          exact ⟨!(Fishref2within x0.D 1 (w64 (x0.N - 1))), hq52, hE.pick _ ⟨rfl, trivial⟩, hS⟩
        · replace hq52 := iteF hg60 hq52
          refine WL.no hE (runs_not hE rfl rfl rfl (by rw [hg60]; decide)) rfl ?_; clear hE a; intro a hE
          refine WL.no hE (runs_not hE rfl rfl rfl (by rw [hg60]; decide)) rfl ?_; clear hE a; intro a hE
          refine WL.no hE (runs_not hE rfl rfl rfl (by rw [hg60]; decide)) rfl ?_; clear hE a; intro a hE
          refine WL.no hE (runs_not hE rfl rfl rfl (by rw [hg60]; decide)) rfl ?_; clear hE a; intro a hE
          refine WL.no hE (runs_not hE rfl rfl rfl (by rw [hg60]; decide)) rfl ?_; clear hE a; intro a hE
          refine WL.no hE (runs_not hE rfl rfl rfl (by rw [hg60]; decide)) rfl ?_; clear hE a; intro a hE
          refine WL.no hE (runs_not hE rfl rfl rfl (by rw [hg60]; decide)) rfl ?_; clear hE a; intro a hE
          refine WL.vS hS hE (runs_if hE rfl rfl rfl hg59) (Gives.pickF hE rfl hg60 rfl) rfl ?_; clear hE a; intro a hE
          refine WL.vS hS hE (runs_plain rfl) (Gives.pickF hE rfl hg59 rfl) rfl ?_; clear hE a; intro a hE
          refine WL.nil ?_
          subst hK57
          exact ⟨false, hq52, hE.pick _ ⟨rfl, trivial⟩, hS⟩
  · clear hE hS a w; rintro a w ⟨q56, rfl, hE, hS⟩
    refine W.cond hE rfl (fun hc61 => ?_) (fun hc61 => ?_)
    · replace hr := iteT hc61 hr
      refine W.seq ?_
      refine W.region ?_
      refine WL.vS hS hE (runs_plain rfl) (Gives.p hE rfl) rfl ?_; clear hE a; intro a hE
      refine WL.nil ?_
      refine W.ret ?_
      refine finG (fn := Tryd.f54) (rs := [.tmp 4]) (vs := [_]) hE rfl ⟨rfl, trivial⟩ ?_
      subst hr
      replace hS := hS.tail
      exact ⟨rfl, hS⟩
    · replace hr := iteF hc61 hr
      refine W.skip ?_
      refine W.seq ?_
      refine W.region ?_
      refine WL.vS hS hE (runs_plain rfl) (Gives.p hE rfl) rfl ?_; clear hE a; intro a hE
      refine WL.nil ?_
      refine W.ret ?_
      refine finG (fn := Tryd.f54) (rs := [.tmp 4]) (vs := [_]) hE rfl ⟨rfl, trivial⟩ ?_
      subst hr
      replace hS := hS.tail
      exact ⟨rfl, hS⟩
set_option maxHeartbeats 8000000 in
theorem Fishref2plain_ok  {w : World} {s : Sg} {R : List HP} {x0 : ByteArray} (hS : St w s (R)) (hTab : TabX s) {r : Int × Bool} (hr : Fishref2plain x0 = some r) :
    Calls Tryd.prog 57 [.string x0].toArray w (fun e w => e = .returned (.tuple #[.int .i64 r.1, .bool r.2]) ∧ St w s (R)) := by
  refine enter Tryd.func57 rfl rfl rfl fun a hE => ?_
  rw [Fishref2plain] at hr
  refine W.seq ?_
  refine W.region ?_
  refine WL.vS hS hE (runs_plain rfl) (Gives.p hE rfl) rfl ?_; clear hE a; intro a hE
  refine WL.vS hS hE (runs_plain rfl) (Gives.p hE rfl) rfl ?_; clear hE a; intro a hE
  refine WL.nil ?_
  refine W.seq ?_
  refine W.region ?_
  refine WL.vS hS hE (runs_plain rfl) (Gives.p hE rfl) rfl ?_; clear hE a; intro a hE
  obtain ⟨q51, hq52, hr⟩ := bindS hr
  refine WL.fnq hE (atoi_ok hS (TabG.mono (Sg.Le.refl _) hTab) hq52) (runs_plain rfl) bd83 rfl rfl rfl ?_
  clear hE hS; rintro e w ⟨ev53, rfl, h54, hS⟩; refine ⟨_, rfl, ?_⟩; clear a; intro a hE
  refine WL.vS hS hE (runs_plain rfl) (Gives.p hE rfl) rfl ?_; clear hE a; intro a hE
  refine WL.vS hS hE (runs_plain rfl) (Gives.p hE rfl) rfl ?_; clear hE a; intro a hE
  refine WL.vS hS hE (runs_plain rfl) (Gives.p hE rfl) rfl ?_; clear hE a; intro a hE
  refine WL.vS hS hE (runs_plain rfl) (Gives.p hE rfl) rfl ?_; clear hE a; intro a hE
  refine WL.vS hS hE (runs_plain rfl) (Gives.p hE rfl) rfl ?_; clear hE a; intro a hE
  refine WL.nil ?_
  refine W.seq ?_
  obtain ⟨q56, hq55, hr⟩ := bindS hr
  refine W.cut (fun a w => ∃ (q59 : Int), ∃ (q60 : Bool), (q59, q60) = q56 ∧ Rep a 24 [(2, .int .i64 q59), (3, .bool q60)] ∧ St w s (R)) ?_ ?_
  · refine W.gen fun K61 hK61 => ?_
    refine W.region ?_
    refine WL.vS hS hE (runs_plain rfl) (Gives.p hE rfl) rfl ?_; clear hE a; intro a hE
    refine WL.vS hS hE (runs_plain rfl) (Gives.p hE rfl) rfl ?_; clear hE a; intro a hE
    refine WL.vS hS hE (runs_plain rfl) (Gives.errNil hE if73 h54 rfl) rfl ?_; clear hE a; intro a hE
    refine WL.vS hS hE (runs_plain rfl) (Gives.p hE rfl) rfl ?_; clear hE a; intro a hE
    rcases Bool.eq_false_or_eq_true q51.2 with hg62 | hg62
    · replace hq55 := iteT hg62 hq55
      refine WL.vS hS hE (runs_if hE rfl rfl rfl hg62) (Gives.p hE rfl) rfl ?_; clear hE a; intro a hE
      refine WL.vS hS hE (runs_if hE rfl rfl rfl hg62) (Gives.p hE rfl) rfl ?_; clear hE a; intro a hE
      refine WL.vS hS hE (runs_plain rfl) (Gives.pickT hE rfl hg62 rfl) rfl ?_; clear hE a; intro a hE
      refine WL.vS hS hE (runs_plain rfl) (Gives.p hE rfl) rfl ?_; clear hE a; intro a hE
      rcases Bool.eq_false_or_eq_true (decide (q51.1 ≥ 0)) with hg63 | hg63
      · replace hq55 := iteT hg63 hq55
        refine WL.vS hS hE (runs_if hE rfl rfl rfl hg63) (Gives.p hE rfl) rfl ?_; clear hE a; intro a hE
        obtain ⟨q64, hq65, hq55⟩ := bindS hq55
        refine WL.fnq hE (itoa_ok hS (TabG.mono (Sg.Le.refl _) hTab).tab hq65) (runs_if hE rfl rfl rfl hg63) bd43 rfl rfl rfl ?_
        clear hE hS; rintro e w ⟨rfl, hS⟩; refine ⟨_, rfl, ?_⟩; clear a; intro a hE
        refine WL.vS hS hE (runs_if hE rfl rfl rfl hg63) (Gives.p hE rfl) rfl ?_; clear hE a; intro a hE
        refine WL.vS hS hE (runs_if hE rfl rfl rfl hg63) (Gives.eqSt hE rfl rfl) rfl ?_; clear hE a; intro a hE
        refine WL.vS hS hE (runs_plain rfl) (Gives.pickT hE rfl hg63 rfl) rfl ?_; clear hE a; intro a hE
        refine WL.vS hS hE (runs_plain rfl) (Gives.p hE rfl) rfl ?_; clear hE a; intro a hE
        refine WL.vS hS hE (runs_plain rfl) (Gives.p hE rfl) rfl ?_; clear hE a; intro a hE
        refine WL.nil ?_
        subst hK61
        exact ⟨q51.1, (seq q64 x0), Option.some.inj hq55, hE.pick _ ⟨rfl, rfl, trivial⟩, hS⟩
      · replace hq55 := iteF hg63 hq55
        refine WL.no hE (runs_not hE rfl rfl rfl (by rw [hg63]; decide)) rfl ?_; clear hE a; intro a hE
        refine WL.no hE (runs_not hE rfl rfl rfl (by rw [hg63]; decide)) rfl ?_; clear hE a; intro a hE
        refine WL.no hE (runs_not hE rfl rfl rfl (by rw [hg63]; decide)) rfl ?_; clear hE a; intro a hE
        refine WL.no hE (runs_not hE rfl rfl rfl (by rw [hg63]; decide)) rfl ?_; clear hE a; intro a hE
        refine WL.vS hS hE (runs_plain rfl) (Gives.pickF hE rfl hg63 rfl) rfl ?_; clear hE a; intro a hE
        refine WL.vS hS hE (runs_plain rfl) (Gives.p hE rfl) rfl ?_; clear hE a; intro a hE
        refine WL.vS hS hE (runs_plain rfl) (Gives.p hE rfl) rfl ?_; clear hE a; intro a hE
        refine WL.nil ?_
        subst hK61
        exact ⟨q51.1, false, Option.some.inj hq55, hE.pick _ ⟨rfl, rfl, trivial⟩, hS⟩
    · replace hq55 := iteF hg62 hq55
      refine WL.no hE (runs_not hE rfl rfl rfl (by rw [hg62]; decide)) rfl ?_; clear hE a; intro a hE
      refine WL.no hE (runs_not hE rfl rfl rfl (by rw [hg62]; decide)) rfl ?_; clear hE a; intro a hE
      refine WL.vS hS hE (runs_plain rfl) (Gives.pickF hE rfl hg62 rfl) rfl ?_; clear hE a; intro a hE
      refine WL.vS hS hE (runs_plain rfl) (Gives.p hE rfl) rfl ?_; clear hE a; intro a hE
      refine WL.no hE (runs_not hE rfl rfl rfl (by decide)) rfl ?_; clear hE a; intro a hE
      refine WL.no hE (runs_not hE rfl rfl rfl (by decide)) rfl ?_; clear hE a; intro a hE
      refine WL.no hE (runs_not hE rfl rfl rfl (by decide)) rfl ?_; clear hE a; intro a hE
      refine WL.no hE (runs_not hE rfl rfl rfl (by decide)) rfl ?_; clear hE a; intro a hE
      refine WL.vS hS hE (runs_plain rfl) (Gives.pickF hE rfl rfl rfl) rfl ?_; clear hE a; intro a hE
      refine WL.vS hS hE (runs_plain rfl) (Gives.p hE rfl) rfl ?_; clear hE a; intro a hE
      refine WL.vS hS hE (runs_plain rfl) (Gives.p hE rfl) rfl ?_; clear hE a; intro a hE
      refine WL.nil ?_
      subst hK61
      exact ⟨q51.1, false, Option.some.inj hq55, hE.pick _ ⟨rfl, rfl, trivial⟩, hS⟩
  · clear hE hS a w; rintro a w ⟨q59, q60, rfl, hE, hS⟩
    dsimp only at hr
    refine W.ret ?_
    refine finG (fn := Tryd.f57) (rs := [.tmp 2, .tmp 3]) (vs := [_, _]) hE rfl ⟨rfl, rfl, trivial⟩ ?_
    obtain rfl := Option.some.inj hr
    exact ⟨rfl, hS⟩
set_option maxHeartbeats 8000000 in
theorem Fishref2powerOf_ok {fu : Nat}  {w : World} {s : Sg} {R : List HP} {x0 : Int} {x1 : Int} {x2 : Int} (hS : St w s (R))  {r : Int} (hr : Fishref2powerOf fu x0 x1 x2 = some r) :
    Calls Tryd.prog 84 [.int .i64 x0, .int .i64 x1, .int .i64 x2].toArray w (fun e w => e = .returned (.int .i64 r) ∧ St w s (R)) := by
  refine enter Tryd.func84 rfl rfl rfl fun a hE => ?_
  rw [Fishref2powerOf] at hr
  refine W.seq ?_
  refine W.region ?_
  refine WL.vS hS hE (runs_plain rfl) (Gives.p hE rfl) rfl ?_; clear hE a; intro a hE
  refine WL.nil ?_
  refine W.seq ?_
  refine W.region ?_
  refine WL.vS hS hE (runs_plain rfl) (Gives.p hE rfl) rfl ?_; clear hE a; intro a hE
  refine WL.nil ?_
  refine W.seq ?_
  refine W.seq ?_
  refine W.region ?_
  refine WL.vS hS hE (runs_plain rfl) (Gives.p hE rfl) rfl ?_; clear hE a; intro a hE
  refine WL.nil ?_
  obtain ⟨q52, hq51, hr⟩ := bindS hr
  refine W.cut (fun a w => ∃ (q57 : Int), ∃ (q58 : Int), (q57, q58) = q52 ∧ Rep a 31 [(7, .int .i64 q57)] ∧ St w s (R)) ?_ ?_
  · refine W.block ?_
    refine W.loop (fun m a w => ∃ (n53 : Nat), ∃ (q57 : Int), ∃ (q58 : Int), n53 = m ∧ Fishref2powerOf.loop1 x0 x1 x2 n53 q57 q58 = some q52 ∧ Rep a 31 [(0, .int .i64 x0), (1, .int .i64 x1), (2, .int .i64 x2), (7, .int .i64 q57), (8, .int .i64 q58)] ∧ St w s (R)) (m := fu) ⟨fu, 1, 62, rfl, hq51, hE.pick _ ⟨rfl, rfl, rfl, rfl, rfl, trivial⟩, hS⟩ ?_
    clear hE hS a w hq51; rintro m54 a w ⟨n53, q57, q58, rfl, hq51, hE, hS⟩
    refine W.gen fun K59 hK59 => ?_
    rcases n53 with _ | n53
    · rw [Fishref2powerOf.loop1] at hq51; exact absurd hq51 (by simp)
    rw [Fishref2powerOf.loop1] at hq51
    refine W.seq ?_
    refine W.seq ?_
    refine W.region ?_
    refine WL.vS hS hE (runs_plain rfl) (Gives.p hE rfl) rfl ?_; clear hE a; intro a hE
    refine WL.vS hS hE (runs_plain rfl) (Gives.p hE rfl) rfl ?_; clear hE a; intro a hE
    refine WL.nil ?_
    refine W.cond hE rfl (fun hc60 => ?_) (fun hc60 => ?_)
    · replace hq51 := iteT hc60 hq51
      refine W.skip ?_
      refine W.seq ?_
      refine W.block ?_
      refine W.seq ?_
      refine W.region ?_
      refine WL.vS hS hE (runs_plain rfl) (Gives.p hE rfl) rfl ?_; clear hE a; intro a hE
      refine WL.vS hS hE (runs_plain rfl) (Gives.p hE rfl) rfl ?_; clear hE a; intro a hE
      refine WL.vS hS hE (runs_plain rfl) (Gives.p hE rfl) rfl ?_; clear hE a; intro a hE
      refine WL.vS hS hE (runs_plain rfl) (Gives.p hE rfl) rfl ?_; clear hE a; intro a hE
      obtain ⟨x61, hx62, hq51⟩ := bindS hq51
      refine WL.vS hS hE (runs_plain rfl) (Gives.rm hE rfl rfl hx62) rfl ?_; clear hE a; intro a hE
      refine WL.vS hS hE (runs_plain rfl) (Gives.p hE rfl) rfl ?_; clear hE a; intro a hE
      refine WL.nil ?_
      refine W.seq ?_
      refine W.region ?_
      refine WL.vS hS hE (runs_plain rfl) (Gives.p hE rfl) rfl ?_; clear hE a; intro a hE
      refine WL.vS hS hE (runs_plain rfl) (Gives.p hE rfl) rfl ?_; clear hE a; intro a hE
      obtain ⟨_, hx63, hq51⟩ := bindS hq51
      refine WL.vS hS hE (runs_plain rfl) (Gives.shr hE rfl rfl (nn_some hx63)) rfl ?_; clear hE a; intro a hE
      refine WL.vS hS hE (runs_plain rfl) (Gives.p hE rfl) rfl ?_; clear hE a; intro a hE
      refine WL.vS hS hE (runs_plain rfl) (Gives.p hE rfl) rfl ?_; clear hE a; intro a hE
      refine WL.nil ?_
      obtain ⟨q65, hq64, hq51⟩ := bindS hq51
      refine W.cut (fun a w => ∃ (q68 : Int), q68 = q65 ∧ Rep a 31 [(0, .int .i64 x0), (1, .int .i64 x1), (2, .int .i64 x2), (7, .int .i64 q68), (8, .int .i64 q58)] ∧ St w s (R)) ?_ ?_
      · refine W.gen fun K69 hK69 => ?_
        refine W.cond hE rfl (fun hc70 => ?_) (fun hc70 => ?_)
        · replace hq64 := iteT hc70 hq64
          refine W.region ?_
          refine WL.vS hS hE (runs_plain rfl) (Gives.p hE rfl) rfl ?_; clear hE a; intro a hE
          refine WL.vS hS hE (runs_plain rfl) (Gives.p hE rfl) rfl ?_; clear hE a; intro a hE
          refine WL.vS hS hE (runs_plain rfl) (Gives.p hE rfl) rfl ?_; clear hE a; intro a hE
          obtain ⟨x71, hx72, hq64⟩ := bindS hq64
          refine WL.vS hS hE (runs_plain rfl) (Gives.rm hE rfl rfl hx72) rfl ?_; clear hE a; intro a hE
          refine WL.vS hS hE (runs_plain rfl) (Gives.p hE rfl) rfl ?_; clear hE a; intro a hE
          refine WL.vS hS hE (runs_plain rfl) (Gives.p hE rfl) rfl ?_; clear hE a; intro a hE
          obtain ⟨x73, hx74, hq64⟩ := bindS hq64
          refine WL.vS hS hE (runs_plain rfl) (Gives.rm hE rfl rfl hx74) rfl ?_; clear hE a; intro a hE
          refine WL.vS hS hE (runs_plain rfl) (Gives.p hE rfl) rfl ?_; clear hE a; intro a hE
          refine WL.nil ?_
          subst hK69
          exact ⟨x73, Option.some.inj hq64, hE.pick _ ⟨rfl, rfl, rfl, rfl, rfl, trivial⟩, hS⟩
        · replace hq64 := iteF hc70 hq64
          refine W.skip ?_
          subst hK69
          exact ⟨x61, Option.some.inj hq64, hE.pick _ ⟨rfl, rfl, rfl, rfl, rfl, trivial⟩, hS⟩
      · clear hE hS a w; rintro a w ⟨q68, rfl, hE, hS⟩
        refine W.region ?_
        refine WL.vS hS hE (runs_plain rfl) (Gives.p hE rfl) rfl ?_; clear hE a; intro a hE
        refine WL.vS hS hE (runs_plain rfl) (Gives.p hE rfl) rfl ?_; clear hE a; intro a hE
        refine WL.vS hS hE (runs_plain rfl) (Gives.p hE rfl) rfl ?_; clear hE a; intro a hE
        refine WL.nil ?_
        subst hK59
        exact ⟨n53, Nat.lt_succ_self _, n53, q68, (w64 (q58 - 1)), rfl, hq51, hE.pick _ ⟨rfl, rfl, rfl, rfl, rfl, trivial⟩, hS⟩
    · replace hq51 := iteF hc60 hq51
      subst hK59
      refine W.exit rfl ?_
      exact ⟨q57, q58, Option.some.inj hq51, hE.pick _ ⟨rfl, trivial⟩, hS⟩
  · clear hE hS a w; rintro a w ⟨q57, q58, rfl, hE, hS⟩
    dsimp only at hr
    refine W.seq ?_
    refine W.region ?_
    refine WL.vS hS hE (runs_plain rfl) (Gives.p hE rfl) rfl ?_; clear hE a; intro a hE
    refine WL.vS hS hE (runs_plain rfl) (Gives.p hE rfl) rfl ?_; clear hE a; intro a hE
    refine WL.nil ?_
    refine W.ret ?_
    refine finG (fn := Tryd.f84) (rs := [.tmp 6]) (vs := [_]) hE rfl ⟨rfl, trivial⟩ ?_
    obtain rfl := Option.some.inj hr
    exact ⟨rfl, hS⟩
set_option maxHeartbeats 8000000 in
theorem Fishref2DigestOf_ok  {w : World} {s : Sg} {R : List HP} {x0 : ByteArray} (hS : St w s (R))  {r : Int} (hr : Fishref2DigestOf x0 = some r) :
    Calls Tryd.prog 85 [.string x0].toArray w (fun e w => e = .returned (.int .i64 r) ∧ St w s (R)) := by
  refine enter Tryd.func85 rfl rfl rfl fun a hE => ?_
  rw [Fishref2DigestOf] at hr
  refine W.seq ?_
  refine W.region ?_
  refine WL.vS hS hE (runs_plain rfl) (Gives.p hE rfl) rfl ?_; clear hE a; intro a hE
  refine WL.nil ?_
  refine W.seq ?_
  refine W.region ?_
  refine WL.vS hS hE (runs_plain rfl) (Gives.p hE rfl) rfl ?_; clear hE a; intro a hE
  refine WL.nil ?_
  refine W.seq ?_
  refine W.seq ?_
  refine W.region ?_
  refine WL.vS hS hE (runs_plain rfl) (Gives.p hE rfl) rfl ?_; clear hE a; intro a hE
  refine WL.vS hS hE (runs_plain rfl) (Gives.lenS hE rfl st9) rfl ?_; clear hE a; intro a hE
  refine WL.vS hS hE (runs_plain rfl) (Gives.p hE rfl) rfl ?_; clear hE a; intro a hE
  refine WL.nil ?_
  obtain ⟨_, hx62, hr⟩ := bindS hr
  have hb63 := szok_some hx62
  obtain ⟨q52, hq51, hr⟩ := bindS hr
  refine W.cut (fun a w => ∃ (q64 : Int), q64 = q52 ∧ Rep a 21 [(3, .int .i64 q64)] ∧ St w s (R)) ?_ ?_
  · refine W.block ?_
    refine W.loop (fun m a w => ∃ (rest55 : Nat) (k53 : Nat), ∃ (q64 : Int), rest55 = m ∧ k53 + rest55 = x0.size ∧ Fishref2DigestOf.loop1 x0 rest55 k53 q64 = some q52 ∧ Rep a 21 [(0, .string x0), (3, .int .i64 q64), (6, .int .i64 ((x0.size : Nat) : Int)), (7, .int .i64 ((k53 : Nat) : Int))] ∧ St w s (R)) (m := x0.size) ⟨x0.size, 0, 1, rfl, by omega, hq51, hE.pick _ ⟨rfl, rfl, rfl, rfl, trivial⟩, hS⟩ ?_
    clear hE hS a w hq51; rintro m59 a w ⟨rest55, k53, q64, rfl, hd56, hq51, hE, hS⟩
    refine W.gen fun K65 hK65 => ?_
    rcases rest55 with _ | rest55
    · skip
      refine W.seq ?_
      refine W.region ?_
      refine WL.vS hS hE (runs_plain rfl) (Gives.p hE rfl) rfl ?_; clear hE a; intro a hE
      refine WL.nil ?_
      refine W.seq ?_
      refine W.condF hE rfl (decide_eq_false (by omega)) ?_
      subst hK65
      refine W.exit rfl ?_
      exact ⟨q64, Option.some.inj hq51, hE.pick _ ⟨rfl, trivial⟩, hS⟩
    · have hlt57 : k53 < x0.size := by omega
      rw [Fishref2DigestOf.loop1] at hq51
      refine W.seq ?_
      refine W.region ?_
      refine WL.vS hS hE (runs_plain rfl) (Gives.p hE rfl) rfl ?_; clear hE a; intro a hE
      refine WL.nil ?_
      refine W.seq ?_
      refine W.condT hE rfl (decide_eq_true (by omega)) ?_
      refine W.skip ?_
      refine W.seq ?_
      refine W.block ?_
      refine W.seq ?_
      refine W.region ?_
      refine WL.vS hS hE (runs_plain rfl) (Gives.p hE rfl) rfl ?_; clear hE a; intro a hE
      refine WL.vS hS hE (runs_plain rfl) (Gives.p hE rfl) rfl ?_; clear hE a; intro a hE
      refine WL.nil ?_
      refine W.region ?_
      refine WL.vS hS hE (runs_plain rfl) (Gives.p hE rfl) rfl ?_; clear hE a; intro a hE
      refine WL.vS hS hE (runs_plain rfl) (Gives.p hE rfl) rfl ?_; clear hE a; intro a hE
      refine WL.vS hS hE (runs_plain rfl) (Gives.p hE rfl) rfl ?_; clear hE a; intro a hE
      refine WL.vS hS hE (runs_plain rfl) (Gives.p hE rfl) rfl ?_; clear hE a; intro a hE
      obtain ⟨x66, hx67, hq51⟩ := bindS hq51
      refine WL.vS hS hE (runs_plain rfl) (Gives.idxS hE st9 rfl rfl hx67) rfl ?_; clear hE a; intro a hE
      refine WL.vS hS hE (runs_plain rfl) (Gives.conv hE rfl hu5 ui3) rfl ?_; clear hE a; intro a hE
      refine WL.vS hS hE (runs_plain rfl) (Gives.p hE rfl) rfl ?_; clear hE a; intro a hE
      refine WL.vS hS hE (runs_plain rfl) (Gives.p hE rfl) rfl ?_; clear hE a; intro a hE
      refine WL.vS hS hE (runs_plain rfl) (Gives.p hE rfl) rfl ?_; clear hE a; intro a hE
      refine WL.vS hS hE (runs_plain rfl) (Gives.p hE rfl) rfl ?_; clear hE a; intro a hE
      refine WL.nil ?_
      refine W.region ?_
      refine WL.vS hS hE (runs_plain rfl) (Gives.inc hE rfl (by omega)) rfl ?_; clear hE a; intro a hE
      refine WL.vS hS hE (runs_plain rfl) (Gives.p hE rfl) rfl ?_; clear hE a; intro a hE
      refine WL.nil ?_
      subst hK65
      exact ⟨rest55, Nat.lt_succ_self _, rest55, k53 + 1, (Int.tmod (w64 ((w64 ((w64 (q64 * 257)) + (w64 x66))) + 1)) 999983), rfl, (by omega), hq51, hE.pick _ ⟨rfl, rfl, rfl, rfl, trivial⟩, hS⟩
  · clear hE hS a w; rintro a w ⟨q64, rfl, hE, hS⟩
    refine W.seq ?_
    refine W.region ?_
    refine WL.vS hS hE (runs_plain rfl) (Gives.p hE rfl) rfl ?_; clear hE a; intro a hE
    refine WL.vS hS hE (runs_plain rfl) (Gives.p hE rfl) rfl ?_; clear hE a; intro a hE
    refine WL.nil ?_
    refine W.ret ?_
    refine finG (fn := Tryd.f85) (rs := [.tmp 2]) (vs := [_]) hE rfl ⟨rfl, trivial⟩ ?_
    obtain rfl := Option.some.inj hr
    exact ⟨rfl, hS⟩
set_option maxHeartbeats 8000000 in
theorem Fishref2VerifyOf_ok {fu : Nat}  {w : World} {s : Sg} {R : List HP} {x0 : FareKey} {x1 : ByteArray} {x2 : Int} (hS : St w s (R))  {r : Bool} (hr : Fishref2VerifyOf fu x0 x1 x2 = some r) :
    Calls Tryd.prog 58 [.agg (FareKey.cells x0).toArray, .string x1, .int .i64 x2].toArray w (fun e w => e = .returned (.bool r) ∧ St w s (R)) := by
  refine enter Tryd.func58 rfl rfl rfl fun a hE => ?_
  rw [Fishref2VerifyOf] at hr
  refine W.seq ?_
  refine W.region ?_
  refine WL.box hE hS (runs_plain rfl) rfl rfl rfl ?_; clear hE hS a w; intro b51 a w hE hS
  refine WL.vS hS hE (runs_plain rfl) (Gives.p hE rfl) rfl ?_; clear hE a; intro a hE
  refine WL.nil ?_
  refine W.seq ?_
  obtain ⟨q53, hq52, hr⟩ := bindS hr
  refine W.cut (fun a w => ∃ (q56 : Bool), q56 = q53 ∧ Rep a 26 [(6, .bool q56)] ∧ St w s (pt b51 (.cells (FareKey.cells x0).toArray 44 (0, 0)) :: R)) ?_ ?_
  · refine W.gen fun K57 hK57 => ?_
    refine W.region ?_
    refine WL.vS hS hE (runs_plain rfl) (Gives.p hE rfl) rfl ?_; clear hE a; intro a hE
    refine WL.vS hS hE (runs_plain rfl) (Gives.p hE rfl) rfl ?_; clear hE a; intro a hE
    refine WL.vS hS hE (runs_plain rfl) (Gives.p hE rfl) rfl ?_; clear hE a; intro a hE
    rcases Bool.eq_false_or_eq_true (decide (x2 ≥ 0)) with hg58 | hg58
    · replace hq52 := iteT hg58 hq52
      refine WL.vS hS hE (runs_if hE rfl rfl rfl hg58) (Gives.p hE rfl) rfl ?_; clear hE a; intro a hE
      refine WL.vS hS hE (runs_if hE rfl rfl rfl hg58) (Gives.fld hE rfl fl44_0) rfl ?_; clear hE a; intro a hE
      refine WL.vS hS hE (runs_if hE rfl rfl rfl hg58) (Gives.loadB hE 0 rfl rfl rfl ty3) rfl ?_; clear hE a; intro a hE
      refine WL.vS hS hE (runs_if hE rfl rfl rfl hg58) (Gives.p hE rfl) rfl ?_; clear hE a; intro a hE
      refine WL.vS hS hE (runs_plain rfl) (Gives.pickT hE rfl hg58 rfl) rfl ?_; clear hE a; intro a hE
      refine WL.vS hS hE (runs_plain rfl) (Gives.p hE rfl) rfl ?_; clear hE a; intro a hE
      rcases Bool.eq_false_or_eq_true (decide (x2 < x0.N)) with hg59 | hg59
      · replace hq52 := iteT hg59 hq52
        refine WL.vS hS hE (runs_if hE rfl rfl rfl hg59) (Gives.p hE rfl) rfl ?_; clear hE a; intro a hE
        refine WL.vS hS hE (runs_if hE rfl rfl rfl hg59) (Gives.fld hE rfl fl44_1) rfl ?_; clear hE a; intro a hE
        refine WL.vS hS hE (runs_if hE rfl rfl rfl hg59) (Gives.loadB hE 0 rfl rfl rfl ty3) rfl ?_; clear hE a; intro a hE
        refine WL.vS hS hE (runs_if hE rfl rfl rfl hg59) (Gives.fld hE rfl fl44_0) rfl ?_; clear hE a; intro a hE
        refine WL.vS hS hE (runs_if hE rfl rfl rfl hg59) (Gives.loadB hE 0 rfl rfl rfl ty3) rfl ?_; clear hE a; intro a hE
        obtain ⟨q60, hq61, hq52⟩ := bindS hq52
        have hc_ := Fishref2powerOf_ok hS  hq61
        refine WL.fnq hE (hc_) (runs_if hE rfl rfl rfl hg59) bd84 rfl rfl rfl ?_
        clear hE hS hc_; rintro e w ⟨rfl, hS⟩; refine ⟨_, rfl, ?_⟩; clear a; intro a hE
        refine WL.vS hS hE (runs_if hE rfl rfl rfl hg59) (Gives.p hE rfl) rfl ?_; clear hE a; intro a hE
        obtain ⟨q62, hq63, hq52⟩ := bindS hq52
        have hc_ := Fishref2DigestOf_ok hS  hq63
        refine WL.fnq hE (hc_) (runs_if hE rfl rfl rfl hg59) bd85 rfl rfl rfl ?_
        clear hE hS hc_; rintro e w ⟨rfl, hS⟩; refine ⟨_, rfl, ?_⟩; clear a; intro a hE
        refine WL.vS hS hE (runs_if hE rfl rfl rfl hg59) (Gives.p hE rfl) rfl ?_; clear hE a; intro a hE
        refine WL.vS hS hE (runs_plain rfl) (Gives.pickT hE rfl hg59 rfl) rfl ?_; clear hE a; intro a hE
        refine WL.vS hS hE (runs_plain rfl) (Gives.p hE rfl) rfl ?_; clear hE a; intro a hE
        refine WL.nil ?_
        subst hK57
        exact ⟨(q60 == q62), Option.some.inj hq52, hE.pick _ ⟨rfl, trivial⟩, hS⟩
      · replace hq52 := iteF hg59 hq52
        refine WL.no hE (runs_not hE rfl rfl rfl (by rw [hg59]; decide)) rfl ?_; clear hE a; intro a hE
        refine WL.no hE (runs_not hE rfl rfl rfl (by rw [hg59]; decide)) rfl ?_; clear hE a; intro a hE
        refine WL.no hE (runs_not hE rfl rfl rfl (by rw [hg59]; decide)) rfl ?_; clear hE a; intro a hE
        refine WL.no hE (runs_not hE rfl rfl rfl (by rw [hg59]; decide)) rfl ?_; clear hE a; intro a hE
        refine WL.no hE (runs_not hE rfl rfl rfl (by rw [hg59]; decide)) rfl ?_; clear hE a; intro a hE
        refine WL.no hE (runs_not hE rfl rfl rfl (by rw [hg59]; decide)) rfl ?_; clear hE a; intro a hE
        refine WL.no hE (runs_not hE rfl rfl rfl (by rw [hg59]; decide)) rfl ?_; clear hE a; intro a hE
        refine WL.no hE (runs_not hE rfl rfl rfl (by rw [hg59]; decide)) rfl ?_; clear hE a; intro a hE
        refine WL.no hE (runs_not hE rfl rfl rfl (by rw [hg59]; decide)) rfl ?_; clear hE a; intro a hE
        refine WL.vS hS hE (runs_plain rfl) (Gives.pickF hE rfl hg59 rfl) rfl ?_; clear hE a; intro a hE
        refine WL.vS hS hE (runs_plain rfl) (Gives.p hE rfl) rfl ?_; clear hE a; intro a hE
        refine WL.nil ?_
        subst hK57
        exact ⟨false, Option.some.inj hq52, hE.pick _ ⟨rfl, trivial⟩, hS⟩
    · replace hq52 := iteF hg58 hq52
      refine WL.no hE (runs_not hE rfl rfl rfl (by rw [hg58]; decide)) rfl ?_; clear hE a; intro a hE
      refine WL.no hE (runs_not hE rfl rfl rfl (by rw [hg58]; decide)) rfl ?_; clear hE a; intro a hE
      refine WL.no hE (runs_not hE rfl rfl rfl (by rw [hg58]; decide)) rfl ?_; clear hE a; intro a hE
      refine WL.no hE (runs_not hE rfl rfl rfl (by rw [hg58]; decide)) rfl ?_; clear hE a; intro a hE
      refine WL.vS hS hE (runs_plain rfl) (Gives.pickF hE rfl hg58 rfl) rfl ?_; clear hE a; intro a hE
      refine WL.vS hS hE (runs_plain rfl) (Gives.p hE rfl) rfl ?_; clear hE a; intro a hE
      refine WL.no hE (runs_not hE rfl rfl rfl (by decide)) rfl ?_; clear hE a; intro a hE
      refine WL.no hE (runs_not hE rfl rfl rfl (by decide)) rfl ?_; clear hE a; intro a hE
      refine WL.no hE (runs_not hE rfl rfl rfl (by decide)) rfl ?_; clear hE a; intro a hE
      refine WL.no hE (runs_not hE rfl rfl rfl (by decide)) rfl ?_; clear hE a; intro a hE
      refine WL.no hE (runs_not hE rfl rfl rfl (by decide)) rfl ?_; clear hE a; intro a hE
      refine WL.no hE (runs_not hE rfl rfl rfl (by decide)) rfl ?_; clear hE a; intro a hE
      refine WL.no hE (runs_not hE rfl rfl rfl (by decide)) rfl ?_; clear hE a; intro a hE
      refine WL.no hE (runs_not hE rfl rfl rfl (by decide)) rfl ?_; clear hE a; intro a hE
      refine WL.no hE (runs_not hE rfl rfl rfl (by decide)) rfl ?_; clear hE a; intro a hE
      refine WL.vS hS hE (runs_plain rfl) (Gives.pickF hE rfl rfl rfl) rfl ?_; clear hE a; intro a hE
      refine WL.vS hS hE (runs_plain rfl) (Gives.p hE rfl) rfl ?_; clear hE a; intro a hE
      refine WL.nil ?_
      subst hK57
      exact ⟨false, Option.some.inj hq52, hE.pick _ ⟨rfl, trivial⟩, hS⟩
  · clear hE hS a w; rintro a w ⟨q56, rfl, hE, hS⟩
    refine W.ret ?_
    refine finG (fn := Tryd.f58) (rs := [.tmp 6]) (vs := [_]) hE rfl ⟨rfl, trivial⟩ ?_
    obtain rfl := Option.some.inj hr
    replace hS := hS.tail
    exact ⟨rfl, hS⟩
set_option maxHeartbeats 8000000 in
theorem Fishref2TicketFault_ok  {w : World} {s : Sg} {R : List HP} {x0 : FareTicket} {a0_0 : Option Addr} {c0_0 : Nat} (hS : St w s (R)) (h0_0 : Sl 1 (RI .i64) s a0_0 c0_0 x0.Zones) {r : Int} (hr : Fishref2TicketFault x0 = some r) :
    Calls Tryd.prog 59 [.agg (List.toArray [.int .i64 x0.No, .int .i64 x0.Day, .int .i64 x0.Start, .int .i64 x0.End, .int .i64 x0.Price, .slice a0_0 x0.Zones.length c0_0])].toArray w (fun e w => e = .returned (.int .i64 r) ∧ St w s (R)) := by
  refine enter Tryd.func59 rfl rfl rfl fun a hE => ?_
  rw [Fishref2TicketFault] at hr
  refine W.seq ?_
  refine W.region ?_
  refine WL.box hE hS (runs_plain rfl) rfl rfl rfl ?_; clear hE hS a w; intro b51 a w hE hS
  refine WL.vS hS hE (runs_plain rfl) (Gives.p hE rfl) rfl ?_; clear hE a; intro a hE
  refine WL.nil ?_
  refine W.seq ?_
  refine W.seq ?_
  obtain ⟨q53, hq52, hr⟩ := bndS hr
  refine W.cut (fun a w => ∃ (q56 : Bool), q56 = q53 ∧ Rep a 67 [(1, .pointer (some ⟨b51, 0, none⟩)), (32, .bool q56)] ∧ St w s (pt b51 (.cells #[.int .i64 x0.No, .int .i64 x0.Day, .int .i64 x0.Start, .int .i64 x0.End, .int .i64 x0.Price, .slice a0_0 x0.Zones.length c0_0] 46 (0, 0)) :: R)) ?_ ?_
  · refine W.gen fun K57 hK57 => ?_
    refine W.region ?_
    refine WL.vS hS hE (runs_plain rfl) (Gives.fld hE rfl fl46_0) rfl ?_; clear hE a; intro a hE
    refine WL.vS hS hE (runs_plain rfl) (Gives.loadB hE 0 rfl rfl rfl ty3) rfl ?_; clear hE a; intro a hE
    refine WL.fnq hE (Fishref2within_ok hS  rfl (r := Fishref2within x0.No 0 999999)) (runs_plain rfl) bd30 rfl rfl rfl ?_
    clear hE hS; rintro e w ⟨rfl, hS⟩; refine ⟨_, rfl, ?_⟩; clear a; intro a hE
    refine WL.vS hS hE (runs_plain rfl) (Gives.p hE rfl) rfl ?_; clear hE a; intro a hE
    refine WL.vS hS hE (runs_plain rfl) (Gives.p hE rfl) rfl ?_; clear hE a; intro a hE
    rcases Bool.eq_false_or_eq_true (!(Fishref2within x0.No 0 999999)) with hg58 | hg58
    · replace hq52 := iteT hg58 hq52
      refine WL.no hE (runs_not hE rfl rfl rfl (by rw [hg58]; decide)) rfl ?_; clear hE a; intro a hE
      refine WL.no hE (runs_not hE rfl rfl rfl (by rw [hg58]; decide)) rfl ?_; clear hE a; intro a hE
      refine WL.no hE (runs_not hE rfl rfl rfl (by rw [hg58]; decide)) rfl ?_; clear hE a; intro a hE
      refine WL.no hE (runs_not hE rfl rfl rfl (by rw [hg58]; decide)) rfl ?_; clear hE a; intro a hE
      refine WL.vS hS hE (runs_plain rfl) (Gives.pickT hE rfl hg58 rfl) rfl ?_; clear hE a; intro a hE
      refine WL.vS hS hE (runs_plain rfl) (Gives.p hE rfl) rfl ?_; clear hE a; intro a hE
      refine WL.no hE (runs_not hE rfl rfl rfl (by decide)) rfl ?_; clear hE a; intro a hE
      refine WL.no hE (runs_not hE rfl rfl rfl (by decide)) rfl ?_; clear hE a; intro a hE
      refine WL.no hE (runs_not hE rfl rfl rfl (by decide)) rfl ?_; clear hE a; intro a hE
      refine WL.no hE (runs_not hE rfl rfl rfl (by decide)) rfl ?_; clear hE a; intro a hE
      refine WL.vS hS hE (runs_plain rfl) (Gives.pickT hE rfl rfl rfl) rfl ?_; clear hE a; intro a hE
      refine WL.vS hS hE (runs_plain rfl) (Gives.p hE rfl) rfl ?_; clear hE a; intro a hE
      refine WL.no hE (runs_not hE rfl rfl rfl (by decide)) rfl ?_; clear hE a; intro a hE
      refine WL.no hE (runs_not hE rfl rfl rfl (by decide)) rfl ?_; clear hE a; intro a hE
      refine WL.no hE (runs_not hE rfl rfl rfl (by decide)) rfl ?_; clear hE a; intro a hE
      refine WL.no hE (runs_not hE rfl rfl rfl (by decide)) rfl ?_; clear hE a; intro a hE
      refine WL.vS hS hE (runs_plain rfl) (Gives.pickT hE rfl rfl rfl) rfl ?_; clear hE a; intro a hE
      refine WL.vS hS hE (runs_plain rfl) (Gives.p hE rfl) rfl ?_; clear hE a; intro a hE
      refine WL.no hE (runs_not hE rfl rfl rfl (by decide)) rfl ?_; clear hE a; intro a hE
      refine WL.no hE (runs_not hE rfl rfl rfl (by decide)) rfl ?_; clear hE a; intro a hE
      refine WL.no hE (runs_not hE rfl rfl rfl (by decide)) rfl ?_; clear hE a; intro a hE
      refine WL.no hE (runs_not hE rfl rfl rfl (by decide)) rfl ?_; clear hE a; intro a hE
      refine WL.vS hS hE (runs_plain rfl) (Gives.pickT hE rfl rfl rfl) rfl ?_; clear hE a; intro a hE
      refine WL.nil ?_
      subst hK57
      exact ⟨true, hq52, hE.pick _ ⟨rfl, rfl, trivial⟩, hS⟩
    · replace hq52 := iteF hg58 hq52
      refine WL.vS hS hE (runs_if hE rfl rfl rfl hg58) (Gives.fld hE rfl fl46_1) rfl ?_; clear hE a; intro a hE
      refine WL.vS hS hE (runs_if hE rfl rfl rfl hg58) (Gives.loadB hE 0 rfl rfl rfl ty3) rfl ?_; clear hE a; intro a hE
      refine WL.fnq hE (Fishref2within_ok hS  rfl (r := Fishref2within x0.Day 0 6)) (runs_if hE rfl rfl rfl hg58) bd30 rfl rfl rfl ?_
      clear hE hS; rintro e w ⟨rfl, hS⟩; refine ⟨_, rfl, ?_⟩; clear a; intro a hE
      refine WL.vS hS hE (runs_if hE rfl rfl rfl hg58) (Gives.p hE rfl) rfl ?_; clear hE a; intro a hE
      refine WL.vS hS hE (runs_plain rfl) (Gives.pickF hE rfl hg58 rfl) rfl ?_; clear hE a; intro a hE
      refine WL.vS hS hE (runs_plain rfl) (Gives.p hE rfl) rfl ?_; clear hE a; intro a hE
      rcases Bool.eq_false_or_eq_true (!(Fishref2within x0.Day 0 6)) with hg59 | hg59
      · replace hq52 := iteT hg59 hq52
        refine WL.no hE (runs_not hE rfl rfl rfl (by rw [hg59]; decide)) rfl ?_; clear hE a; intro a hE
        refine WL.no hE (runs_not hE rfl rfl rfl (by rw [hg59]; decide)) rfl ?_; clear hE a; intro a hE
        refine WL.no hE (runs_not hE rfl rfl rfl (by rw [hg59]; decide)) rfl ?_; clear hE a; intro a hE
        refine WL.no hE (runs_not hE rfl rfl rfl (by rw [hg59]; decide)) rfl ?_; clear hE a; intro a hE
        refine WL.vS hS hE (runs_plain rfl) (Gives.pickT hE rfl hg59 rfl) rfl ?_; clear hE a; intro a hE
        refine WL.vS hS hE (runs_plain rfl) (Gives.p hE rfl) rfl ?_; clear hE a; intro a hE
        refine WL.no hE (runs_not hE rfl rfl rfl (by decide)) rfl ?_; clear hE a; intro a hE
        refine WL.no hE (runs_not hE rfl rfl rfl (by decide)) rfl ?_; clear hE a; intro a hE
        refine WL.no hE (runs_not hE rfl rfl rfl (by decide)) rfl ?_; clear hE a; intro a hE
        refine WL.no hE (runs_not hE rfl rfl rfl (by decide)) rfl ?_; clear hE a; intro a hE
        refine WL.vS hS hE (runs_plain rfl) (Gives.pickT hE rfl rfl rfl) rfl ?_; clear hE a; intro a hE
        refine WL.vS hS hE (runs_plain rfl) (Gives.p hE rfl) rfl ?_; clear hE a; intro a hE
        refine WL.no hE (runs_not hE rfl rfl rfl (by decide)) rfl ?_; clear hE a; intro a hE
        refine WL.no hE (runs_not hE rfl rfl rfl (by decide)) rfl ?_; clear hE a; intro a hE
        refine WL.no hE (runs_not hE rfl rfl rfl (by decide)) rfl ?_; clear hE a; intro a hE
        refine WL.no hE (runs_not hE rfl rfl rfl (by decide)) rfl ?_; clear hE a; intro a hE
        refine WL.vS hS hE (runs_plain rfl) (Gives.pickT hE rfl rfl rfl) rfl ?_; clear hE a; intro a hE
        refine WL.nil ?_
        subst hK57
        exact ⟨true, hq52, hE.pick _ ⟨rfl, rfl, trivial⟩, hS⟩
      · replace hq52 := iteF hg59 hq52
        refine WL.vS hS hE (runs_if hE rfl rfl rfl hg59) (Gives.fld hE rfl fl46_2) rfl ?_; clear hE a; intro a hE
        refine WL.vS hS hE (runs_if hE rfl rfl rfl hg59) (Gives.loadB hE 0 rfl rfl rfl ty3) rfl ?_; clear hE a; intro a hE
        refine WL.fnq hE (Fishref2within_ok hS  rfl (r := Fishref2within x0.Start 0 28800)) (runs_if hE rfl rfl rfl hg59) bd30 rfl rfl rfl ?_
        clear hE hS; rintro e w ⟨rfl, hS⟩; refine ⟨_, rfl, ?_⟩; clear a; intro a hE
        refine WL.vS hS hE (runs_if hE rfl rfl rfl hg59) (Gives.p hE rfl) rfl ?_; clear hE a; intro a hE
        refine WL.vS hS hE (runs_plain rfl) (Gives.pickF hE rfl hg59 rfl) rfl ?_; clear hE a; intro a hE
        refine WL.vS hS hE (runs_plain rfl) (Gives.p hE rfl) rfl ?_; clear hE a; intro a hE
        rcases Bool.eq_false_or_eq_true (!(Fishref2within x0.Start 0 28800)) with hg60 | hg60
        · replace hq52 := iteT hg60 hq52
          refine WL.no hE (runs_not hE rfl rfl rfl (by rw [hg60]; decide)) rfl ?_; clear hE a; intro a hE
          refine WL.no hE (runs_not hE rfl rfl rfl (by rw [hg60]; decide)) rfl ?_; clear hE a; intro a hE
          refine WL.no hE (runs_not hE rfl rfl rfl (by rw [hg60]; decide)) rfl ?_; clear hE a; intro a hE
          refine WL.no hE (runs_not hE rfl rfl rfl (by rw [hg60]; decide)) rfl ?_; clear hE a; intro a hE
          refine WL.vS hS hE (runs_plain rfl) (Gives.pickT hE rfl hg60 rfl) rfl ?_; clear hE a; intro a hE
          refine WL.vS hS hE (runs_plain rfl) (Gives.p hE rfl) rfl ?_; clear hE a; intro a hE
          refine WL.no hE (runs_not hE rfl rfl rfl (by decide)) rfl ?_; clear hE a; intro a hE
          refine WL.no hE (runs_not hE rfl rfl rfl (by decide)) rfl ?_; clear hE a; intro a hE
          refine WL.no hE (runs_not hE rfl rfl rfl (by decide)) rfl ?_; clear hE a; intro a hE
          refine WL.no hE (runs_not hE rfl rfl rfl (by decide)) rfl ?_; clear hE a; intro a hE
          refine WL.vS hS hE (runs_plain rfl) (Gives.pickT hE rfl rfl rfl) rfl ?_; clear hE a; intro a hE
          refine WL.nil ?_
          subst hK57
          exact ⟨true, hq52, hE.pick _ ⟨rfl, rfl, trivial⟩, hS⟩
        · replace hq52 := iteF hg60 hq52
          refine WL.vS hS hE (runs_if hE rfl rfl rfl hg60) (Gives.fld hE rfl fl46_3) rfl ?_; clear hE a; intro a hE
          refine WL.vS hS hE (runs_if hE rfl rfl rfl hg60) (Gives.loadB hE 0 rfl rfl rfl ty3) rfl ?_; clear hE a; intro a hE
          refine WL.fnq hE (Fishref2within_ok hS  rfl (r := Fishref2within x0.End 0 28800)) (runs_if hE rfl rfl rfl hg60) bd30 rfl rfl rfl ?_
          clear hE hS; rintro e w ⟨rfl, hS⟩; refine ⟨_, rfl, ?_⟩; clear a; intro a hE
          refine WL.vS hS hE (runs_if hE rfl rfl rfl hg60) (Gives.p hE rfl) rfl ?_; clear hE a; intro a hE
          refine WL.vS hS hE (runs_plain rfl) (Gives.pickF hE rfl hg60 rfl) rfl ?_; clear hE a; intro a hE
          refine WL.vS hS hE (runs_plain rfl) (Gives.p hE rfl) rfl ?_; clear hE a; intro a hE
          rcases Bool.eq_false_or_eq_true (!(Fishref2within x0.End 0 28800)) with hg61 | hg61
          · replace hq52 := iteT hg61 hq52
            refine WL.no hE (runs_not hE rfl rfl rfl (by rw [hg61]; decide)) rfl ?_; clear hE a; intro a hE
            refine WL.no hE (runs_not hE rfl rfl rfl (by rw [hg61]; decide)) rfl ?_; clear hE a; intro a hE
            refine WL.no hE (runs_not hE rfl rfl rfl (by rw [hg61]; decide)) rfl ?_; clear hE a; intro a hE
            refine WL.no hE (runs_not hE rfl rfl rfl (by rw [hg61]; decide)) rfl ?_; clear hE a; intro a hE
            refine WL.vS hS hE (runs_plain rfl) (Gives.pickT hE rfl hg61 rfl) rfl ?_; clear hE a; intro a hE
            refine WL.nil ?_
            subst hK57
            exact ⟨true, hq52, hE.pick _ ⟨rfl, rfl, trivial⟩, hS⟩
          · replace hq52 := iteF hg61 hq52
            refine WL.vS hS hE (runs_if hE rfl rfl rfl hg61) (Gives.fld hE rfl fl46_4) rfl ?_; clear hE a; intro a hE
            refine WL.vS hS hE (runs_if hE rfl rfl rfl hg61) (Gives.loadB hE 0 rfl rfl rfl ty3) rfl ?_; clear hE a; intro a hE
            refine WL.fnq hE (Fishref2within_ok hS  rfl (r := Fishref2within x0.Price 0 100000)) (runs_if hE rfl rfl rfl hg61) bd30 rfl rfl rfl ?_
            clear hE hS; rintro e w ⟨rfl, hS⟩; refine ⟨_, rfl, ?_⟩; clear a; intro a hE
            refine WL.vS hS hE (runs_if hE rfl rfl rfl hg61) (Gives.p hE rfl) rfl ?_; clear hE a; intro a hE
            refine WL.vS hS hE (runs_plain rfl) (Gives.pickF hE rfl hg61 rfl) rfl ?_; clear hE a; intro a hE
            refine WL.nil ?_
            subst hK57
            exact ⟨!(Fishref2within x0.Price 0 100000), hq52, hE.pick _ ⟨rfl, rfl, trivial⟩, hS⟩
  · clear hE hS a w; rintro a w ⟨q56, rfl, hE, hS⟩
    refine W.cond hE rfl (fun hc62 => ?_) (fun hc62 => ?_)
    · replace hr := iteT hc62 hr
      refine W.seq ?_
      refine W.region ?_
      refine WL.vS hS hE (runs_plain rfl) (Gives.p hE rfl) rfl ?_; clear hE a; intro a hE
      refine WL.nil ?_
      refine W.ret ?_
      refine finG (fn := Tryd.f59) (rs := [.tmp 2]) (vs := [_]) hE rfl ⟨rfl, trivial⟩ ?_
      obtain rfl := Option.some.inj hr
      replace hS := hS.tail
      exact ⟨rfl, hS⟩
    · replace hr := iteF hc62 hr
      refine W.skip ?_
      refine W.seq ?_
      refine W.seq ?_
      refine W.region ?_
      refine WL.vS hS hE (runs_plain rfl) (Gives.fld hE rfl fl46_3) rfl ?_; clear hE a; intro a hE
      refine WL.vS hS hE (runs_plain rfl) (Gives.loadB hE 0 rfl rfl rfl ty3) rfl ?_; clear hE a; intro a hE
      refine WL.vS hS hE (runs_plain rfl) (Gives.fld hE rfl fl46_2) rfl ?_; clear hE a; intro a hE
      refine WL.vS hS hE (runs_plain rfl) (Gives.loadB hE 0 rfl rfl rfl ty3) rfl ?_; clear hE a; intro a hE
      refine WL.vS hS hE (runs_plain rfl) (Gives.p hE rfl) rfl ?_; clear hE a; intro a hE
      refine WL.nil ?_
      refine W.cond hE rfl (fun hc63 => ?_) (fun hc63 => ?_)
      · replace hr := iteT hc63 hr
        refine W.seq ?_
        refine W.region ?_
        refine WL.vS hS hE (runs_plain rfl) (Gives.p hE rfl) rfl ?_; clear hE a; intro a hE
        refine WL.nil ?_
        refine W.ret ?_
        refine finG (fn := Tryd.f59) (rs := [.tmp 2]) (vs := [_]) hE rfl ⟨rfl, trivial⟩ ?_
        obtain rfl := Option.some.inj hr
        replace hS := hS.tail
        exact ⟨rfl, hS⟩
      · replace hr := iteF hc63 hr
        refine W.skip ?_
        refine W.seq ?_
        refine W.seq ?_
        refine W.region ?_
        refine WL.vS hS hE (runs_plain rfl) (Gives.fld hE rfl fl46_5) rfl ?_; clear hE a; intro a hE
        refine WL.vS hS hE (runs_plain rfl) (Gives.loadB hE 0 rfl rfl rfl ty23) rfl ?_; clear hE a; intro a hE
        refine WL.vS hS hE (runs_plain rfl) (Gives.len hE rfl sl23) rfl ?_; clear hE a; intro a hE
        refine WL.fnq hE (Fishref2within_ok hS  rfl (r := Fishref2within ((x0.Zones).length : Int) 1 10)) (runs_plain rfl) bd30 rfl rfl rfl ?_
        clear hE hS; rintro e w ⟨rfl, hS⟩; refine ⟨_, rfl, ?_⟩; clear a; intro a hE
        refine WL.vS hS hE (runs_plain rfl) (Gives.p hE rfl) rfl ?_; clear hE a; intro a hE
        refine WL.nil ?_
        refine W.cond hE rfl (fun hc64 => ?_) (fun hc64 => ?_)
        · replace hr := iteT hc64 hr
          refine W.seq ?_
          refine W.region ?_
          refine WL.vS hS hE (runs_plain rfl) (Gives.p hE rfl) rfl ?_; clear hE a; intro a hE
          refine WL.nil ?_
          refine W.ret ?_
          refine finG (fn := Tryd.f59) (rs := [.tmp 2]) (vs := [_]) hE rfl ⟨rfl, trivial⟩ ?_
          obtain rfl := Option.some.inj hr
          replace hS := hS.tail
          exact ⟨rfl, hS⟩
        · replace hr := iteF hc64 hr
          refine W.skip ?_
          refine W.seq ?_
          refine W.seq ?_
          refine W.region ?_
          refine WL.vS hS hE (runs_plain rfl) (Gives.fld hE rfl fl46_5) rfl ?_; clear hE a; intro a hE
          refine WL.vS hS hE (runs_plain rfl) (Gives.loadB hE 0 rfl rfl rfl ty23) rfl ?_; clear hE a; intro a hE
          refine WL.vS hS hE (runs_plain rfl) (Gives.len hE rfl sl23) rfl ?_; clear hE a; intro a hE
          refine WL.vS hS hE (runs_plain rfl) (Gives.p hE rfl) rfl ?_; clear hE a; intro a hE
          refine WL.nil ?_
          obtain ⟨q66, hq65, hr⟩ := bindS hr
          refine W.cut (fun a w => (.next ()) = q66 ∧ Rep a 67 [] ∧ St w s (pt b51 (.cells #[.int .i64 x0.No, .int .i64 x0.Day, .int .i64 x0.Start, .int .i64 x0.End, .int .i64 x0.Price, .slice a0_0 x0.Zones.length c0_0] 46 (0, 0)) :: R)) ?_ ?_
          · refine W.block ?_
            refine W.loop (fun m a w => ∃ (rest69 : List Int) (k67 : Nat), rest69.length = m ∧ x0.Zones.drop k67 = rest69 ∧ Fishref2TicketFault.loop1 x0 rest69 k67 = some q66 ∧ Rep a 67 [(1, .pointer (some ⟨b51, 0, none⟩)), (44, .slice a0_0 x0.Zones.length c0_0), (45, .int .i64 ((x0.Zones).length : Int)), (46, .int .i64 ((k67 : Nat) : Int))] ∧ St w s (pt b51 (.cells #[.int .i64 x0.No, .int .i64 x0.Day, .int .i64 x0.Start, .int .i64 x0.End, .int .i64 x0.Price, .slice a0_0 x0.Zones.length c0_0] 46 (0, 0)) :: R)) (m := x0.Zones.length) ⟨x0.Zones, 0, rfl, rfl, hq65, hE.pick _ ⟨rfl, rfl, rfl, rfl, trivial⟩, hS⟩ ?_
            clear hE hS a w hq65; rintro m73 a w ⟨rest69, k67, rfl, hd70, hq65, hE, hS⟩
            refine W.gen fun K76 hK76 => ?_
            rcases rest69 with _ | ⟨x68, rest69⟩
            · have hlt71 := drop_nil hd70
              refine W.seq ?_
              refine W.region ?_
              refine WL.vS hS hE (runs_plain rfl) (Gives.p hE rfl) rfl ?_; clear hE a; intro a hE
              refine WL.nil ?_
              refine W.seq ?_
              refine W.condF hE rfl (decide_eq_false (by omega)) ?_
              subst hK76
              refine W.exit rfl ?_
              exact ⟨Option.some.inj hq65, hE.pick _ trivial, hS⟩
            · obtain ⟨hlt71, hx72, hd70⟩ := drop_cons hd70
              rw [Fishref2TicketFault.loop1] at hq65
              refine W.seq ?_
              refine W.region ?_
              refine WL.vS hS hE (runs_plain rfl) (Gives.p hE rfl) rfl ?_; clear hE a; intro a hE
              refine WL.nil ?_
              refine W.seq ?_
              refine W.condT hE rfl (decide_eq_true (by omega)) ?_
              refine W.skip ?_
              refine W.seq ?_
              refine W.block ?_
              refine W.seq ?_
              refine W.region ?_
              refine WL.vS hS hE (runs_plain rfl) (Gives.p hE rfl) rfl ?_; clear hE a; intro a hE
              obtain ⟨cs77, hl78, hR79, hat80⟩ := h0_0.at hx72
              subst hR79
              refine WL.vS hS hE (runs_plain rfl) (Gives.idx hE k67 rfl rfl sl23 rfl hlt71 (h0_0.aok hlt71)) rfl ?_; clear hE a; intro a hE
              refine WL.vS hS hE (runs_plain rfl) (Gives.load1 hE rfl (fun w h => hat80 w _ h) ty3) rfl ?_; clear hE a; intro a hE
              refine WL.vS hS hE (runs_plain rfl) (Gives.p hE rfl) rfl ?_; clear hE a; intro a hE
              refine WL.vS hS hE (runs_plain rfl) (Gives.p hE rfl) rfl ?_; clear hE a; intro a hE
              refine WL.nil ?_
              refine W.seq ?_
              refine W.seq ?_
              refine W.region ?_
              refine WL.vS hS hE (runs_plain rfl) (Gives.p hE rfl) rfl ?_; clear hE a; intro a hE
              refine WL.fnq hE (Fishref2within_ok hS  rfl (r := Fishref2within x68 0 19)) (runs_plain rfl) bd30 rfl rfl rfl ?_
              clear hE hS; rintro e w ⟨rfl, hS⟩; refine ⟨_, rfl, ?_⟩; clear a; intro a hE
              refine WL.vS hS hE (runs_plain rfl) (Gives.p hE rfl) rfl ?_; clear hE a; intro a hE
              refine WL.nil ?_
              refine W.cond hE rfl (fun hc81 => ?_) (fun hc81 => ?_)
              · replace hq65 := iteT hc81 hq65
                refine W.seq ?_
                refine W.region ?_
                refine WL.vS hS hE (runs_plain rfl) (Gives.p hE rfl) rfl ?_; clear hE a; intro a hE
                refine WL.nil ?_
                refine W.ret ?_
                subst hK76
                rw [← Option.some.inj hq65] at hr
                dsimp only at hr
                refine finG (fn := Tryd.f59) (rs := [.tmp 2]) (vs := [_]) hE rfl ⟨rfl, trivial⟩ ?_
                obtain rfl := Option.some.inj hr
                replace hS := hS.tail
                exact ⟨rfl, hS⟩
              · replace hq65 := iteF hc81 hq65
                refine W.skip ?_
                refine W.seq ?_
                obtain ⟨q83, hq82, hq65⟩ := bindS hq65
                refine W.cut (fun a w => ∃ (q86 : Bool), q86 = q83 ∧ Rep a 67 [(1, .pointer (some ⟨b51, 0, none⟩)), (44, .slice a0_0 x0.Zones.length c0_0), (45, .int .i64 ((x0.Zones).length : Int)), (46, .int .i64 ((k67 : Nat) : Int)), (65, .bool q86)] ∧ St w s (pt b51 (.cells #[.int .i64 x0.No, .int .i64 x0.Day, .int .i64 x0.Start, .int .i64 x0.End, .int .i64 x0.Price, .slice a0_0 x0.Zones.length c0_0] 46 (0, 0)) :: R)) ?_ ?_
                · refine W.gen fun K87 hK87 => ?_
                  refine W.region ?_
                  refine WL.vS hS hE (runs_plain rfl) (Gives.p hE rfl) rfl ?_; clear hE a; intro a hE
                  refine WL.vS hS hE (runs_plain rfl) (Gives.p hE rfl) rfl ?_; clear hE a; intro a hE
                  refine WL.vS hS hE (runs_plain rfl) (Gives.p hE rfl) rfl ?_; clear hE a; intro a hE
                  rcases Bool.eq_false_or_eq_true (decide (((k67 : Nat) : Int) > 0)) with hg88 | hg88
                  · replace hq82 := iteT hg88 hq82
                    refine WL.vS hS hE (runs_if hE rfl rfl rfl hg88) (Gives.p hE rfl) rfl ?_; clear hE a; intro a hE
                    refine WL.vS hS hE (runs_if hE rfl rfl rfl hg88) (Gives.fld hE rfl fl46_5) rfl ?_; clear hE a; intro a hE
                    refine WL.vS hS hE (runs_if hE rfl rfl rfl hg88) (Gives.loadB hE 0 rfl rfl rfl ty23) rfl ?_; clear hE a; intro a hE
                    refine WL.vS hS hE (runs_if hE rfl rfl rfl hg88) (Gives.p hE rfl) rfl ?_; clear hE a; intro a hE
                    refine WL.vS hS hE (runs_if hE rfl rfl rfl hg88) (Gives.p hE rfl) rfl ?_; clear hE a; intro a hE
                    obtain ⟨x89, hx90, hq82⟩ := bindS hq82
                    obtain ⟨hi91, hlt92, hy93⟩ := gx_some hx90
                    obtain ⟨cs94, hl95, hR96, hat97⟩ := h0_0.at hy93
                    subst hR96
                    refine WL.vS hS hE (runs_if hE rfl rfl rfl hg88) (Gives.idx hE (w64 (((k67 : Nat) : Int) - 1)).toNat rfl rfl sl23 hi91 hlt92 (h0_0.aok hlt92)) rfl ?_; clear hE a; intro a hE
                    refine WL.vS hS hE (runs_if hE rfl rfl rfl hg88) (Gives.load1 hE rfl (fun w h => hat97 w _ h) ty3) rfl ?_; clear hE a; intro a hE
                    refine WL.vS hS hE (runs_if hE rfl rfl rfl hg88) (Gives.p hE rfl) rfl ?_; clear hE a; intro a hE
                    refine WL.vS hS hE (runs_plain rfl) (Gives.pickT hE rfl hg88 rfl) rfl ?_; clear hE a; intro a hE
                    refine WL.nil ?_
                    subst hK87
                    exact ⟨decide (x68 ≤ x89), Option.some.inj hq82, hE.pick _ ⟨rfl, rfl, rfl, rfl, rfl, trivial⟩, hS⟩
                  · replace hq82 := iteF hg88 hq82
                    refine WL.no hE (runs_not hE rfl rfl rfl (by rw [hg88]; decide)) rfl ?_; clear hE a; intro a hE
                    refine WL.no hE (runs_not hE rfl rfl rfl (by rw [hg88]; decide)) rfl ?_; clear hE a; intro a hE
                    refine WL.no hE (runs_not hE rfl rfl rfl (by rw [hg88]; decide)) rfl ?_; clear hE a; intro a hE
                    refine WL.no hE (runs_not hE rfl rfl rfl (by rw [hg88]; decide)) rfl ?_; clear hE a; intro a hE
                    refine WL.no hE (runs_not hE rfl rfl rfl (by rw [hg88]; decide)) rfl ?_; clear hE a; intro a hE
                    refine WL.no hE (runs_not hE rfl rfl rfl (by rw [hg88]; decide)) rfl ?_; clear hE a; intro a hE
                    refine WL.no hE (runs_not hE rfl rfl rfl (by rw [hg88]; decide)) rfl ?_; clear hE a; intro a hE
                    refine WL.no hE (runs_not hE rfl rfl rfl (by rw [hg88]; decide)) rfl ?_; clear hE a; intro a hE
                    refine WL.vS hS hE (runs_plain rfl) (Gives.pickF hE rfl hg88 rfl) rfl ?_; clear hE a; intro a hE
                    refine WL.nil ?_
                    subst hK87
                    exact ⟨false, Option.some.inj hq82, hE.pick _ ⟨rfl, rfl, rfl, rfl, rfl, trivial⟩, hS⟩
                · clear hE hS a w; rintro a w ⟨q86, rfl, hE, hS⟩
                  refine W.cond hE rfl (fun hc98 => ?_) (fun hc98 => ?_)
                  · replace hq65 := iteT hc98 hq65
                    refine W.seq ?_
                    refine W.region ?_
                    refine WL.vS hS hE (runs_plain rfl) (Gives.p hE rfl) rfl ?_; clear hE a; intro a hE
                    refine WL.nil ?_
                    refine W.ret ?_
                    subst hK76
                    rw [← Option.some.inj hq65] at hr
                    dsimp only at hr
                    refine finG (fn := Tryd.f59) (rs := [.tmp 2]) (vs := [_]) hE rfl ⟨rfl, trivial⟩ ?_
                    obtain rfl := Option.some.inj hr
                    replace hS := hS.tail
                    exact ⟨rfl, hS⟩
                  · replace hq65 := iteF hc98 hq65
                    refine W.skip ?_
                    refine W.region ?_
                    refine WL.vS hS hE (runs_plain rfl) (Gives.inc hE rfl (by have := h0_0.small; omega)) rfl ?_; clear hE a; intro a hE
                    refine WL.vS hS hE (runs_plain rfl) (Gives.p hE rfl) rfl ?_; clear hE a; intro a hE
                    refine WL.nil ?_
                    subst hK76
                    exact ⟨rest69.length, Nat.lt_succ_self _, rest69, k67 + 1, rfl, hd70, hq65, hE.pick _ ⟨rfl, rfl, rfl, rfl, trivial⟩, hS⟩
          · clear hE hS a w; rintro a w ⟨rfl, hE, hS⟩
            dsimp only at hr
            refine W.seq ?_
            refine W.region ?_
            refine WL.vS hS hE (runs_plain rfl) (Gives.p hE rfl) rfl ?_; clear hE a; intro a hE
            refine WL.nil ?_
            refine W.ret ?_
            refine finG (fn := Tryd.f59) (rs := [.tmp 2]) (vs := [_]) hE rfl ⟨rfl, trivial⟩ ?_
            obtain rfl := Option.some.inj hr
            replace hS := hS.tail
            exact ⟨rfl, hS⟩
set_option maxHeartbeats 8000000 in
theorem Fishref2OpenOf_ok {fu : Nat}  {w : World} {s : Sg} {R : List HP} {x0 : FareKey} {x1 : ByteArray} (hS : St w s (R)) (hTab : TabX s) {r : FareTicket × Int} (hr : Fishref2OpenOf fu x0 x1 = some r) :
    Calls Tryd.prog 19 [.agg (FareKey.cells x0).toArray, .string x1].toArray w (fun e w => ∃ (cs0 : List Value) (t : Sg), e = .returned (.tuple #[.agg cs0.toArray, .int .i64 r.2]) ∧ s.Le t ∧ RFareTicket t cs0 r.1 ∧ St w t (R)) := by
  refine enter Tryd.func19 rfl rfl rfl fun a hE => ?_
  rw [Fishref2OpenOf] at hr
  refine W.seq ?_
  refine W.region ?_
  refine WL.box hE hS (runs_plain rfl) rfl rfl rfl ?_; clear hE hS a w; intro b51 a w hE hS
  refine WL.alloc hE hS (runs_plain rfl) zr46 rfl ?_; clear hE hS a w; intro b52 a w hE hS
  refine WL.vS hS hE (runs_plain rfl) (Gives.p hE rfl) rfl ?_; clear hE a; intro a hE
  refine WL.nil ?_
  refine W.seq ?_
  refine W.seq ?_
  refine W.region ?_
  refine WL.vS hS hE (runs_plain rfl) (Gives.loadBA hE 1 rfl rfl ty44) rfl ?_; clear hE a; intro a hE
  refine WL.fnq hE (Fishref2KeyFault_ok hS  rfl (r := Fishref2KeyFault x0 false)) (runs_plain rfl) bd54 rfl rfl rfl ?_
  clear hE hS; rintro e w ⟨rfl, hS⟩; refine ⟨_, rfl, ?_⟩; clear a; intro a hE
  refine WL.vS hS hE (runs_plain rfl) (Gives.p hE rfl) rfl ?_; clear hE a; intro a hE
  refine WL.nil ?_
  refine W.seq ?_
  refine W.region ?_
  refine WL.vS hS hE (runs_plain rfl) (Gives.p hE rfl) rfl ?_; clear hE a; intro a hE
  refine WL.vS hS hE (runs_plain rfl) (Gives.p hE rfl) rfl ?_; clear hE a; intro a hE
  refine WL.nil ?_
  refine W.cond hE rfl (fun hc53 => ?_) (fun hc53 => ?_)
  · replace hr := iteT hc53 hr
    refine W.seq ?_
    refine W.region ?_
    refine WL.vS hS hE (runs_plain rfl) (Gives.build hE (vs := []) [.int .i64 0, .int .i64 0, .int .i64 0, .int .i64 0, .int .i64 0, .slice none 0 0] rfl (by kernel_rfl)) rfl ?_; clear hE a; intro a hE
    refine WL.vS hS hE (runs_plain rfl) (Gives.p hE rfl) rfl ?_; clear hE a; intro a hE
    refine WL.storeI hE hS 0 rfl [.int .i64 0, .int .i64 0, .int .i64 0, .int .i64 0, .int .i64 0, .slice none 0 0] (runs_plain rfl) rfl rfl rfl ty46 rfl rfl rfl rfl ?_; clear hE hS a w; intro a w hE hS
    refine WL.vS hS hE (runs_plain rfl) (Gives.p hE rfl) rfl ?_; clear hE a; intro a hE
    refine WL.nil ?_
    refine W.ret ?_
    refine finG (fn := Tryd.f19) (rs := [.cell 4 46, .tmp 5]) (vs := [_, _]) hE rfl ⟨⟨_, rfl, .inl ⟨_, rfl, hS.seesAt 0 rfl, ty46⟩⟩, rfl, trivial⟩ ?_
    obtain rfl := Option.some.inj hr
    replace hS := hS.tail
    replace hS := hS.tail
    exact ⟨_, s, rfl, (Sg.Le.refl _), ⟨_, _, rfl, Sl.nil⟩, hS⟩
  · replace hr := iteF hc53 hr
    refine W.skip ?_
    refine W.seq ?_
    refine W.seq ?_
    refine W.region ?_
    refine WL.vS hS hE (runs_plain rfl) (Gives.p hE rfl) rfl ?_; clear hE a; intro a hE
    refine WL.vS hS hE (runs_plain rfl) (Gives.lenS hE rfl st9) rfl ?_; clear hE a; intro a hE
    refine WL.vS hS hE (runs_plain rfl) (Gives.p hE rfl) rfl ?_; clear hE a; intro a hE
    refine WL.nil ?_
    refine W.cond hE rfl (fun hc54 => ?_) (fun hc54 => ?_)
    · replace hr := iteT hc54 hr
      refine W.seq ?_
      refine W.region ?_
      refine WL.vS hS hE (runs_plain rfl) (Gives.build hE (vs := []) [.int .i64 0, .int .i64 0, .int .i64 0, .int .i64 0, .int .i64 0, .slice none 0 0] rfl (by kernel_rfl)) rfl ?_; clear hE a; intro a hE
      refine WL.storeI hE hS 0 rfl [.int .i64 0, .int .i64 0, .int .i64 0, .int .i64 0, .int .i64 0, .slice none 0 0] (runs_plain rfl) rfl rfl rfl ty46 rfl rfl rfl rfl ?_; clear hE hS a w; intro a w hE hS
      refine WL.vS hS hE (runs_plain rfl) (Gives.p hE rfl) rfl ?_; clear hE a; intro a hE
      refine WL.nil ?_
      refine W.ret ?_
      refine finG (fn := Tryd.f19) (rs := [.cell 4 46, .tmp 5]) (vs := [_, _]) hE rfl ⟨⟨_, rfl, .inl ⟨_, rfl, hS.seesAt 0 rfl, ty46⟩⟩, rfl, trivial⟩ ?_
      obtain rfl := Option.some.inj hr
      replace hS := hS.tail
      replace hS := hS.tail
      exact ⟨_, s, rfl, (Sg.Le.refl _), ⟨_, _, rfl, Sl.nil⟩, hS⟩
    · replace hr := iteF hc54 hr
      refine W.skip ?_
      refine W.seq ?_
      refine W.region ?_
      refine WL.vS hS hE (runs_plain rfl) (Gives.p hE rfl) rfl ?_; clear hE a; intro a hE
      obtain ⟨q55, hq56, hr⟩ := bindS hr
      have hc_ := StringsCutSuffix_ok hS  hq56
      refine WL.fnq hE (hc_) (runs_plain rfl) bd55 rfl rfl rfl ?_
      clear hE hS hc_; rintro e w ⟨rfl, hS⟩; refine ⟨_, rfl, ?_⟩; clear a; intro a hE
      refine WL.vS hS hE (runs_plain rfl) (Gives.p hE rfl) rfl ?_; clear hE a; intro a hE
      refine WL.vS hS hE (runs_plain rfl) (Gives.p hE rfl) rfl ?_; clear hE a; intro a hE
      refine WL.vS hS hE (runs_plain rfl) (Gives.p hE rfl) rfl ?_; clear hE a; intro a hE
      refine WL.vS hS hE (runs_plain rfl) (Gives.p hE rfl) rfl ?_; clear hE a; intro a hE
      refine WL.vS hS hE (runs_plain rfl) (Gives.p hE rfl) rfl ?_; clear hE a; intro a hE
      refine WL.nil ?_
      refine W.seq ?_
      refine W.region ?_
      refine WL.vS hS hE (runs_plain rfl) (Gives.p hE rfl) rfl ?_; clear hE a; intro a hE
      obtain ⟨q57, hq58, hr⟩ := bindS hr
      refine WL.fnq hE (split_ok hS (TabG.mono (Sg.Le.refl _) hTab) hq58) (runs_plain rfl) bd56 rfl rfl rfl ?_
      clear hE hS; rintro e w ⟨b59, cs60, rfl, h61, hS⟩; refine ⟨_, rfl, ?_⟩; clear a; intro a hE
      refine WL.vS hS hE (runs_plain rfl) (Gives.p hE rfl) rfl ?_; clear hE a; intro a hE
      refine WL.nil ?_
      refine W.seq ?_
      refine W.region ?_
      refine WL.vS hS hE (runs_plain rfl) (Gives.p hE rfl) rfl ?_; clear hE a; intro a hE
      refine WL.vS hS hE (runs_plain rfl) (Gives.len hE rfl sl83) rfl ?_; clear hE a; intro a hE
      refine WL.vS hS hE (runs_plain rfl) (Gives.p hE rfl) rfl ?_; clear hE a; intro a hE
      refine WL.nil ?_
      refine W.seq ?_
      refine W.seq ?_
      obtain ⟨q64, hq63, hr⟩ := bindS hr
      refine W.cut (fun a w => ∃ (q67 : Bool), q67 = q64 ∧ Rep a 137 [(2, .pointer (some ⟨b51, 0, none⟩)), (4, .pointer (some ⟨b52, 0, none⟩)), (7, .string q55.1), (9, .slice (some ⟨b59, 0, none⟩) q57.length q57.length), (10, .int .i64 ((q57.length : Nat) : Int)), (57, .bool q67)] ∧ St w s (vecC 9 1 (some ⟨b59, 0, none⟩) q57.length q57.length cs60 :: pt b52 (.cells #[.int .i64 0, .int .i64 0, .int .i64 0, .int .i64 0, .int .i64 0, .slice none 0 0] 46 (0, 0)) :: pt b51 (.cells (FareKey.cells x0).toArray 44 (0, 0)) :: R)) ?_ ?_
      · refine W.gen fun K68 hK68 => ?_
        refine W.region ?_
        refine WL.vS hS hE (runs_plain rfl) (Gives.p hE rfl) rfl ?_; clear hE a; intro a hE
        refine WL.vS hS hE (runs_plain rfl) (Gives.p hE rfl) rfl ?_; clear hE a; intro a hE
        refine WL.vS hS hE (runs_plain rfl) (Gives.p hE rfl) rfl ?_; clear hE a; intro a hE
        rcases Bool.eq_false_or_eq_true !q55.2 with hg69 | hg69
        · replace hq63 := iteT hg69 hq63
          refine WL.no hE (runs_not hE rfl rfl rfl (by rw [hg69]; decide)) rfl ?_; clear hE a; intro a hE
          refine WL.no hE (runs_not hE rfl rfl rfl (by rw [hg69]; decide)) rfl ?_; clear hE a; intro a hE
          refine WL.vS hS hE (runs_plain rfl) (Gives.pickT hE rfl hg69 rfl) rfl ?_; clear hE a; intro a hE
          refine WL.vS hS hE (runs_plain rfl) (Gives.p hE rfl) rfl ?_; clear hE a; intro a hE
          refine WL.no hE (runs_not hE rfl rfl rfl (by decide)) rfl ?_; clear hE a; intro a hE
          refine WL.no hE (runs_not hE rfl rfl rfl (by decide)) rfl ?_; clear hE a; intro a hE
          refine WL.no hE (runs_not hE rfl rfl rfl (by decide)) rfl ?_; clear hE a; intro a hE
          refine WL.no hE (runs_not hE rfl rfl rfl (by decide)) rfl ?_; clear hE a; intro a hE
          refine WL.vS hS hE (runs_plain rfl) (Gives.pickT hE rfl rfl rfl) rfl ?_; clear hE a; intro a hE
          refine WL.vS hS hE (runs_plain rfl) (Gives.p hE rfl) rfl ?_; clear hE a; intro a hE
          refine WL.no hE (runs_not hE rfl rfl rfl (by decide)) rfl ?_; clear hE a; intro a hE
          refine WL.no hE (runs_not hE rfl rfl rfl (by decide)) rfl ?_; clear hE a; intro a hE
          refine WL.no hE (runs_not hE rfl rfl rfl (by decide)) rfl ?_; clear hE a; intro a hE
          refine WL.no hE (runs_not hE rfl rfl rfl (by decide)) rfl ?_; clear hE a; intro a hE
          refine WL.no hE (runs_not hE rfl rfl rfl (by decide)) rfl ?_; clear hE a; intro a hE
          refine WL.no hE (runs_not hE rfl rfl rfl (by decide)) rfl ?_; clear hE a; intro a hE
          refine WL.vS hS hE (runs_plain rfl) (Gives.pickT hE rfl rfl rfl) rfl ?_; clear hE a; intro a hE
          refine WL.nil ?_
          subst hK68
          exact ⟨true, Option.some.inj hq63, hE.pick _ ⟨rfl, rfl, rfl, rfl, rfl, rfl, trivial⟩, hS⟩
        · replace hq63 := iteF hg69 hq63
          refine WL.vS hS hE (runs_if hE rfl rfl rfl hg69) (Gives.p hE rfl) rfl ?_; clear hE a; intro a hE
          refine WL.vS hS hE (runs_if hE rfl rfl rfl hg69) (Gives.p hE rfl) rfl ?_; clear hE a; intro a hE
          refine WL.vS hS hE (runs_plain rfl) (Gives.pickF hE rfl hg69 rfl) rfl ?_; clear hE a; intro a hE
          refine WL.vS hS hE (runs_plain rfl) (Gives.p hE rfl) rfl ?_; clear hE a; intro a hE
          rcases Bool.eq_false_or_eq_true (decide (((q57.length : Nat) : Int) < 9)) with hg70 | hg70
          · replace hq63 := iteT hg70 hq63
            refine WL.no hE (runs_not hE rfl rfl rfl (by rw [hg70]; decide)) rfl ?_; clear hE a; intro a hE
            refine WL.no hE (runs_not hE rfl rfl rfl (by rw [hg70]; decide)) rfl ?_; clear hE a; intro a hE
            refine WL.no hE (runs_not hE rfl rfl rfl (by rw [hg70]; decide)) rfl ?_; clear hE a; intro a hE
            refine WL.no hE (runs_not hE rfl rfl rfl (by rw [hg70]; decide)) rfl ?_; clear hE a; intro a hE
            refine WL.vS hS hE (runs_plain rfl) (Gives.pickT hE rfl hg70 rfl) rfl ?_; clear hE a; intro a hE
            refine WL.vS hS hE (runs_plain rfl) (Gives.p hE rfl) rfl ?_; clear hE a; intro a hE
            refine WL.no hE (runs_not hE rfl rfl rfl (by decide)) rfl ?_; clear hE a; intro a hE
            refine WL.no hE (runs_not hE rfl rfl rfl (by decide)) rfl ?_; clear hE a; intro a hE
            refine WL.no hE (runs_not hE rfl rfl rfl (by decide)) rfl ?_; clear hE a; intro a hE
            refine WL.no hE (runs_not hE rfl rfl rfl (by decide)) rfl ?_; clear hE a; intro a hE
            refine WL.no hE (runs_not hE rfl rfl rfl (by decide)) rfl ?_; clear hE a; intro a hE
            refine WL.no hE (runs_not hE rfl rfl rfl (by decide)) rfl ?_; clear hE a; intro a hE
            refine WL.vS hS hE (runs_plain rfl) (Gives.pickT hE rfl rfl rfl) rfl ?_; clear hE a; intro a hE
            refine WL.nil ?_
            subst hK68
            exact ⟨true, Option.some.inj hq63, hE.pick _ ⟨rfl, rfl, rfl, rfl, rfl, rfl, trivial⟩, hS⟩
          · replace hq63 := iteF hg70 hq63
            refine WL.vS hS hE (runs_if hE rfl rfl rfl hg70) (Gives.p hE rfl) rfl ?_; clear hE a; intro a hE
            obtain ⟨x71, hx72, hq63⟩ := bindS hq63
            obtain ⟨hi73, hlt74, hy75⟩ := gx_some hx72
            obtain ⟨vs76, hl77, hR78, hd79, hget80⟩ := h61.at hy75
            subst hR78
            refine WL.vS hS hE (runs_if hE rfl rfl rfl hg70) (Gives.idx hE (((0 : Int)).toNat) rfl rfl sl83 hi73 (by omega) (hS.vecAok 0 rfl (by omega : ((0 : Int)).toNat < q57.length))) rfl ?_; clear hE a; intro a hE
            refine WL.vS hS hE (runs_if hE rfl rfl rfl hg70) (Gives.load1 hE rfl (fun w h => St.vecSees h 0 rfl (((0 : Int)).toNat * 1) _ hget80) ty9) rfl ?_; clear hE a; intro a hE
            refine WL.vS hS hE (runs_if hE rfl rfl rfl hg70) (Gives.neSt hE rfl rfl) rfl ?_; clear hE a; intro a hE
            refine WL.vS hS hE (runs_plain rfl) (Gives.pickF hE rfl hg70 rfl) rfl ?_; clear hE a; intro a hE
            refine WL.vS hS hE (runs_plain rfl) (Gives.p hE rfl) rfl ?_; clear hE a; intro a hE
            rcases Bool.eq_false_or_eq_true (!(seq x71 (str [116, 105, 99, 107, 101, 116]))) with hg81 | hg81
            · replace hq63 := iteT hg81 hq63
              refine WL.no hE (runs_not hE rfl rfl rfl (by rw [hg81]; decide)) rfl ?_; clear hE a; intro a hE
              refine WL.no hE (runs_not hE rfl rfl rfl (by rw [hg81]; decide)) rfl ?_; clear hE a; intro a hE
              refine WL.no hE (runs_not hE rfl rfl rfl (by rw [hg81]; decide)) rfl ?_; clear hE a; intro a hE
              refine WL.no hE (runs_not hE rfl rfl rfl (by rw [hg81]; decide)) rfl ?_; clear hE a; intro a hE
              refine WL.no hE (runs_not hE rfl rfl rfl (by rw [hg81]; decide)) rfl ?_; clear hE a; intro a hE
              refine WL.no hE (runs_not hE rfl rfl rfl (by rw [hg81]; decide)) rfl ?_; clear hE a; intro a hE
              refine WL.vS hS hE (runs_plain rfl) (Gives.pickT hE rfl hg81 rfl) rfl ?_; clear hE a; intro a hE
              refine WL.nil ?_
              subst hK68
              exact ⟨true, Option.some.inj hq63, hE.pick _ ⟨rfl, rfl, rfl, rfl, rfl, rfl, trivial⟩, hS⟩
            · replace hq63 := iteF hg81 hq63
              refine WL.vS hS hE (runs_if hE rfl rfl rfl hg81) (Gives.p hE rfl) rfl ?_; clear hE a; intro a hE
              refine WL.vS hS hE (runs_if hE rfl rfl rfl hg81) (Gives.p hE rfl) rfl ?_; clear hE a; intro a hE
              refine WL.vS hS hE (runs_if hE rfl rfl rfl hg81) (Gives.p hE rfl) rfl ?_; clear hE a; intro a hE
              obtain ⟨x82, hx83, hq63⟩ := bindS hq63
              obtain ⟨hi84, hlt85, hy86⟩ := gx_some hx83
              obtain ⟨vs87, hl88, hR89, hd90, hget91⟩ := h61.at hy86
              subst hR89
              refine WL.vS hS hE (runs_if hE rfl rfl rfl hg81) (Gives.idx hE ((w64 (((q57.length : Nat) : Int) - 2)).toNat) rfl rfl sl83 hi84 (by omega) (hS.vecAok 0 rfl (by omega : (w64 (((q57.length : Nat) : Int) - 2)).toNat < q57.length))) rfl ?_; clear hE a; intro a hE
              refine WL.vS hS hE (runs_if hE rfl rfl rfl hg81) (Gives.load1 hE rfl (fun w h => St.vecSees h 0 rfl ((w64 (((q57.length : Nat) : Int) - 2)).toNat * 1) _ hget91) ty9) rfl ?_; clear hE a; intro a hE
              refine WL.vS hS hE (runs_if hE rfl rfl rfl hg81) (Gives.neSt hE rfl rfl) rfl ?_; clear hE a; intro a hE
              refine WL.vS hS hE (runs_plain rfl) (Gives.pickF hE rfl hg81 rfl) rfl ?_; clear hE a; intro a hE
              refine WL.nil ?_
              subst hK68
              exact ⟨!(seq x82 (str [58])), Option.some.inj hq63, hE.pick _ ⟨rfl, rfl, rfl, rfl, rfl, rfl, trivial⟩, hS⟩
      · clear hE hS a w; rintro a w ⟨q67, rfl, hE, hS⟩
        refine W.cond hE rfl (fun hc92 => ?_) (fun hc92 => ?_)
        · replace hr := iteT hc92 hr
          refine W.seq ?_
          refine W.region ?_
          refine WL.vS hS hE (runs_plain rfl) (Gives.build hE (vs := []) [.int .i64 0, .int .i64 0, .int .i64 0, .int .i64 0, .int .i64 0, .slice none 0 0] rfl (by kernel_rfl)) rfl ?_; clear hE a; intro a hE
          refine WL.storeI hE hS 1 rfl [.int .i64 0, .int .i64 0, .int .i64 0, .int .i64 0, .int .i64 0, .slice none 0 0] (runs_plain rfl) rfl rfl rfl ty46 rfl rfl rfl rfl ?_; clear hE hS a w; intro a w hE hS
          refine WL.vS hS hE (runs_plain rfl) (Gives.p hE rfl) rfl ?_; clear hE a; intro a hE
          refine WL.nil ?_
          refine W.ret ?_
          refine finG (fn := Tryd.f19) (rs := [.cell 4 46, .tmp 5]) (vs := [_, _]) hE rfl ⟨⟨_, rfl, .inl ⟨_, rfl, hS.seesAt 1 rfl, ty46⟩⟩, rfl, trivial⟩ ?_
          obtain rfl := Option.some.inj hr
          replace hS := hS.tail
          replace hS := hS.tail
          replace hS := hS.tail
          exact ⟨_, s, rfl, (Sg.Le.refl _), ⟨_, _, rfl, Sl.nil⟩, hS⟩
        · replace hr := iteF hc92 hr
          refine W.skip ?_
          refine W.seq ?_
          refine W.region ?_
          replace hS := hS.vecNil 3 1
          refine WL.vS hS hE (runs_plain rfl) (Gives.p hE rfl) rfl ?_; clear hE a; intro a hE
          refine WL.nil ?_
          refine W.seq ?_
          refine W.seq ?_
          refine W.region ?_
          refine WL.vS hS hE (runs_plain rfl) (Gives.p hE rfl) rfl ?_; clear hE a; intro a hE
          refine WL.vS hS hE (runs_plain rfl) (Gives.len hE rfl sl83) rfl ?_; clear hE a; intro a hE
          refine WL.vS hS hE (runs_plain rfl) (Gives.p hE rfl) rfl ?_; clear hE a; intro a hE
          refine WL.nil ?_
          have hb105 : q57.length ≤ 9223372036854775807 := by have := hS.vecCap 1 rfl; unfold maxLen at this; omega
          obtain ⟨q95, hq94, hr⟩ := bindS hr
          refine W.cut (fun a w => ∃ (q106 : List Int), ∃ (q113 : Int), ∃ (q114 : Int), ∃ (q115 : Int), ∃ (q116 : Int), ∃ (q117 : Int), ∃ (q118 : List Int), ∃ (a107 : Option Addr), ∃ (c108 : Nat), ∃ (n110 : Nat), ∃ (cs111 : List Value), ∃ (a119 : Option Addr), ∃ (c120 : Nat), (.next (q106, q113, q114, q115, q116, q117, q118)) = q95 ∧ Ev 1 (RI .i64) s cs111 q106 ∧ q106.length = n110 ∧ Sl 1 (RI .i64) s a119 c120 q118 ∧ Rep a 137 [(2, .pointer (some ⟨b51, 0, none⟩)), (4, .pointer (some ⟨b52, 0, none⟩)), (7, .string q55.1), (9, .slice (some ⟨b59, 0, none⟩) q57.length q57.length), (10, .int .i64 ((q57.length : Nat) : Int)), (11, .slice a107 n110 c108)] ∧ St w s (vecC 3 1 a107 c108 n110 cs111 :: vecC 9 1 (some ⟨b59, 0, none⟩) q57.length q57.length cs60 :: pt b52 (.cells #[.int .i64 q113, .int .i64 q114, .int .i64 q115, .int .i64 q116, .int .i64 q117, .slice a119 q118.length c120] 46 (0, 0)) :: pt b51 (.cells (FareKey.cells x0).toArray 44 (0, 0)) :: R)) ?_ ?_
          · refine W.block ?_
            refine W.loop (fun m a w => ∃ (rest98 : Nat) (k96 : Nat), ∃ (q106 : List Int), ∃ (q113 : Int), ∃ (q114 : Int), ∃ (q115 : Int), ∃ (q116 : Int), ∃ (q117 : Int), ∃ (q118 : List Int), ∃ (a107 : Option Addr), ∃ (c108 : Nat), ∃ (n110 : Nat), ∃ (cs111 : List Value), ∃ (a119 : Option Addr), ∃ (c120 : Nat), rest98 = m ∧ k96 + rest98 = q57.length ∧ Fishref2OpenOf.loop1 q57 rest98 k96 q106 q113 q114 q115 q116 q117 q118 = some q95 ∧ Ev 1 (RI .i64) s cs111 q106 ∧ q106.length = n110 ∧ Sl 1 (RI .i64) s a119 c120 q118 ∧ Rep a 137 [(2, .pointer (some ⟨b51, 0, none⟩)), (4, .pointer (some ⟨b52, 0, none⟩)), (7, .string q55.1), (9, .slice (some ⟨b59, 0, none⟩) q57.length q57.length), (10, .int .i64 ((q57.length : Nat) : Int)), (11, .slice a107 n110 c108), (59, .slice (some ⟨b59, 0, none⟩) q57.length q57.length), (60, .int .i64 ((q57.length : Nat) : Int)), (61, .int .i64 ((k96 : Nat) : Int))] ∧ St w s (vecC 3 1 a107 c108 n110 cs111 :: vecC 9 1 (some ⟨b59, 0, none⟩) q57.length q57.length cs60 :: pt b52 (.cells #[.int .i64 q113, .int .i64 q114, .int .i64 q115, .int .i64 q116, .int .i64 q117, .slice a119 q118.length c120] 46 (0, 0)) :: pt b51 (.cells (FareKey.cells x0).toArray 44 (0, 0)) :: R)) (m := q57.length) ⟨q57.length, 0, [], 0, 0, 0, 0, 0, [], none, 0, 0, [], none, 0, rfl, by omega, hq94, (Ev.nil), (rfl), Sl.nil, hE.pick _ ⟨rfl, rfl, rfl, rfl, rfl, rfl, rfl, rfl, rfl, trivial⟩, hS⟩ ?_
            clear hE hS a w hq94; rintro m102 a w ⟨rest98, k96, q106, q113, q114, q115, q116, q117, q118, a107, c108, n110, cs111, a119, c120, rfl, hd99, hq94, h109, rfl, h121, hE, hS⟩
            refine W.gen fun K122 hK122 => ?_
            rcases rest98 with _ | rest98
            · skip
              refine W.seq ?_
              refine W.region ?_
              refine WL.vS hS hE (runs_plain rfl) (Gives.p hE rfl) rfl ?_; clear hE a; intro a hE
              refine WL.nil ?_
              refine W.seq ?_
              refine W.condF hE rfl (decide_eq_false (by omega)) ?_
              subst hK122
              refine W.exit rfl ?_
              exact ⟨q106, q113, q114, q115, q116, q117, q118, a107, c108, q106.length, cs111, a119, c120, Option.some.inj hq94, h109, rfl, h121, hE.pick _ ⟨rfl, rfl, rfl, rfl, rfl, rfl, trivial⟩, hS⟩
            · have hlt100 : k96 < q57.length := by omega
              rw [Fishref2OpenOf.loop1] at hq94
              refine W.seq ?_
              refine W.region ?_
              refine WL.vS hS hE (runs_plain rfl) (Gives.p hE rfl) rfl ?_; clear hE a; intro a hE
              refine WL.nil ?_
              refine W.seq ?_
              refine W.condT hE rfl (decide_eq_true (by omega)) ?_
              refine W.skip ?_
              refine W.seq ?_
              refine W.block ?_
              refine W.seq ?_
              refine W.region ?_
              refine WL.vS hS hE (runs_plain rfl) (Gives.p hE rfl) rfl ?_; clear hE a; intro a hE
              obtain ⟨x123, hx124, hq94⟩ := bindS hq94
              obtain ⟨hi125, hlt126, hy127⟩ := gx_some hx124
              obtain ⟨vs128, hl129, hR130, hd131, hget132⟩ := h61.at hy127
              subst hR130
              refine WL.vS hS hE (runs_plain rfl) (Gives.idx hE ((((k96 : Nat) : Int)).toNat) rfl rfl sl83 hi125 (by omega) (hS.vecAok 1 rfl (by omega : (((k96 : Nat) : Int)).toNat < q57.length))) rfl ?_; clear hE a; intro a hE
              refine WL.vS hS hE (runs_plain rfl) (Gives.load1 hE rfl (fun w h => St.vecSees h 1 rfl ((((k96 : Nat) : Int)).toNat * 1) _ hget132) ty9) rfl ?_; clear hE a; intro a hE
              refine WL.vS hS hE (runs_plain rfl) (Gives.p hE rfl) rfl ?_; clear hE a; intro a hE
              refine WL.vS hS hE (runs_plain rfl) (Gives.p hE rfl) rfl ?_; clear hE a; intro a hE
              refine WL.nil ?_
              refine W.seq ?_
              refine W.seq ?_
              obtain ⟨q134, hq133, hq94⟩ := bndS hq94
              refine W.cut (fun a w => ∃ (q137 : Bool), q137 = q134 ∧ Rep a 137 [(2, .pointer (some ⟨b51, 0, none⟩)), (4, .pointer (some ⟨b52, 0, none⟩)), (7, .string q55.1), (9, .slice (some ⟨b59, 0, none⟩) q57.length q57.length), (10, .int .i64 ((q57.length : Nat) : Int)), (11, .slice a107 q106.length c108), (13, .string x123), (59, .slice (some ⟨b59, 0, none⟩) q57.length q57.length), (60, .int .i64 ((q57.length : Nat) : Int)), (61, .int .i64 ((k96 : Nat) : Int)), (73, .bool q137)] ∧ St w s (vecC 3 1 a107 c108 q106.length cs111 :: vecC 9 1 (some ⟨b59, 0, none⟩) q57.length q57.length cs60 :: pt b52 (.cells #[.int .i64 q113, .int .i64 q114, .int .i64 q115, .int .i64 q116, .int .i64 q117, .slice a119 q118.length c120] 46 (0, 0)) :: pt b51 (.cells (FareKey.cells x0).toArray 44 (0, 0)) :: R)) ?_ ?_
              · refine W.gen fun K138 hK138 => ?_
                refine W.region ?_
                refine WL.vS hS hE (runs_plain rfl) (Gives.p hE rfl) rfl ?_; clear hE a; intro a hE
                refine WL.vS hS hE (runs_plain rfl) (Gives.p hE rfl) rfl ?_; clear hE a; intro a hE
                refine WL.vS hS hE (runs_plain rfl) (Gives.p hE rfl) rfl ?_; clear hE a; intro a hE
                rcases Bool.eq_false_or_eq_true (((k96 : Nat) : Int) == 0) with hg139 | hg139
                · replace hq133 := iteT hg139 hq133
                  refine WL.no hE (runs_not hE rfl rfl rfl (by rw [hg139]; decide)) rfl ?_; clear hE a; intro a hE
                  refine WL.no hE (runs_not hE rfl rfl rfl (by rw [hg139]; decide)) rfl ?_; clear hE a; intro a hE
                  refine WL.no hE (runs_not hE rfl rfl rfl (by rw [hg139]; decide)) rfl ?_; clear hE a; intro a hE
                  refine WL.no hE (runs_not hE rfl rfl rfl (by rw [hg139]; decide)) rfl ?_; clear hE a; intro a hE
                  refine WL.vS hS hE (runs_plain rfl) (Gives.pickT hE rfl hg139 rfl) rfl ?_; clear hE a; intro a hE
                  refine WL.nil ?_
                  subst hK138
                  exact ⟨true, hq133, hE.pick _ ⟨rfl, rfl, rfl, rfl, rfl, rfl, rfl, rfl, rfl, rfl, rfl, trivial⟩, hS⟩
                · replace hq133 := iteF hg139 hq133
                  refine WL.vS hS hE (runs_if hE rfl rfl rfl hg139) (Gives.p hE rfl) rfl ?_; clear hE a; intro a hE
                  refine WL.vS hS hE (runs_if hE rfl rfl rfl hg139) (Gives.p hE rfl) rfl ?_; clear hE a; intro a hE
                  refine WL.vS hS hE (runs_if hE rfl rfl rfl hg139) (Gives.p hE rfl) rfl ?_; clear hE a; intro a hE
                  refine WL.vS hS hE (runs_if hE rfl rfl rfl hg139) (Gives.p hE rfl) rfl ?_; clear hE a; intro a hE
                  refine WL.vS hS hE (runs_plain rfl) (Gives.pickF hE rfl hg139 rfl) rfl ?_; clear hE a; intro a hE
                  refine WL.nil ?_
                  subst hK138
                  exact ⟨(((k96 : Nat) : Int) == (w64 (((q57.length : Nat) : Int) - 2))), hq133, hE.pick _ ⟨rfl, rfl, rfl, rfl, rfl, rfl, rfl, rfl, rfl, rfl, rfl, trivial⟩, hS⟩
              · clear hE hS a w; rintro a w ⟨q137, rfl, hE, hS⟩
                refine W.cond hE rfl (fun hc140 => ?_) (fun hc140 => ?_)
                · replace hq94 := iteT hc140 hq94
                  refine W.exit rfl ?_
                  refine W.region ?_
                  refine WL.vS hS hE (runs_plain rfl) (Gives.inc hE rfl (by omega)) rfl ?_; clear hE a; intro a hE
                  refine WL.vS hS hE (runs_plain rfl) (Gives.p hE rfl) rfl ?_; clear hE a; intro a hE
                  refine WL.nil ?_
                  subst hK122
                  exact ⟨rest98, Nat.lt_succ_self _, rest98, k96 + 1, q106, q113, q114, q115, q116, q117, q118, a107, c108, q106.length, cs111, a119, c120, rfl, (by omega), hq94, h109, rfl, h121, hE.pick _ ⟨rfl, rfl, rfl, rfl, rfl, rfl, rfl, rfl, rfl, trivial⟩, hS⟩
                · replace hq94 := iteF hc140 hq94
                  refine W.skip ?_
                  refine W.seq ?_
                  refine W.region ?_
                  refine WL.vS hS hE (runs_plain rfl) (Gives.p hE rfl) rfl ?_; clear hE a; intro a hE
                  obtain ⟨q141, hq142, hq94⟩ := bindS hq94
                  have hc_ := Fishref2plain_ok hS (TabG.mono (Sg.Le.refl _) hTab) hq142
                  refine WL.fnq hE (hc_) (runs_plain rfl) bd57 rfl rfl rfl ?_
                  clear hE hS hc_; rintro e w ⟨rfl, hS⟩; refine ⟨_, rfl, ?_⟩; clear a; intro a hE
                  refine WL.vS hS hE (runs_plain rfl) (Gives.p hE rfl) rfl ?_; clear hE a; intro a hE
                  refine WL.vS hS hE (runs_plain rfl) (Gives.p hE rfl) rfl ?_; clear hE a; intro a hE
                  refine WL.vS hS hE (runs_plain rfl) (Gives.p hE rfl) rfl ?_; clear hE a; intro a hE
                  refine WL.vS hS hE (runs_plain rfl) (Gives.p hE rfl) rfl ?_; clear hE a; intro a hE
                  refine WL.vS hS hE (runs_plain rfl) (Gives.p hE rfl) rfl ?_; clear hE a; intro a hE
                  refine WL.nil ?_
                  refine W.seq ?_
                  refine W.seq ?_
                  refine W.region ?_
                  refine WL.vS hS hE (runs_plain rfl) (Gives.p hE rfl) rfl ?_; clear hE a; intro a hE
                  refine WL.vS hS hE (runs_plain rfl) (Gives.p hE rfl) rfl ?_; clear hE a; intro a hE
                  refine WL.nil ?_
                  refine W.cond hE rfl (fun hc143 => ?_) (fun hc143 => ?_)
                  · replace hq94 := iteT hc143 hq94
                    refine W.seq ?_
                    refine W.region ?_
                    refine WL.vS hS hE (runs_plain rfl) (Gives.build hE (vs := []) [.int .i64 0, .int .i64 0, .int .i64 0, .int .i64 0, .int .i64 0, .slice none 0 0] rfl (by kernel_rfl)) rfl ?_; clear hE a; intro a hE
                    refine WL.storeI hE hS 2 rfl [.int .i64 0, .int .i64 0, .int .i64 0, .int .i64 0, .int .i64 0, .slice none 0 0] (runs_plain rfl) rfl rfl rfl ty46 rfl rfl rfl rfl ?_; clear hE hS a w; intro a w hE hS
                    refine WL.vS hS hE (runs_plain rfl) (Gives.p hE rfl) rfl ?_; clear hE a; intro a hE
                    refine WL.nil ?_
                    refine W.ret ?_
                    subst hK122
                    rw [← Option.some.inj hq94] at hr
                    dsimp only at hr
                    refine finG (fn := Tryd.f19) (rs := [.cell 4 46, .tmp 5]) (vs := [_, _]) hE rfl ⟨⟨_, rfl, .inl ⟨_, rfl, hS.seesAt 2 rfl, ty46⟩⟩, rfl, trivial⟩ ?_
                    obtain rfl := Option.some.inj hr
                    replace hS := hS.tail
                    replace hS := hS.tail
                    replace hS := hS.tail
                    replace hS := hS.tail
                    exact ⟨_, s, rfl, (Sg.Le.refl _), ⟨_, _, rfl, Sl.nil⟩, hS⟩
                  · replace hq94 := iteF hc143 hq94
                    refine W.skip ?_
                    refine W.region ?_
                    refine WL.vS hS hE (runs_plain rfl) (Gives.p hE rfl) rfl ?_; clear hE a; intro a hE
                    refine WL.vS hS hE (runs_plain rfl) (Gives.p hE rfl) rfl ?_; clear hE a; intro a hE
                    refine WL.lit hE hS (e := 3) (es := 1) (vs := [(0, .int .i64 q141.1)]) (cs := [.int .i64 q141.1]) (runs_plain rfl) rfl (by kernel_rfl) rfl ?_; clear hE hS a w; intro b144 a w hE hS
                    obtain ⟨x145, hx146, hq94⟩ := bindS hq94
                    refine WL.appD hE hS 0 (m := 1) (runs_plain rfl) rfl rfl rfl ap23 rfl h109 rfl (xs := [q141.1]) (Ev.cons (c1 := [.int .i64 q141.1]) rfl rfl (Ev.nil)) rfl rfl hx146 rfl ?_; clear hE hS a w; intro a147 c148 cs149 a w h150 hE hS
                    refine WL.vS hS hE (runs_plain rfl) (Gives.p hE rfl) rfl ?_; clear hE a; intro a hE
                    refine WL.nil ?_
                    refine W.region ?_
                    refine WL.vS hS hE (runs_plain rfl) (Gives.inc hE rfl (by omega)) rfl ?_; clear hE a; intro a hE
                    refine WL.vS hS hE (runs_plain rfl) (Gives.p hE rfl) rfl ?_; clear hE a; intro a hE
                    refine WL.nil ?_
                    subst hK122
                    exact ⟨rest98, Nat.lt_succ_self _, rest98, k96 + 1, x145, q113, q114, q115, q116, q117, q118, a147, c148, x145.length, cs149, a119, c120, rfl, (by omega), hq94, h150, (rfl), h121, hE.pick _ ⟨rfl, rfl, rfl, rfl, rfl, rfl, rfl, rfl, rfl, trivial⟩, hS⟩
          · clear hE hS a w; rintro a w ⟨q106, q113, q114, q115, q116, q117, q118, a107, c108, n110, cs111, a119, c120, rfl, h109, rfl, h121, hE, hS⟩
            dsimp only at hr
            refine W.seq ?_
            refine W.region ?_
            refine WL.vS hS hE (runs_plain rfl) (Gives.p hE rfl) rfl ?_; clear hE a; intro a hE
            refine WL.vS hS hE (runs_plain rfl) (Gives.p hE rfl) rfl ?_; clear hE a; intro a hE
            refine WL.vS hS hE (runs_plain rfl) (Gives.len hE rfl sl23) rfl ?_; clear hE a; intro a hE
            refine WL.vS hS hE (runs_plain rfl) (Gives.p hE rfl) rfl ?_; clear hE a; intro a hE
            obtain ⟨x151, hx152, hr⟩ := bindS hr
            obtain ⟨hi153, hlt154, hy155⟩ := gx_some hx152
            obtain ⟨vs156, hl157, hR158, hd159, hget160⟩ := h109.at hy155
            subst hR158
            refine WL.vS hS hE (runs_plain rfl) (Gives.idx hE ((w64 (((q106.length : Nat) : Int) - 1)).toNat) rfl rfl sl23 hi153 (by omega) (hS.vecAok 0 rfl (by omega : (w64 (((q106.length : Nat) : Int) - 1)).toNat < q106.length))) rfl ?_; clear hE a; intro a hE
            refine WL.vS hS hE (runs_plain rfl) (Gives.load1 hE rfl (fun w h => St.vecSees h 0 rfl ((w64 (((q106.length : Nat) : Int) - 1)).toNat * 1) _ hget160) ty3) rfl ?_; clear hE a; intro a hE
            refine WL.vS hS hE (runs_plain rfl) (Gives.p hE rfl) rfl ?_; clear hE a; intro a hE
            refine WL.nil ?_
            refine W.seq ?_
            refine W.seq ?_
            refine W.regionQ (C := fun w => St w s (vecC 3 1 a107 c108 q106.length cs111 :: vecC 9 1 (some ⟨b59, 0, none⟩) q57.length q57.length cs60 :: pt b52 (.cells #[.int .i64 q113, .int .i64 q114, .int .i64 q115, .int .i64 q116, .int .i64 q117, .slice a119 q118.length c120] 46 (0, 0)) :: pt b51 (.cells (FareKey.cells x0).toArray 44 (0, 0)) :: R)) mixed (by kernel_rfl) hS.drew ?_
            refine QL.v hE (runs_plain rfl) (Gives.loadBA hE 3 rfl rfl ty44) rfl ?_; clear hE a; intro a hE
            refine QL.v hE (runs_plain rfl) (Gives.p hE rfl) rfl ?_; clear hE a; intro a hE
            refine QL.v hE (runs_plain rfl) (Gives.p hE rfl) rfl ?_; clear hE a; intro a hE
            refine QL.v hE (runs_plain rfl) (Gives.lenS hE rfl st9) rfl ?_; clear hE a; intro a hE
            refine QL.v hE (runs_plain rfl) (Gives.p hE rfl) rfl ?_; clear hE a; intro a hE
            refine QL.v hE (runs_plain rfl) (Gives.p hE rfl) rfl ?_; clear hE a; intro a hE
            refine QL.v hE (runs_plain rfl) (Gives.p hE rfl) rfl ?_; clear hE a; intro a hE
            obtain ⟨x161, hx162, hr⟩ := bindS hr
            obtain ⟨hi163, hlt164, hy165⟩ := gx_some hx162
            obtain ⟨vs166, hl167, hR168, hd169, hget170⟩ := h61.at hy165
            subst hR168
            refine QL.v hE (runs_plain rfl) (Gives.idx hE ((w64 (((q57.length : Nat) : Int) - 1)).toNat) rfl rfl sl83 hi163 (by omega) (hS.vecAok 1 rfl (by omega : (w64 (((q57.length : Nat) : Int) - 1)).toNat < q57.length))) rfl ?_; clear hE a; intro a hE
            refine QL.v hE (runs_plain rfl) (Gives.load1 hE rfl (fun w h => St.vecSees h 1 rfl ((w64 (((q57.length : Nat) : Int) - 1)).toNat * 1) _ hget170) ty9) rfl ?_; clear hE a; intro a hE
            refine QL.v hE (runs_plain rfl) (Gives.lenS hE rfl st9) rfl ?_; clear hE a; intro a hE
            refine QL.v hE (runs_plain rfl) (Gives.p hE rfl) rfl ?_; clear hE a; intro a hE
            obtain ⟨x171, hx172, hr⟩ := bindS hr
            refine QL.v hE (runs_plain rfl) (Gives.cutSH hE st9 rfl rfl hx172) rfl ?_; clear hE a; intro a hE
            refine QL.v hE (runs_plain rfl) (Gives.p hE rfl) rfl ?_; clear hE a; intro a hE
            obtain ⟨q173, hq174, hr⟩ := bindS hr
            refine QL.fnq hE (fun w hS => Fishref2VerifyOf_ok hS  hq174) (runs_plain rfl) bd58 rfl rfl rfl ?_; clear hE a; intro a hE
            refine QL.v hE (runs_plain rfl) (Gives.p hE rfl) rfl ?_; clear hE a; intro a hE
            refine QL.nil ?_; clear hS w; intro w hS
            refine W.cond hE rfl (fun hc175 => ?_) (fun hc175 => ?_)
            · replace hr := iteT hc175 hr
              refine W.seq ?_
              refine W.region ?_
              refine WL.vS hS hE (runs_plain rfl) (Gives.build hE (vs := []) [.int .i64 0, .int .i64 0, .int .i64 0, .int .i64 0, .int .i64 0, .slice none 0 0] rfl (by kernel_rfl)) rfl ?_; clear hE a; intro a hE
              refine WL.storeI hE hS 2 rfl [.int .i64 0, .int .i64 0, .int .i64 0, .int .i64 0, .int .i64 0, .slice none 0 0] (runs_plain rfl) rfl rfl rfl ty46 rfl rfl rfl rfl ?_; clear hE hS a w; intro a w hE hS
              refine WL.vS hS hE (runs_plain rfl) (Gives.p hE rfl) rfl ?_; clear hE a; intro a hE
              refine WL.nil ?_
              refine W.ret ?_
              refine finG (fn := Tryd.f19) (rs := [.cell 4 46, .tmp 5]) (vs := [_, _]) hE rfl ⟨⟨_, rfl, .inl ⟨_, rfl, hS.seesAt 2 rfl, ty46⟩⟩, rfl, trivial⟩ ?_
              obtain rfl := Option.some.inj hr
              replace hS := hS.tail
              replace hS := hS.tail
              replace hS := hS.tail
              replace hS := hS.tail
              exact ⟨_, s, rfl, (Sg.Le.refl _), ⟨_, _, rfl, Sl.nil⟩, hS⟩
            · replace hr := iteF hc175 hr
              refine W.skip ?_
              refine W.seq ?_
              have hF := hS.fixD RI.mono 0 rfl h109 rfl; clear hS; obtain ⟨s176, hle177, hS, h178⟩ := hF
              replace h61 := Ev.mono RS.mono hle177 h61
              replace h121 := Sl.mono RI.mono hle177 h121
              refine W.gen fun K179 hK179 => ?_
              refine W.regionE (sel (fun w => St w s176 (vecC 9 1 (some ⟨b59, 0, none⟩) q57.length q57.length cs60 :: pt b52 (.cells #[.int .i64 q113, .int .i64 q114, .int .i64 q115, .int .i64 q116, .int .i64 q117, .slice a119 q118.length c120] 46 (0, 0)) :: pt b51 (.cells (FareKey.cells x0).toArray 44 (0, 0)) :: R)) (fun w => St w s176 (vecC 9 1 (some ⟨b59, 0, none⟩) q57.length q57.length cs60 :: pt b52 (.cells #[.int .i64 q113, .int .i64 q114, .int .i64 q115, .int .i64 q116, .int .i64 q117, .slice a119 q118.length c120] 46 (0, 0)) :: pt b51 (.cells (FareKey.cells x0).toArray 44 (0, 0)) :: R))) (fun b i => cond b ([0, 1, 2, 3, 4, 5, 6, 7, 8, 9, 10, 11, 12, 13, 14, 15, 16, 17, 18, 19, 20, 21, 22].contains i) ([0, 1, 2, 3, 4, 5, 6, 7, 8, 9, 10, 11, 12, 13, 14, 15, 16, 17, 18, 19, 20, 21, 22].contains i)) mixed ?_
              replace hS := hS.drew
              refine Rg.takeP (i := 0) hE rfl (by kernel_rfl) (runs_plain rfl) (Gives.p hE rfl) rfl (tw_sel (fun _ => hS) (fun _ => hS)) ?_; clear hE a; intro a hE
              obtain ⟨x180, hx181, hr⟩ := bindS hr
              obtain ⟨hi182, hlt183, hy184⟩ := gx_some hx181
              obtain ⟨cs185, hl186, hR187, hat188⟩ := h178.at hy184
              subst hR187
              refine Rg.takeP (i := 1) hE rfl (by kernel_rfl) (runs_plain rfl) (Gives.idx hE ((0 : Int)).toNat rfl rfl sl23 hi182 hlt183 (h178.aok hlt183)) rfl (tw_sel (fun _ => hS) (fun _ => hS)) ?_; clear hE a; intro a hE
              have hT := tw_sel (A := fun w => St w s176 (vecC 9 1 (some ⟨b59, 0, none⟩) q57.length q57.length cs60 :: pt b52 (.cells #[.int .i64 q113, .int .i64 q114, .int .i64 q115, .int .i64 q116, .int .i64 q117, .slice a119 q118.length c120] 46 (0, 0)) :: pt b51 (.cells (FareKey.cells x0).toArray 44 (0, 0)) :: R)) (B := fun w => St w s176 (vecC 9 1 (some ⟨b59, 0, none⟩) q57.length q57.length cs60 :: pt b52 (.cells #[.int .i64 q113, .int .i64 q114, .int .i64 q115, .int .i64 q116, .int .i64 q117, .slice a119 q118.length c120] 46 (0, 0)) :: pt b51 (.cells (FareKey.cells x0).toArray 44 (0, 0)) :: R)) (w := _) (x := true) (y := true) (fun _ => hS) (fun _ => hS)
              have hF := hS; replace hS := hS
              refine Rg.take (i := 2) true rfl hE rfl (by kernel_rfl) (runs_plain rfl) (Gives.load1 hE rfl (fun w h => hat188 w _ h) ty3) rfl hT ?_; clear hE a; intro a hE
              replace hS := hF; clear hF hT
              refine Rg.takeP (i := 3) hE rfl (by kernel_rfl) (runs_plain rfl) (Gives.p hE rfl) rfl (tw_sel (fun _ => hS) (fun _ => hS)) ?_; clear hE a; intro a hE
              obtain ⟨x189, hx190, hr⟩ := bindS hr
              obtain ⟨hi191, hlt192, hy193⟩ := gx_some hx190
              obtain ⟨cs194, hl195, hR196, hat197⟩ := h178.at hy193
              subst hR196
              refine Rg.takeP (i := 4) hE rfl (by kernel_rfl) (runs_plain rfl) (Gives.idx hE ((1 : Int)).toNat rfl rfl sl23 hi191 hlt192 (h178.aok hlt192)) rfl (tw_sel (fun _ => hS) (fun _ => hS)) ?_; clear hE a; intro a hE
              have hT := tw_sel (A := fun w => St w s176 (vecC 9 1 (some ⟨b59, 0, none⟩) q57.length q57.length cs60 :: pt b52 (.cells #[.int .i64 q113, .int .i64 q114, .int .i64 q115, .int .i64 q116, .int .i64 q117, .slice a119 q118.length c120] 46 (0, 0)) :: pt b51 (.cells (FareKey.cells x0).toArray 44 (0, 0)) :: R)) (B := fun w => St w s176 (vecC 9 1 (some ⟨b59, 0, none⟩) q57.length q57.length cs60 :: pt b52 (.cells #[.int .i64 q113, .int .i64 q114, .int .i64 q115, .int .i64 q116, .int .i64 q117, .slice a119 q118.length c120] 46 (0, 0)) :: pt b51 (.cells (FareKey.cells x0).toArray 44 (0, 0)) :: R)) (w := _) (x := true) (y := true) (fun _ => hS) (fun _ => hS)
              have hF := hS; replace hS := hS
              refine Rg.take (i := 5) true rfl hE rfl (by kernel_rfl) (runs_plain rfl) (Gives.load1 hE rfl (fun w h => hat197 w _ h) ty3) rfl hT ?_; clear hE a; intro a hE
              replace hS := hF; clear hF hT
              refine Rg.takeP (i := 6) hE rfl (by kernel_rfl) (runs_plain rfl) (Gives.p hE rfl) rfl (tw_sel (fun _ => hS) (fun _ => hS)) ?_; clear hE a; intro a hE
              obtain ⟨x198, hx199, hr⟩ := bindS hr
              obtain ⟨hi200, hlt201, hy202⟩ := gx_some hx199
              obtain ⟨cs203, hl204, hR205, hat206⟩ := h178.at hy202
              subst hR205
              refine Rg.takeP (i := 7) hE rfl (by kernel_rfl) (runs_plain rfl) (Gives.idx hE ((2 : Int)).toNat rfl rfl sl23 hi200 hlt201 (h178.aok hlt201)) rfl (tw_sel (fun _ => hS) (fun _ => hS)) ?_; clear hE a; intro a hE
              have hT := tw_sel (A := fun w => St w s176 (vecC 9 1 (some ⟨b59, 0, none⟩) q57.length q57.length cs60 :: pt b52 (.cells #[.int .i64 q113, .int .i64 q114, .int .i64 q115, .int .i64 q116, .int .i64 q117, .slice a119 q118.length c120] 46 (0, 0)) :: pt b51 (.cells (FareKey.cells x0).toArray 44 (0, 0)) :: R)) (B := fun w => St w s176 (vecC 9 1 (some ⟨b59, 0, none⟩) q57.length q57.length cs60 :: pt b52 (.cells #[.int .i64 q113, .int .i64 q114, .int .i64 q115, .int .i64 q116, .int .i64 q117, .slice a119 q118.length c120] 46 (0, 0)) :: pt b51 (.cells (FareKey.cells x0).toArray 44 (0, 0)) :: R)) (w := _) (x := true) (y := true) (fun _ => hS) (fun _ => hS)
              have hF := hS; replace hS := hS
              refine Rg.take (i := 8) true rfl hE rfl (by kernel_rfl) (runs_plain rfl) (Gives.load1 hE rfl (fun w h => hat206 w _ h) ty3) rfl hT ?_; clear hE a; intro a hE
              replace hS := hF; clear hF hT
              refine Rg.takeP (i := 9) hE rfl (by kernel_rfl) (runs_plain rfl) (Gives.p hE rfl) rfl (tw_sel (fun _ => hS) (fun _ => hS)) ?_; clear hE a; intro a hE
              obtain ⟨x207, hx208, hr⟩ := bindS hr
              obtain ⟨hi209, hlt210, hy211⟩ := gx_some hx208
              obtain ⟨cs212, hl213, hR214, hat215⟩ := h178.at hy211
              subst hR214
              refine Rg.takeP (i := 10) hE rfl (by kernel_rfl) (runs_plain rfl) (Gives.idx hE ((3 : Int)).toNat rfl rfl sl23 hi209 hlt210 (h178.aok hlt210)) rfl (tw_sel (fun _ => hS) (fun _ => hS)) ?_; clear hE a; intro a hE
              have hT := tw_sel (A := fun w => St w s176 (vecC 9 1 (some ⟨b59, 0, none⟩) q57.length q57.length cs60 :: pt b52 (.cells #[.int .i64 q113, .int .i64 q114, .int .i64 q115, .int .i64 q116, .int .i64 q117, .slice a119 q118.length c120] 46 (0, 0)) :: pt b51 (.cells (FareKey.cells x0).toArray 44 (0, 0)) :: R)) (B := fun w => St w s176 (vecC 9 1 (some ⟨b59, 0, none⟩) q57.length q57.length cs60 :: pt b52 (.cells #[.int .i64 q113, .int .i64 q114, .int .i64 q115, .int .i64 q116, .int .i64 q117, .slice a119 q118.length c120] 46 (0, 0)) :: pt b51 (.cells (FareKey.cells x0).toArray 44 (0, 0)) :: R)) (w := _) (x := true) (y := true) (fun _ => hS) (fun _ => hS)
              have hF := hS; replace hS := hS
              refine Rg.take (i := 11) true rfl hE rfl (by kernel_rfl) (runs_plain rfl) (Gives.load1 hE rfl (fun w h => hat215 w _ h) ty3) rfl hT ?_; clear hE a; intro a hE
              replace hS := hF; clear hF hT
              refine Rg.takeP (i := 12) hE rfl (by kernel_rfl) (runs_plain rfl) (Gives.p hE rfl) rfl (tw_sel (fun _ => hS) (fun _ => hS)) ?_; clear hE a; intro a hE
              obtain ⟨x216, hx217, hr⟩ := bindS hr
              obtain ⟨hi218, hlt219, hy220⟩ := gx_some hx217
              obtain ⟨cs221, hl222, hR223, hat224⟩ := h178.at hy220
              subst hR223
              refine Rg.takeP (i := 13) hE rfl (by kernel_rfl) (runs_plain rfl) (Gives.idx hE ((4 : Int)).toNat rfl rfl sl23 hi218 hlt219 (h178.aok hlt219)) rfl (tw_sel (fun _ => hS) (fun _ => hS)) ?_; clear hE a; intro a hE
              have hT := tw_sel (A := fun w => St w s176 (vecC 9 1 (some ⟨b59, 0, none⟩) q57.length q57.length cs60 :: pt b52 (.cells #[.int .i64 q113, .int .i64 q114, .int .i64 q115, .int .i64 q116, .int .i64 q117, .slice a119 q118.length c120] 46 (0, 0)) :: pt b51 (.cells (FareKey.cells x0).toArray 44 (0, 0)) :: R)) (B := fun w => St w s176 (vecC 9 1 (some ⟨b59, 0, none⟩) q57.length q57.length cs60 :: pt b52 (.cells #[.int .i64 q113, .int .i64 q114, .int .i64 q115, .int .i64 q116, .int .i64 q117, .slice a119 q118.length c120] 46 (0, 0)) :: pt b51 (.cells (FareKey.cells x0).toArray 44 (0, 0)) :: R)) (w := _) (x := true) (y := true) (fun _ => hS) (fun _ => hS)
              have hF := hS; replace hS := hS
              refine Rg.take (i := 14) true rfl hE rfl (by kernel_rfl) (runs_plain rfl) (Gives.load1 hE rfl (fun w h => hat224 w _ h) ty3) rfl hT ?_; clear hE a; intro a hE
              replace hS := hF; clear hF hT
              refine Rg.takeP (i := 15) hE rfl (by kernel_rfl) (runs_plain rfl) (Gives.p hE rfl) rfl (tw_sel (fun _ => hS) (fun _ => hS)) ?_; clear hE a; intro a hE
              refine Rg.takeP (i := 16) hE rfl (by kernel_rfl) (runs_plain rfl) (Gives.p hE rfl) rfl (tw_sel (fun _ => hS) (fun _ => hS)) ?_; clear hE a; intro a hE
              refine Rg.takeP (i := 17) hE rfl (by kernel_rfl) (runs_plain rfl) (Gives.len hE rfl sl23) rfl (tw_sel (fun _ => hS) (fun _ => hS)) ?_; clear hE a; intro a hE
              refine Rg.takeP (i := 18) hE rfl (by kernel_rfl) (runs_plain rfl) (Gives.p hE rfl) rfl (tw_sel (fun _ => hS) (fun _ => hS)) ?_; clear hE a; intro a hE
              have hT := tw_sel (A := fun w => St w s176 (vecC 9 1 (some ⟨b59, 0, none⟩) q57.length q57.length cs60 :: pt b52 (.cells #[.int .i64 q113, .int .i64 q114, .int .i64 q115, .int .i64 q116, .int .i64 q117, .slice a119 q118.length c120] 46 (0, 0)) :: pt b51 (.cells (FareKey.cells x0).toArray 44 (0, 0)) :: R)) (B := fun w => St w s176 (vecC 9 1 (some ⟨b59, 0, none⟩) q57.length q57.length cs60 :: pt b52 (.cells #[.int .i64 q113, .int .i64 q114, .int .i64 q115, .int .i64 q116, .int .i64 q117, .slice a119 q118.length c120] 46 (0, 0)) :: pt b51 (.cells (FareKey.cells x0).toArray 44 (0, 0)) :: R)) (w := _) (x := true) (y := true) (fun _ => hS) (fun _ => hS)
              have hF := hS; replace hS := hS
              obtain ⟨x225, hx226, hr⟩ := bindS hr
              obtain ⟨a227, c228, heq229, h230⟩ := h178.cut hx226
              obtain ⟨h231, h232, h233, _⟩ := cutl_some hx226
              refine Rg.take (i := 19) true rfl hE rfl (by kernel_rfl) (runs_plain rfl) (Gives.slLH hE sl23 rfl rfl rfl h231 h232 (Int.le_trans h233 (by have := h178.len; omega)) heq229) rfl hT ?_; clear hE a; intro a hE
              replace hS := hF; clear hF hT
              refine Rg.takeP (i := 20) hE rfl (by kernel_rfl) (runs_plain rfl) (Gives.build hE (vs := [(0, .int .i64 x180), (1, .int .i64 x189), (2, .int .i64 x198), (3, .int .i64 x207), (4, .int .i64 x216), (5, .slice a227 x225.length c228)]) [.int .i64 x180, .int .i64 x189, .int .i64 x198, .int .i64 x207, .int .i64 x216, .slice a227 x225.length c228] rfl (by kernel_rfl)) rfl (tw_sel (fun _ => hS) (fun _ => hS)) ?_; clear hE a; intro a hE
              refine Rg.one (i := 21) true true rfl (by kernel_rfl) (by kernel_rfl) (by kernel_rfl) ?_
              refine WL.alloc hE hS (runs_plain rfl) zr46 rfl ?_; clear hE hS a w; intro b234 a w hE hS
              refine WL.nil ?_
              refine ⟨⟨fun _ => (hS.tail), fun _ => (hS.tail)⟩, ?_⟩
              refine Rg.one (i := 22) true true rfl (by kernel_rfl) (by kernel_rfl) (by kernel_rfl) ?_
              refine WL.storeI hE hS 0 rfl [.int .i64 x180, .int .i64 x189, .int .i64 x198, .int .i64 x207, .int .i64 x216, .slice a227 x225.length c228] (runs_plain rfl) rfl rfl rfl ty46 rfl rfl rfl rfl ?_; clear hE hS a w; intro a w hE hS
              refine WL.nil ?_
              refine ⟨⟨fun _ => (hS.tail), fun _ => (hS.tail)⟩, ?_⟩
              refine Rg.done (by kernel_rfl) ?_
              subst hK179
              refine W.seq ?_
              refine W.seq ?_
              refine W.region ?_
              refine WL.vS hS hE (runs_plain rfl) (Gives.loadBA hE 0 rfl rfl ty46) rfl ?_; clear hE a; intro a hE
              obtain ⟨q235, hq236, hr⟩ := bindS hr
              have hc_ := Fishref2TicketFault_ok hS h230 hq236
              refine WL.fnq hE (hc_) (runs_plain rfl) bd59 rfl rfl rfl ?_
              clear hE hS hc_; rintro e w ⟨rfl, hS⟩; refine ⟨_, rfl, ?_⟩; clear a; intro a hE
              refine WL.vS hS hE (runs_plain rfl) (Gives.p hE rfl) rfl ?_; clear hE a; intro a hE
              refine WL.nil ?_
              refine W.seq ?_
              refine W.region ?_
              refine WL.vS hS hE (runs_plain rfl) (Gives.p hE rfl) rfl ?_; clear hE a; intro a hE
              refine WL.vS hS hE (runs_plain rfl) (Gives.p hE rfl) rfl ?_; clear hE a; intro a hE
              refine WL.nil ?_
              refine W.cond hE rfl (fun hc237 => ?_) (fun hc237 => ?_)
              · replace hr := iteT hc237 hr
                refine W.seq ?_
                refine W.region ?_
                refine WL.vS hS hE (runs_plain rfl) (Gives.build hE (vs := []) [.int .i64 0, .int .i64 0, .int .i64 0, .int .i64 0, .int .i64 0, .slice none 0 0] rfl (by kernel_rfl)) rfl ?_; clear hE a; intro a hE
                refine WL.vS hS hE (runs_plain rfl) (Gives.p hE rfl) rfl ?_; clear hE a; intro a hE
                refine WL.storeI hE hS 2 rfl [.int .i64 0, .int .i64 0, .int .i64 0, .int .i64 0, .int .i64 0, .slice none 0 0] (runs_plain rfl) rfl rfl rfl ty46 rfl rfl rfl rfl ?_; clear hE hS a w; intro a w hE hS
                refine WL.vS hS hE (runs_plain rfl) (Gives.p hE rfl) rfl ?_; clear hE a; intro a hE
                refine WL.nil ?_
                refine W.ret ?_
                refine finG (fn := Tryd.f19) (rs := [.cell 4 46, .tmp 5]) (vs := [_, _]) hE rfl ⟨⟨_, rfl, .inl ⟨_, rfl, hS.seesAt 2 rfl, ty46⟩⟩, rfl, trivial⟩ ?_
                obtain rfl := Option.some.inj hr
                replace hS := hS.tail
                replace hS := hS.tail
                replace hS := hS.tail
                replace hS := hS.tail
                exact ⟨_, s176, rfl, hle177, ⟨_, _, rfl, Sl.nil⟩, hS⟩
              · replace hr := iteF hc237 hr
                refine W.skip ?_
                refine W.seq ?_
                refine W.region ?_
                refine WL.vS hS hE (runs_plain rfl) (Gives.loadBA hE 0 rfl rfl ty46) rfl ?_; clear hE a; intro a hE
                refine WL.storeI hE hS 2 rfl [.int .i64 x180, .int .i64 x189, .int .i64 x198, .int .i64 x207, .int .i64 x216, .slice a227 x225.length c228] (runs_plain rfl) rfl rfl rfl ty46 rfl rfl rfl rfl ?_; clear hE hS a w; intro a w hE hS
                refine WL.vS hS hE (runs_plain rfl) (Gives.p hE rfl) rfl ?_; clear hE a; intro a hE
                refine WL.nil ?_
                refine W.ret ?_
                refine finG (fn := Tryd.f19) (rs := [.cell 4 46, .tmp 5]) (vs := [_, _]) hE rfl ⟨⟨_, rfl, .inl ⟨_, rfl, hS.seesAt 2 rfl, ty46⟩⟩, rfl, trivial⟩ ?_
                obtain rfl := Option.some.inj hr
                replace hS := hS.tail
                replace hS := hS.tail
                replace hS := hS.tail
                replace hS := hS.tail
                exact ⟨_, s176, rfl, hle177, ⟨_, _, rfl, h230⟩, hS⟩
set_option maxHeartbeats 8000000 in
theorem FareCondsize_ok : ∀ {fu : Nat} {w : World} {s : Sg} {R : List HP} {x0 : FareCond} {a0_0 : Option Addr} {c0_0 : Nat} (_hS : St w s (R)) (_h0_0 : Sl 4 RFareCond s a0_0 c0_0 x0.Kids) {r : Int × Int} (_hr : FareCondsize fu x0 = some r),
    Calls Tryd.prog 134 [.agg (List.toArray [.int .i64 x0.Kind, .int .i64 x0.A, .int .i64 x0.B, .slice a0_0 x0.Kids.length c0_0])].toArray w (fun e w => e = .returned (.tuple #[.int .i64 r.1, .int .i64 r.2]) ∧ St w s (R)) := by
  intro fu
  induction fu with
  | zero => intro w s R x0 a0_0 c0_0 hS h0_0 r hr; rw [FareCondsize] at hr; exact absurd hr (by simp)
  | succ fu ih_FareCondsize =>
    intro w s R x0 a0_0 c0_0 hS h0_0 r hr
    rw [FareCondsize] at hr
    generalize FareCondsize fu = self_FareCondsize at hr ih_FareCondsize
    refine enter Tryd.func134 rfl rfl rfl fun a hE => ?_
    refine W.seq ?_
    refine W.region ?_
    refine WL.box hE hS (runs_plain rfl) rfl rfl rfl ?_; clear hE hS a w; intro b51 a w hE hS
    refine WL.vS hS hE (runs_plain rfl) (Gives.p hE rfl) rfl ?_; clear hE a; intro a hE
    refine WL.vS hS hE (runs_plain rfl) (Gives.p hE rfl) rfl ?_; clear hE a; intro a hE
    refine WL.nil ?_
    refine W.seq ?_
    refine W.region ?_
    refine WL.vS hS hE (runs_plain rfl) (Gives.p hE rfl) rfl ?_; clear hE a; intro a hE
    refine WL.nil ?_
    refine W.seq ?_
    refine W.seq ?_
    refine W.region ?_
    refine WL.vS hS hE (runs_plain rfl) (Gives.fld hE rfl fl118_3) rfl ?_; clear hE a; intro a hE
    refine WL.vS hS hE (runs_plain rfl) (Gives.loadB hE 0 rfl rfl rfl ty116) rfl ?_; clear hE a; intro a hE
    refine WL.vS hS hE (runs_plain rfl) (Gives.len hE rfl sl116) rfl ?_; clear hE a; intro a hE
    refine WL.vS hS hE (runs_plain rfl) (Gives.p hE rfl) rfl ?_; clear hE a; intro a hE
    refine WL.nil ?_
    obtain ⟨q53, hq52, hr⟩ := bindS hr
    refine W.cut (fun a w => ∃ (q63 : Int), ∃ (q64 : Int), (q63, q64) = q53 ∧ Rep a 30 [(2, .int .i64 q63), (3, .int .i64 q64)] ∧ St w s (pt b51 (.cells #[.int .i64 x0.Kind, .int .i64 x0.A, .int .i64 x0.B, .slice a0_0 x0.Kids.length c0_0] 118 (0, 0)) :: R)) ?_ ?_
    · refine W.block ?_
      refine W.loop (fun m a w => ∃ (rest56 : List FareCond) (k54 : Nat), ∃ (q63 : Int), ∃ (q64 : Int), rest56.length = m ∧ x0.Kids.drop k54 = rest56 ∧ FareCondsize.loop1 self_FareCondsize rest56 q63 q64 = some q53 ∧ Rep a 30 [(2, .int .i64 q63), (3, .int .i64 q64), (9, .slice a0_0 x0.Kids.length c0_0), (10, .int .i64 ((x0.Kids).length : Int)), (11, .int .i64 ((k54 : Nat) : Int))] ∧ St w s (pt b51 (.cells #[.int .i64 x0.Kind, .int .i64 x0.A, .int .i64 x0.B, .slice a0_0 x0.Kids.length c0_0] 118 (0, 0)) :: R)) (m := x0.Kids.length) ⟨x0.Kids, 0, 1, 0, rfl, rfl, hq52, hE.pick _ ⟨rfl, rfl, rfl, rfl, rfl, trivial⟩, hS⟩ ?_
      clear hE hS a w hq52; rintro m60 a w ⟨rest56, k54, q63, q64, rfl, hd57, hq52, hE, hS⟩
      refine W.gen fun K65 hK65 => ?_
      rcases rest56 with _ | ⟨x55, rest56⟩
      · have hlt58 := drop_nil hd57
        refine W.seq ?_
        refine W.region ?_
        refine WL.vS hS hE (runs_plain rfl) (Gives.p hE rfl) rfl ?_; clear hE a; intro a hE
        refine WL.nil ?_
        refine W.seq ?_
        refine W.condF hE rfl (decide_eq_false (by omega)) ?_
        subst hK65
        refine W.exit rfl ?_
        exact ⟨q63, q64, Option.some.inj hq52, hE.pick _ ⟨rfl, rfl, trivial⟩, hS⟩
      · obtain ⟨hlt58, hx59, hd57⟩ := drop_cons hd57
        rw [FareCondsize.loop1] at hq52
        refine W.seq ?_
        refine W.region ?_
        refine WL.vS hS hE (runs_plain rfl) (Gives.p hE rfl) rfl ?_; clear hE a; intro a hE
        refine WL.nil ?_
        refine W.seq ?_
        refine W.condT hE rfl (decide_eq_true (by omega)) ?_
        refine W.skip ?_
        refine W.seq ?_
        refine W.block ?_
        refine W.seq ?_
        refine W.region ?_
        obtain ⟨cs66, hl67, hR68, hat69⟩ := h0_0.at hx59
        obtain ⟨a70, c71, rfl, h72⟩ := hR68.unf
        refine WL.vS hS hE (runs_plain rfl) (Gives.idx hE k54 rfl rfl sl116 rfl hlt58 (h0_0.aok hlt58)) rfl ?_; clear hE a; intro a hE
        refine WL.vS hS hE (runs_plain rfl) (Gives.loadA hE rfl (fun w h => hat69 w _ h) ty118) rfl ?_; clear hE a; intro a hE
        refine WL.alloc hE hS (runs_plain rfl) zr118 rfl ?_; clear hE hS a w; intro b73 a w hE hS
        refine WL.storeI hE hS 0 rfl [.int .i64 x55.Kind, .int .i64 x55.A, .int .i64 x55.B, .slice a70 x55.Kids.length c71] (runs_plain rfl) rfl rfl rfl ty118 rfl rfl rfl rfl ?_; clear hE hS a w; intro a w hE hS
        refine WL.nil ?_
        refine W.seq ?_
        refine W.region ?_
        refine WL.vS hS hE (runs_plain rfl) (Gives.loadBA hE 0 rfl rfl ty118) rfl ?_; clear hE a; intro a hE
        obtain ⟨q74, hq75, hq52⟩ := bindS hq52
        have hc_ := ih_FareCondsize hS h72 hq75
        refine WL.fnq hE (hc_) (runs_plain rfl) bd134 rfl rfl rfl ?_
        clear hE hS hc_; rintro e w ⟨rfl, hS⟩; refine ⟨_, rfl, ?_⟩; clear a; intro a hE
        refine WL.vS hS hE (runs_plain rfl) (Gives.p hE rfl) rfl ?_; clear hE a; intro a hE
        refine WL.vS hS hE (runs_plain rfl) (Gives.p hE rfl) rfl ?_; clear hE a; intro a hE
        refine WL.vS hS hE (runs_plain rfl) (Gives.p hE rfl) rfl ?_; clear hE a; intro a hE
        refine WL.vS hS hE (runs_plain rfl) (Gives.p hE rfl) rfl ?_; clear hE a; intro a hE
        refine WL.vS hS hE (runs_plain rfl) (Gives.p hE rfl) rfl ?_; clear hE a; intro a hE
        refine WL.nil ?_
        refine W.seq ?_
        refine W.region ?_
        refine WL.vS hS hE (runs_plain rfl) (Gives.p hE rfl) rfl ?_; clear hE a; intro a hE
        refine WL.vS hS hE (runs_plain rfl) (Gives.p hE rfl) rfl ?_; clear hE a; intro a hE
        refine WL.vS hS hE (runs_plain rfl) (Gives.p hE rfl) rfl ?_; clear hE a; intro a hE
        refine WL.vS hS hE (runs_plain rfl) (Gives.p hE rfl) rfl ?_; clear hE a; intro a hE
        refine WL.nil ?_
        refine W.region ?_
        refine WL.vS hS hE (runs_plain rfl) (Gives.p hE rfl) rfl ?_; clear hE a; intro a hE
        refine WL.vS hS hE (runs_plain rfl) (Gives.p hE rfl) rfl ?_; clear hE a; intro a hE
        refine WL.vS hS hE (runs_plain rfl) (Gives.max2 hE rfl rfl) rfl ?_; clear hE a; intro a hE
        refine WL.vS hS hE (runs_plain rfl) (Gives.p hE rfl) rfl ?_; clear hE a; intro a hE
        refine WL.nil ?_
        refine W.region ?_
        refine WL.vS hS hE (runs_plain rfl) (Gives.inc hE rfl (by have := h0_0.small; omega)) rfl ?_; clear hE a; intro a hE
        refine WL.vS hS hE (runs_plain rfl) (Gives.p hE rfl) rfl ?_; clear hE a; intro a hE
        refine WL.nil ?_
        replace hS := hS.tail
        subst hK65
        exact ⟨rest56.length, Nat.lt_succ_self _, rest56, k54 + 1, (w64 (q63 + q74.1)), (mx q64 q74.2), rfl, hd57, hq52, hE.pick _ ⟨rfl, rfl, rfl, rfl, rfl, trivial⟩, hS⟩
    · clear hE hS a w; rintro a w ⟨q63, q64, rfl, hE, hS⟩
      dsimp only at hr
      refine W.seq ?_
      refine W.region ?_
      refine WL.vS hS hE (runs_plain rfl) (Gives.p hE rfl) rfl ?_; clear hE a; intro a hE
      refine WL.vS hS hE (runs_plain rfl) (Gives.p hE rfl) rfl ?_; clear hE a; intro a hE
      refine WL.vS hS hE (runs_plain rfl) (Gives.p hE rfl) rfl ?_; clear hE a; intro a hE
      refine WL.vS hS hE (runs_plain rfl) (Gives.p hE rfl) rfl ?_; clear hE a; intro a hE
      refine WL.vS hS hE (runs_plain rfl) (Gives.p hE rfl) rfl ?_; clear hE a; intro a hE
      refine WL.nil ?_
      refine W.ret ?_
      refine finG (fn := Tryd.f134) (rs := [.tmp 2, .tmp 3]) (vs := [_, _]) hE rfl ⟨rfl, rfl, trivial⟩ ?_
      obtain rfl := Option.some.inj hr
      replace hS := hS.tail
      exact ⟨rfl, hS⟩
set_option maxHeartbeats 8000000 in
theorem Farenumbers_ok  {w : World} {s : Sg} {R : List HP} {x0 : Int} (hS : St w s (R))  {r : Int} (hr : Farenumbers x0 = r) :
    Calls Tryd.prog 158 [.int .i64 x0].toArray w (fun e w => e = .returned (.int .i64 r) ∧ St w s (R)) := by
  refine enter Tryd.func158 rfl rfl rfl fun a hE => ?_
  rw [Farenumbers] at hr
  refine W.seq ?_
  refine W.region ?_
  refine WL.vS hS hE (runs_plain rfl) (Gives.p hE rfl) rfl ?_; clear hE a; intro a hE
  refine WL.nil ?_
  refine W.seq ?_
  refine W.seq ?_
  refine W.region ?_
  refine WL.vS hS hE (runs_plain rfl) (Gives.p hE rfl) rfl ?_; clear hE a; intro a hE
  refine WL.nil ?_
  refine W.block ?_
  refine W.seq ?_
  refine W.seq ?_
  refine W.region ?_
  refine WL.vS hS hE (runs_plain rfl) (Gives.p hE rfl) rfl ?_; clear hE a; intro a hE
  refine WL.vS hS hE (runs_plain rfl) (Gives.p hE rfl) rfl ?_; clear hE a; intro a hE
  refine WL.nil ?_
  obtain ⟨q52, hq51, hr⟩ := bndS hr
  refine W.cut (fun a w => ∃ (q55 : Bool), q55 = q52 ∧ Rep a 13 [(3, .int .i64 x0), (4, .bool q55)] ∧ St w s (R)) ?_ ?_
  · refine W.gen fun K56 hK56 => ?_
    refine W.cond hE rfl (fun hc57 => ?_) (fun hc57 => ?_)
    · replace hq51 := iteT hc57 hq51
      refine W.skip ?_
      subst hK56
      exact ⟨(x0 == 2), hq51, hE.pick _ ⟨rfl, rfl, trivial⟩, hS⟩
    · replace hq51 := iteF hc57 hq51
      refine W.seq ?_
      refine W.region ?_
      refine WL.vS hS hE (runs_plain rfl) (Gives.p hE rfl) rfl ?_; clear hE a; intro a hE
      refine WL.vS hS hE (runs_plain rfl) (Gives.p hE rfl) rfl ?_; clear hE a; intro a hE
      refine WL.nil ?_
      obtain ⟨q59, hq58, hq51⟩ := bndS hq51
      refine W.cut (fun a w => ∃ (q62 : Bool), q62 = q59 ∧ Rep a 13 [(3, .int .i64 x0), (4, .bool q62)] ∧ St w s (R)) ?_ ?_
      · refine W.gen fun K63 hK63 => ?_
        refine W.cond hE rfl (fun hc64 => ?_) (fun hc64 => ?_)
        · replace hq58 := iteT hc64 hq58
          refine W.skip ?_
          subst hK63
          exact ⟨(x0 == 3), hq58, hE.pick _ ⟨rfl, rfl, trivial⟩, hS⟩
        · replace hq58 := iteF hc64 hq58
          refine W.seq ?_
          refine W.region ?_
          refine WL.vS hS hE (runs_plain rfl) (Gives.p hE rfl) rfl ?_; clear hE a; intro a hE
          refine WL.vS hS hE (runs_plain rfl) (Gives.p hE rfl) rfl ?_; clear hE a; intro a hE
          refine WL.nil ?_
          obtain ⟨q66, hq65, hq58⟩ := bndS hq58
          refine W.cut (fun a w => ∃ (q69 : Bool), q69 = q66 ∧ Rep a 13 [(3, .int .i64 x0), (4, .bool q69)] ∧ St w s (R)) ?_ ?_
          · refine W.gen fun K70 hK70 => ?_
            refine W.cond hE rfl (fun hc71 => ?_) (fun hc71 => ?_)
            · replace hq65 := iteT hc71 hq65
              refine W.skip ?_
              subst hK70
              exact ⟨(x0 == 4), hq65, hE.pick _ ⟨rfl, rfl, trivial⟩, hS⟩
            · replace hq65 := iteF hc71 hq65
              refine W.region ?_
              refine WL.vS hS hE (runs_plain rfl) (Gives.p hE rfl) rfl ?_; clear hE a; intro a hE
              refine WL.vS hS hE (runs_plain rfl) (Gives.p hE rfl) rfl ?_; clear hE a; intro a hE
              refine WL.nil ?_
              subst hK70
              exact ⟨(x0 == 5), hq65, hE.pick _ ⟨rfl, rfl, trivial⟩, hS⟩
          · clear hE hS a w; rintro a w ⟨q69, rfl, hE, hS⟩
            subst hK63
            exact ⟨q69, hq58, hE.pick _ ⟨rfl, rfl, trivial⟩, hS⟩
      · clear hE hS a w; rintro a w ⟨q62, rfl, hE, hS⟩
        subst hK56
        exact ⟨q62, hq51, hE.pick _ ⟨rfl, rfl, trivial⟩, hS⟩
  · clear hE hS a w; rintro a w ⟨q55, rfl, hE, hS⟩
    refine W.cond hE rfl (fun hc72 => ?_) (fun hc72 => ?_)
    · replace hr := iteT hc72 hr
      refine W.seq ?_
      refine W.region ?_
      refine WL.vS hS hE (runs_plain rfl) (Gives.p hE rfl) rfl ?_; clear hE a; intro a hE
      refine WL.nil ?_
      refine W.ret ?_
      refine finG (fn := Tryd.f158) (rs := [.tmp 2]) (vs := [_]) hE rfl ⟨rfl, trivial⟩ ?_
      subst hr
      exact ⟨rfl, hS⟩
    · replace hr := iteF hc72 hr
      refine W.seq ?_
      refine W.seq ?_
      refine W.region ?_
      refine WL.vS hS hE (runs_plain rfl) (Gives.p hE rfl) rfl ?_; clear hE a; intro a hE
      refine WL.vS hS hE (runs_plain rfl) (Gives.p hE rfl) rfl ?_; clear hE a; intro a hE
      refine WL.nil ?_
      obtain ⟨q74, hq73, hr⟩ := bndS hr
      refine W.cut (fun a w => ∃ (q77 : Bool), q77 = q74 ∧ Rep a 13 [(9, .bool q77)] ∧ St w s (R)) ?_ ?_
      · refine W.gen fun K78 hK78 => ?_
        refine W.cond hE rfl (fun hc79 => ?_) (fun hc79 => ?_)
        · replace hq73 := iteT hc79 hq73
          refine W.skip ?_
          subst hK78
          exact ⟨(x0 == 6), hq73, hE.pick _ ⟨rfl, trivial⟩, hS⟩
        · replace hq73 := iteF hc79 hq73
          refine W.seq ?_
          refine W.region ?_
          refine WL.vS hS hE (runs_plain rfl) (Gives.p hE rfl) rfl ?_; clear hE a; intro a hE
          refine WL.vS hS hE (runs_plain rfl) (Gives.p hE rfl) rfl ?_; clear hE a; intro a hE
          refine WL.nil ?_
          obtain ⟨q81, hq80, hq73⟩ := bndS hq73
          refine W.cut (fun a w => ∃ (q84 : Bool), q84 = q81 ∧ Rep a 13 [(9, .bool q84)] ∧ St w s (R)) ?_ ?_
          · refine W.gen fun K85 hK85 => ?_
            refine W.cond hE rfl (fun hc86 => ?_) (fun hc86 => ?_)
            · replace hq80 := iteT hc86 hq80
              refine W.skip ?_
              subst hK85
              exact ⟨(x0 == 7), hq80, hE.pick _ ⟨rfl, trivial⟩, hS⟩
            · replace hq80 := iteF hc86 hq80
              refine W.region ?_
              refine WL.vS hS hE (runs_plain rfl) (Gives.p hE rfl) rfl ?_; clear hE a; intro a hE
              refine WL.vS hS hE (runs_plain rfl) (Gives.p hE rfl) rfl ?_; clear hE a; intro a hE
              refine WL.nil ?_
              subst hK85
              exact ⟨(x0 == 8), hq80, hE.pick _ ⟨rfl, trivial⟩, hS⟩
          · clear hE hS a w; rintro a w ⟨q84, rfl, hE, hS⟩
            subst hK78
            exact ⟨q84, hq73, hE.pick _ ⟨rfl, trivial⟩, hS⟩
      · clear hE hS a w; rintro a w ⟨q77, rfl, hE, hS⟩
        refine W.cond hE rfl (fun hc87 => ?_) (fun hc87 => ?_)
        · replace hr := iteT hc87 hr
          refine W.seq ?_
          refine W.region ?_
          refine WL.vS hS hE (runs_plain rfl) (Gives.p hE rfl) rfl ?_; clear hE a; intro a hE
          refine WL.nil ?_
          refine W.ret ?_
          refine finG (fn := Tryd.f158) (rs := [.tmp 2]) (vs := [_]) hE rfl ⟨rfl, trivial⟩ ?_
          subst hr
          exact ⟨rfl, hS⟩
        · replace hr := iteF hc87 hr
          refine W.skip ?_
          refine W.seq ?_
          refine W.region ?_
          refine WL.vS hS hE (runs_plain rfl) (Gives.p hE rfl) rfl ?_; clear hE a; intro a hE
          refine WL.nil ?_
          refine W.ret ?_
          refine finG (fn := Tryd.f158) (rs := [.tmp 2]) (vs := [_]) hE rfl ⟨rfl, trivial⟩ ?_
          subst hr
          exact ⟨rfl, hS⟩
end Go.Proofs.YtledekclojpbbaaDoor
