/- The walks of the functions that PlanTexts reaches: each call comes to what its mirror says. The conditions are those of each contract. -/
import Derived.Test.YtledekclojpbbaaDoorProg
import Derived.Test.YtledekclojpbbaaDoorPlanTextsM
import Derived.Test.YtledekclojpbbaaDoorFpAllT
import Derived.Test.YtledekclojpbbaaDoorPlanTextsS
import Derived.Test.YtledekclojpbbaaDoorFpMapS
import Derived.Test.YtledekclojpbbaaDoorFpErr
import Derived.Test.YtledekclojpbbaaDoorFpHot
set_option maxRecDepth 10000
namespace Go.Proofs.YtledekclojpbbaaDoor
open Go Go.Fp
def HtApiTrain : Ob ApiTrain := fun s cs H x => ∃ (a2 : Option Addr) (c2 n2 : Nat) (cs2 : List Value) (a3 : Option Addr) (c3 n3 : Nat) (cs3 : List Value), cs = [.int .i64 x.No, .int .i64 x.Stock, .slice a2 n2 c2, .slice a3 n3 c3] ∧ H = allC [vecC 64 4 a2 c2 n2 cs2, vecC 23 1 a3 c3 n3 cs3] ∧ Ev 4 RApiStop s cs2 x.Stops ∧ x.Stops.length = n2 ∧ Ev 1 (RL 1 (RI .i64)) s cs3 x.Legs ∧ x.Legs.length = n3
theorem HtApiTrain.mono : Omono HtApiTrain := by
  rintro s t h cs H x ⟨a2, c2, n2, cs2, a3, c3, n3, cs3, e1, e2, h2, k2, h3, k3⟩
  exact ⟨a2, c2, n2, cs2, a3, c3, n3, cs3, e1, e2, h2.mono RApiStop.mono h, k2, h3.mono (RL.mono RI.mono) h, k3⟩
theorem HtApiTrain.calms : Calms HtApiTrain RApiTrain := by
  rintro s w R cs H x ⟨a2, c2, n2, cs2, a3, c3, n3, cs3, rfl, rfl, h2, k2, h3, k3⟩ hS
  replace hS := St.satOpen hS
  have q0 := Sg.Le.refl s
  obtain ⟨t2, l2, hS, g2⟩ := St.fixD RApiStop.mono 0 hS rfl h2 k2
  replace q0 := q0.trans l2
  replace h3 := h3.mono (RL.mono RI.mono) l2
  obtain ⟨t3, l3, hS, g3⟩ := St.fixD (RL.mono RI.mono) 0 hS rfl h3 k3
  replace q0 := q0.trans l3
  replace g2 := g2.mono RApiStop.mono l3
  subst k2
  subst k3
  exact ⟨t3, q0, hS, _, _, _, _, rfl, g2, g3⟩
theorem ap23 : apOk Tryd.prog 23 3 1 = true := by kernel_rfl
theorem ap30 : apOk Tryd.prog 30 67 4 = true := by kernel_rfl
theorem ap31 : apOk Tryd.prog 31 23 1 = true := by kernel_rfl
theorem ap65 : apOk Tryd.prog 65 64 4 = true := by kernel_rfl
theorem ap80 : apOk Tryd.prog 80 83 1 = true := by kernel_rfl
theorem bd10 : bodied Tryd.prog 10 = true := by kernel_rfl
theorem bd11 : bodied Tryd.prog 11 = true := by kernel_rfl
theorem bd12 : bodied Tryd.prog 12 = true := by kernel_rfl
theorem bd13 : bodied Tryd.prog 13 = true := by kernel_rfl
theorem bd14 : bodied Tryd.prog 14 = true := by kernel_rfl
theorem bd15 : bodied Tryd.prog 15 = true := by kernel_rfl
theorem bd16 : bodied Tryd.prog 16 = true := by kernel_rfl
theorem bd25 : bodied Tryd.prog 25 = true := by kernel_rfl
theorem bd30 : bodied Tryd.prog 30 = true := by kernel_rfl
theorem bd32 : bodied Tryd.prog 32 = true := by kernel_rfl
theorem bd33 : bodied Tryd.prog 33 = true := by kernel_rfl
theorem bd34 : bodied Tryd.prog 34 = true := by kernel_rfl
theorem bd35 : bodied Tryd.prog 35 = true := by kernel_rfl
theorem bd36 : bodied Tryd.prog 36 = true := by kernel_rfl
theorem bd37 : bodied Tryd.prog 37 = true := by kernel_rfl
theorem bd38 : bodied Tryd.prog 38 = true := by kernel_rfl
theorem bd39 : bodied Tryd.prog 39 = true := by kernel_rfl
theorem bd40 : bodied Tryd.prog 40 = true := by kernel_rfl
theorem bd41 : bodied Tryd.prog 41 = true := by kernel_rfl
theorem bd42 : bodied Tryd.prog 42 = true := by kernel_rfl
theorem bd43 : bodied Tryd.prog 43 = true := by kernel_rfl
theorem bd44 : bodied Tryd.prog 44 = true := by kernel_rfl
theorem bd45 : bodied Tryd.prog 45 = true := by kernel_rfl
theorem bd46 : bodied Tryd.prog 46 = true := by kernel_rfl
theorem bd55 : bodied Tryd.prog 55 = true := by kernel_rfl
theorem bd56 : bodied Tryd.prog 56 = true := by kernel_rfl
theorem bd69 : bodied Tryd.prog 69 = true := by kernel_rfl
theorem bd70 : bodied Tryd.prog 70 = true := by kernel_rfl
theorem bd72 : bodied Tryd.prog 72 = true := by kernel_rfl
theorem bd81 : bodied Tryd.prog 81 = true := by kernel_rfl
theorem bd83 : bodied Tryd.prog 83 = true := by kernel_rfl
theorem bd95 : bodied Tryd.prog 95 = true := by kernel_rfl
theorem bd97 : bodied Tryd.prog 97 = true := by kernel_rfl
theorem fl33_0 : fldOk Tryd.prog 33 0 0 = true := by kernel_rfl
theorem fl33_1 : fldOk Tryd.prog 33 1 1 = true := by kernel_rfl
theorem fl64_0 : fldOk Tryd.prog 64 0 0 = true := by kernel_rfl
theorem fl64_1 : fldOk Tryd.prog 64 1 1 = true := by kernel_rfl
theorem fl64_2 : fldOk Tryd.prog 64 2 2 = true := by kernel_rfl
theorem fl64_3 : fldOk Tryd.prog 64 3 3 = true := by kernel_rfl
theorem fl67_0 : fldOk Tryd.prog 67 0 0 = true := by kernel_rfl
theorem fl67_1 : fldOk Tryd.prog 67 1 1 = true := by kernel_rfl
theorem fl67_2 : fldOk Tryd.prog 67 2 2 = true := by kernel_rfl
theorem fl67_3 : fldOk Tryd.prog 67 3 3 = true := by kernel_rfl
theorem if73 : ifOk Tryd.prog 73 = true := by kernel_rfl
theorem mixed : Tryd.prog.follows .mixedOrders = true := by kernel_rfl
theorem se64 : stEqB Tryd.prog 64 [.i .i64, .i .i64, .i .i64, .i .i64] = true := by kernel_rfl
theorem sl23 : slOk Tryd.prog 23 3 1 = true := by kernel_rfl
theorem sl30 : slOk Tryd.prog 30 67 4 = true := by kernel_rfl
theorem sl31 : slOk Tryd.prog 31 23 1 = true := by kernel_rfl
theorem sl65 : slOk Tryd.prog 65 64 4 = true := by kernel_rfl
theorem sl80 : slOk Tryd.prog 80 83 1 = true := by kernel_rfl
theorem sl83 : slOk Tryd.prog 83 9 1 = true := by kernel_rfl
theorem st9 : stOk Tryd.prog 9 = true := by kernel_rfl
theorem ty23 : tyOk Tryd.prog 23 false 1 = true := by kernel_rfl
theorem ty3 : tyOk Tryd.prog 3 false 1 = true := by kernel_rfl
theorem ty30 : tyOk Tryd.prog 30 false 1 = true := by kernel_rfl
theorem ty31 : tyOk Tryd.prog 31 false 1 = true := by kernel_rfl
theorem ty33 : tyOk Tryd.prog 33 true 2 = true := by kernel_rfl
theorem ty4 : tyOk Tryd.prog 4 false 1 = true := by kernel_rfl
theorem ty64 : tyOk Tryd.prog 64 true 4 = true := by kernel_rfl
theorem ty65 : tyOk Tryd.prog 65 false 1 = true := by kernel_rfl
theorem ty67 : tyOk Tryd.prog 67 true 4 = true := by kernel_rfl
theorem ty83 : tyOk Tryd.prog 83 false 1 = true := by kernel_rfl
theorem ty9 : tyOk Tryd.prog 9 false 1 = true := by kernel_rfl
theorem zr33 : (Tryd.prog.info? 33).bind (fun i => i.zero.map fun z => z.cells.toList) = some [.slice none 0 0, .slice none 0 0] := by kernel_rfl
theorem zr4 : (Tryd.prog.info? 4).bind (fun i => i.zero.map fun z => z.cells.toList) = some [.bool false] := by kernel_rfl
theorem zr64 : (Tryd.prog.info? 64).bind (fun i => i.zero.map fun z => z.cells.toList) = some [.int .i64 0, .int .i64 0, .int .i64 0, .int .i64 0] := by kernel_rfl
theorem zr67 : (Tryd.prog.info? 67).bind (fun i => i.zero.map fun z => z.cells.toList) = some [.int .i64 0, .int .i64 0, .slice none 0 0, .slice none 0 0] := by kernel_rfl
theorem zr71 : (Tryd.prog.info? 71).bind (fun i => i.zero.map fun z => z.cells.toList) = some [.pointer none, .slice none 0 0] := by kernel_rfl
theorem zr9 : (Tryd.prog.info? 9).bind (fun i => i.zero.map fun z => z.cells.toList) = some [.string ByteArray.empty] := by kernel_rfl
abbrev TabX (s : Sg) : Prop := TabG Tryd.prog 0 2 3 s
theorem split_ok {w : World} {s : Sg} {R : List HP} {x y : ByteArray} {r : List ByteArray} (hS : St w s R) (hTab : TabX s) (hr : splitq x y = some r) : Calls Tryd.prog 56 [.string x, .string y].toArray w (fun e w => ∃ b cs, e = .returned (.slice (some ⟨b, 0, none⟩) r.length r.length) ∧ Ev 1 RS s cs r ∧ St w s (vecC 9 1 (some ⟨b, 0, none⟩) r.length r.length cs :: R)) := by
  obtain ⟨h0, h1, rfl⟩ := splitq_some hr
  obtain ⟨m, hm⟩ := hTab.max
  have hlen := Lib.splitB_all y h1 0 _ x rfl
  have hle := Lib.countB_le y h1 x.size x (Nat.le_refl _)
  refine (Tryd.strings_Split x y m w h0 (hm w R hS) h1).mono ?_
  rintro e w' ⟨rfl, rfl⟩
  refine ⟨w.heap.size, _, by rw [hlen], Ev.strs _, ?_⟩
  exact (hS.alloc _).ptVec (by simp) (by unfold maxLen; omega)
theorem atoi_ok {w : World} {s : Sg} {R : List HP} {x : ByteArray} {r : Int × Bool} (hS : St w s R) (hTab : TabX s) (hr : atoiq x = some r) : Calls Tryd.prog 83 [.string x].toArray w (fun e w => ∃ v, e = .returned (.tuple #[.int .i64 r.1, v]) ∧ ErrV v r.2 ∧ St w s R) := by
  unfold atoiq at hr
  split at hr
  · rename_i hz
    injection hr with hr
    subst hr
    cases h : Lib.atoiAll x.data.toList with
    | ok v =>
      refine (Tryd.strconv_Atoi_ok x (by omega) v h w).mono ?_
      rintro e w' ⟨rfl, hw⟩
      refine ⟨_, rfl, rfl, ?_⟩
      rcases hw with rfl | ⟨t, rfl⟩
      · exact hS
      · exact hS.frozen _ _
    | range =>
      obtain ⟨ev, h1, h2⟩ := hTab.ran
      refine (Tryd.strconv_Atoi_range x (by omega) h ev w (h1 w R hS) h2).mono ?_
      rintro e w' ⟨N, rfl, _, _, hB⟩
      exact ⟨_, rfl, ⟨_, _, rfl⟩, hS.grown hB⟩
    | _ =>
      obtain ⟨ev, h1, h2⟩ := hTab.syn
      refine (Tryd.strconv_Atoi_syntax x (by omega) h ev w (h1 w R hS) h2).mono ?_
      rintro e w' ⟨N, rfl, _, _, hB⟩
      exact ⟨_, rfl, ⟨_, _, rfl⟩, hS.grown hB⟩
  · cases hr
theorem sbmixed : Tryd.prog.follows .mixedOrders = true := by kernel_rfl
theorem sbty60 : tyOk Tryd.prog 68 false 1 = true := by kernel_rfl
theorem sbty61 : tyOk Tryd.prog 69 false 1 = true := by kernel_rfl
theorem sbfl0 : fldOk Tryd.prog 71 0 0 = true := by kernel_rfl
theorem sbfl1 : fldOk Tryd.prog 71 1 1 = true := by kernel_rfl
theorem sbap : apOk Tryd.prog 69 5 1 = true := by kernel_rfl
theorem sbsl : slOk Tryd.prog 69 5 1 = true := by kernel_rfl
theorem sbpt : ptOk Tryd.prog 68 71 = true := by kernel_rfl
theorem sbu60 : Tryd.prog.underlying 68 = some (.pointer 71) := by kernel_rfl
theorem sbu77 : Tryd.prog.underlying 154 = some .unsafePointer := by kernel_rfl
theorem sbu76 : Tryd.prog.underlying 132 = some (.pointer 5) := by kernel_rfl
theorem sbu9 : Tryd.prog.underlying 9 = some .string := by kernel_rfl
theorem sbst : stOk Tryd.prog 9 = true := by kernel_rfl
theorem sbc : Tryd.prog.cellsOf 71 = 2 := by kernel_rfl
theorem sbc5 : Tryd.prog.cellsOf 5 = 1 := by kernel_rfl
theorem sbi0 : (Tryd.prog.info? 71).map (·.size) = some 2 := by kernel_rfl
theorem sbi : ∃ j, Tryd.prog.info? 71 = some j ∧ j.size ≠ 0 := by
  have h := sbi0
  rw [Option.map_eq_some_iff] at h
  obtain ⟨j, h1, h2⟩ := h
  exact ⟨j, h1, by omega⟩
theorem sbsame : sameOk Tryd.prog 94 := ⟨_, rfl, by kernel_rfl, by kernel_rfl, by kernel_rfl, by kernel_rfl⟩
theorem sbbd : bodied Tryd.prog 68 = true := by kernel_rfl
section
variable {w : World} {s : Sg} {R : List HP} {b : Nat} {y : ByteArray}
theorem sbCheck_ok {f a : Option Addr} {c : Nat} (hf : f = none ∨ f = some ⟨b, 0, none⟩) (hS : St w s (pt b (.cells [.pointer f, .slice a y.size c].toArray 71 (0, 0)) :: R)) :
    Calls Tryd.prog 68 [.pointer (some ⟨b, 0, none⟩)].toArray w (fun e w => e = .returned (.tuple #[]) ∧ St w s (pt b (.cells [.pointer (some ⟨b, 0, none⟩), .slice a y.size c].toArray 71 (0, 0)) :: R)) := by
  obtain ⟨j, hj1, hj2⟩ := sbi
  refine enter Tryd.func68 rfl rfl rfl fun a hE => ?_
  refine W.seq ?_
  refine W.region ?_
  refine WL.vS hS hE (runs_plain rfl) (Gives.p hE rfl) rfl ?_; clear hE a; intro a hE
  refine WL.vS hS hE (runs_plain rfl) (Gives.nilOk hE rfl) rfl ?_; clear hE a; intro a hE
  refine WL.vS hS hE (runs_plain rfl) (Gives.fld hE rfl sbfl0) rfl ?_; clear hE a; intro a hE
  refine WL.vS hS hE (runs_plain rfl) (Gives.loadB hE 0 rfl rfl rfl sbty60) rfl ?_; clear hE a; intro a hE
  refine WL.vS hS hE (runs_plain rfl) (Gives.isNilP hE rfl rfl sbpt) rfl ?_; clear hE a; intro a hE
  refine WL.nil ?_
  refine W.cond hE rfl (fun hc => ?_) (fun hc => ?_)
  · refine W.region ?_
    refine WL.vS hS hE (runs_plain rfl) (Gives.p hE rfl) rfl ?_; clear hE a; intro a hE
    refine WL.vS hS hE (runs_plain rfl) (Gives.p hE rfl) rfl ?_; clear hE a; intro a hE
    refine WL.vS hS hE (runs_plain rfl) (Gives.toUnsafe hE 0 rfl rfl rfl sbu60 sbu77 hj1 hj2) rfl ?_; clear hE a; intro a hE
    refine WL.same hE sbsame (runs_plain rfl) rfl rfl ?_; clear hE a; intro a hE
    refine WL.vS hS hE (runs_plain rfl) (Gives.fromUnsafe hE 0 rfl rfl sbu77 sbu60 hj1 sbc rfl) rfl ?_; clear hE a; intro a hE
    refine WL.vS hS hE (runs_plain rfl) (Gives.nilOk hE rfl) rfl ?_; clear hE a; intro a hE
    refine WL.vS hS hE (runs_plain rfl) (Gives.fld hE rfl sbfl0) rfl ?_; clear hE a; intro a hE
    refine WL.storeI hE hS 0 rfl _ (runs_plain rfl) rfl rfl rfl sbty60 rfl rfl rfl rfl ?_; clear hE hS a; intro a w hE hS
    refine WL.nil ?_
    refine fin0 hE rfl ?_
    exact ⟨rfl, hS⟩
  · have hf' : f = some ⟨b, 0, none⟩ := by
      rcases hf with rfl | h
      · cases hc
      · exact h
    subst hf'
    refine W.seq ?_
    refine W.region ?_
    refine WL.vS hS hE (runs_plain rfl) (Gives.p hE rfl) rfl ?_; clear hE a; intro a hE
    refine WL.vS hS hE (runs_plain rfl) (Gives.nilOk hE rfl) rfl ?_; clear hE a; intro a hE
    refine WL.vS hS hE (runs_plain rfl) (Gives.fld hE rfl sbfl0) rfl ?_; clear hE a; intro a hE
    refine WL.vS hS hE (runs_plain rfl) (Gives.loadB hE 0 rfl rfl rfl sbty60) rfl ?_; clear hE a; intro a hE
    refine WL.vS hS hE (runs_plain rfl) (Gives.p hE rfl) rfl ?_; clear hE a; intro a hE
    refine WL.vS hS hE (runs_plain rfl) (Gives.neqSame hE rfl rfl sbu60 hj1) rfl ?_; clear hE a; intro a hE
    refine WL.nil ?_
    refine W.condF hE rfl rfl ?_
    refine W.skip ?_
    refine fin0 hE rfl ?_
    exact ⟨rfl, hS⟩

theorem sbWrite_ok {x r : ByteArray} (hS : St w s (sbC 71 5 b y :: R)) (hr : sbw y x = some r) :
    Calls Tryd.prog 34 [.pointer (some ⟨b, 0, none⟩), .string x].toArray w (fun e w => e = .returned (.tuple #[.int .i64 x.size, .nilIface]) ∧ St w s (sbC 71 5 b r :: R)) := by
  obtain ⟨h1, h2, rfl⟩ := sbw_some hr
  obtain ⟨f, sa, c, hf, ha, hS⟩ := hS.sbOpen
  refine enter Tryd.func34 rfl rfl rfl fun a hE => ?_
  refine W.seq ?_
  refine W.region ?_
  refine WL.vS hS hE (runs_plain rfl) (Gives.p hE rfl) rfl ?_; clear hE a; intro a hE
  refine WL.vS hS hE (runs_plain rfl) (Gives.p hE rfl) rfl ?_; clear hE a; intro a hE
  refine WL.nil ?_
  refine W.seq ?_
  refine W.region ?_
  refine WL.vS hS hE (runs_plain rfl) (Gives.p hE rfl) rfl ?_; clear hE a; intro a hE
  refine WL.fnq hE (sbCheck_ok hf hS) (runs_plain rfl) sbbd rfl rfl rfl ?_
  clear hE hS; rintro e w ⟨rfl, hS⟩; refine ⟨_, rfl, ?_⟩; clear a; intro a hE
  refine WL.nil ?_
  refine W.seq ?_
  refine W.region ?_
  refine WL.vS hS hE (runs_plain rfl) (Gives.p hE rfl) rfl ?_; clear hE a; intro a hE
  refine WL.vS hS hE (runs_plain rfl) (Gives.p hE rfl) rfl ?_; clear hE a; intro a hE
  refine WL.vS hS hE (runs_plain rfl) (Gives.nilOk hE rfl) rfl ?_; clear hE a; intro a hE
  refine WL.vS hS hE (runs_plain rfl) (Gives.fld hE rfl sbfl1) rfl ?_; clear hE a; intro a hE
  refine WL.vS hS hE (runs_plain rfl) (Gives.loadB hE 0 rfl rfl rfl sbty61) rfl ?_; clear hE a; intro a hE
  refine WL.vS hS hE (runs_plain rfl) (Gives.p hE rfl) rfl ?_; clear hE a; intro a hE
  refine WL.appStr hE hS 1 (runs_plain rfl) rfl rfl rfl sbap sbu9 h1 h2 ha.1 rfl ?_; clear hE hS a ha; intro sa2 c2 a w ha hE hS
  refine WL.vS hS hE (runs_plain rfl) (Gives.nilOk hE rfl) rfl ?_; clear hE a; intro a hE
  refine WL.vS hS hE (runs_plain rfl) (Gives.fld hE rfl sbfl1) rfl ?_; clear hE a; intro a hE
  refine WL.storeI hE hS 0 rfl _ (runs_plain rfl) rfl rfl rfl sbty61 rfl rfl rfl rfl ?_; clear hE hS a; intro a w hE hS
  refine WL.nil ?_
  refine W.seq ?_
  refine W.region ?_
  refine WL.vS hS hE (runs_plain rfl) (Gives.p hE rfl) rfl ?_; clear hE a; intro a hE
  refine WL.vS hS hE (runs_plain rfl) (Gives.lenS hE rfl sbst) rfl ?_; clear hE a; intro a hE
  refine WL.vS hS hE (runs_plain rfl) (Gives.p hE rfl) rfl ?_; clear hE a; intro a hE
  refine WL.vS hS hE (runs_plain rfl) (Gives.p hE rfl) rfl ?_; clear hE a; intro a hE
  refine WL.nil ?_
  refine W.ret ?_
  refine finG (fn := Tryd.f34) (rs := [.tmp 4, .tmp 5]) (vs := [_, _]) hE rfl ⟨rfl, rfl, trivial⟩ ?_
  refine ⟨rfl, St.sbClose (f := some ⟨b, 0, none⟩) (a := sa2) (c := c2) (.inr rfl) ha ?_⟩
  rw [ByteArray.size_append, byteCells_app]
  exact hS

theorem sbString_ok (hS : St w s (sbC 71 5 b y :: R)) :
    Calls Tryd.prog 36 [.pointer (some ⟨b, 0, none⟩)].toArray w (fun e w => e = .returned (.string y) ∧ St w s R) := by
  obtain ⟨f, sa, c, hf, ha, hS⟩ := hS.sbOpen
  refine enter Tryd.func36 rfl rfl rfl fun a hE => ?_
  refine W.seq ?_
  refine W.region ?_
  refine WL.vS hS hE (runs_plain rfl) (Gives.p hE rfl) rfl ?_; clear hE a; intro a hE
  refine WL.nil ?_
  refine W.seq ?_
  refine W.regionE (sel (fun w => St w s (pt b (.cells [.pointer f, .slice sa y.size c].toArray 71 (0, 0)) :: vecC 5 1 sa c y.size (byteCells y) :: R)) (fun w => St w s R)) (fun b i => cond b (!(i == 10)) true) sbmixed ?_
  replace hS := hS.drew
  refine Rg.takeP (i := 0) hE rfl (by kernel_rfl) (runs_plain rfl) (Gives.p hE rfl) rfl (tw_sel (fun _ => hS) (fun _ => hS.tail.tail)) ?_; clear hE a; intro a hE
  refine Rg.takeP (i := 5) hE rfl (by kernel_rfl) (runs_plain rfl) (Gives.p hE rfl) rfl (tw_sel (fun _ => hS) (fun _ => hS.tail.tail)) ?_; clear hE a; intro a hE
  refine Rg.takeP (i := 1) hE rfl (by kernel_rfl) (runs_plain rfl) (Gives.nilOk hE rfl) rfl (tw_sel (fun _ => hS) (fun _ => hS.tail.tail)) ?_; clear hE a; intro a hE
  refine Rg.takeP (i := 6) hE rfl (by kernel_rfl) (runs_plain rfl) (Gives.nilOk hE rfl) rfl (tw_sel (fun _ => hS) (fun _ => hS.tail.tail)) ?_; clear hE a; intro a hE
  refine Rg.takeP (i := 2) hE rfl (by kernel_rfl) (runs_plain rfl) (Gives.fld hE rfl sbfl1) rfl (tw_sel (fun _ => hS) (fun _ => hS.tail.tail)) ?_; clear hE a; intro a hE
  refine Rg.takeP (i := 7) hE rfl (by kernel_rfl) (runs_plain rfl) (Gives.fld hE rfl sbfl1) rfl (tw_sel (fun _ => hS) (fun _ => hS.tail.tail)) ?_; clear hE a; intro a hE
  refine Rg.two (i := 3) (j := 8) true true true true rfl rfl (by kernel_rfl) (by kernel_rfl) (by kernel_rfl) (by kernel_rfl) (by kernel_rfl) ?_ ?_
  · refine WL.vS hS hE (runs_plain rfl) (Gives.loadB hE 0 rfl rfl rfl sbty61) rfl ?_; clear hE a; intro a hE
    refine WL.nil ?_
    refine ⟨⟨fun _ => hS, fun _ => hS.tail.tail⟩, ?_⟩
    refine Rg.takeP (i := 4) hE rfl (by kernel_rfl) (runs_plain rfl) (Gives.sliceData hE rfl ha.2) rfl (tw_sel (fun _ => hS) (fun _ => hS.tail.tail)) ?_; clear hE a; intro a hE
    refine Rg.one (i := 8) true true rfl (by kernel_rfl) (by kernel_rfl) (by kernel_rfl) ?_
    refine WL.vS hS hE (runs_plain rfl) (Gives.loadB hE 0 rfl rfl rfl sbty61) rfl ?_; clear hE a; intro a hE
    refine WL.nil ?_
    refine ⟨⟨fun _ => hS, fun _ => hS.tail.tail⟩, ?_⟩
    refine Rg.takeP (i := 9) hE rfl (by kernel_rfl) (runs_plain rfl) (Gives.len hE rfl sbsl) rfl (tw_sel (fun _ => hS) (fun _ => hS.tail.tail)) ?_; clear hE a; intro a hE
    refine Rg.one (i := 10) false true rfl (by kernel_rfl) (by kernel_rfl) (by kernel_rfl) ?_
    refine WL.sbString hE hS 1 (runs_plain rfl) rfl rfl rfl ha.1 sbu76 sbc5 rfl ?_; clear hE hS a; intro a w hE hS
    refine WL.nil ?_
    refine ⟨⟨fun h => absurd h (by decide), fun _ => hS.tail⟩, ?_⟩
    refine Rg.takeP (i := 11) hE rfl (by kernel_rfl) (runs_plain rfl) (Gives.p hE rfl) rfl (tw_sel (fun h => absurd h (by decide)) (fun _ => hS.tail)) ?_; clear hE a; intro a hE
    refine Rg.done (by kernel_rfl) ?_
    refine W.ret ?_
    refine finG (fn := Tryd.f36) (rs := [.tmp 2]) (vs := [_]) hE rfl ⟨rfl, trivial⟩ ?_
    exact ⟨rfl, hS.tail⟩
  · refine WL.vS hS hE (runs_plain rfl) (Gives.loadB hE 0 rfl rfl rfl sbty61) rfl ?_; clear hE a; intro a hE
    refine WL.nil ?_
    refine ⟨⟨fun _ => hS, fun _ => hS.tail.tail⟩, ?_⟩
    refine Rg.takeP (i := 9) hE rfl (by kernel_rfl) (runs_plain rfl) (Gives.len hE rfl sbsl) rfl (tw_sel (fun _ => hS) (fun _ => hS.tail.tail)) ?_; clear hE a; intro a hE
    refine Rg.one (i := 3) true true rfl (by kernel_rfl) (by kernel_rfl) (by kernel_rfl) ?_
    refine WL.vS hS hE (runs_plain rfl) (Gives.loadB hE 0 rfl rfl rfl sbty61) rfl ?_; clear hE a; intro a hE
    refine WL.nil ?_
    refine ⟨⟨fun _ => hS, fun _ => hS.tail.tail⟩, ?_⟩
    refine Rg.takeP (i := 4) hE rfl (by kernel_rfl) (runs_plain rfl) (Gives.sliceData hE rfl ha.2) rfl (tw_sel (fun _ => hS) (fun _ => hS.tail.tail)) ?_; clear hE a; intro a hE
    refine Rg.one (i := 10) false true rfl (by kernel_rfl) (by kernel_rfl) (by kernel_rfl) ?_
    refine WL.sbString hE hS 1 (runs_plain rfl) rfl rfl rfl ha.1 sbu76 sbc5 rfl ?_; clear hE hS a; intro a w hE hS
    refine WL.nil ?_
    refine ⟨⟨fun h => absurd h (by decide), fun _ => hS.tail⟩, ?_⟩
    refine Rg.takeP (i := 11) hE rfl (by kernel_rfl) (runs_plain rfl) (Gives.p hE rfl) rfl (tw_sel (fun h => absurd h (by decide)) (fun _ => hS.tail)) ?_; clear hE a; intro a hE
    refine Rg.done (by kernel_rfl) ?_
    refine W.ret ?_
    refine finG (fn := Tryd.f36) (rs := [.tmp 2]) (vs := [_]) hE rfl ⟨rfl, trivial⟩ ?_
    exact ⟨rfl, hS.tail⟩
end
theorem itoa_ok {w : World} {s : Sg} {R : List HP} {x : Int} {r : ByteArray} (hS : St w s R) (hTab : TabS Tryd.prog s) (hr : itoa x = some r) : Calls Tryd.prog 43 [.int .i64 x].toArray w (fun e w => e = .returned (.string r) ∧ St w s R) := by
  obtain ⟨⟨h0, h1⟩, rfl⟩ := itoa_some hr
  refine (Tryd.strconv_Itoa x h0 h1 w (hTab w R hS)).mono ?_
  rintro e w' ⟨rfl, k, os, rfl⟩
  exact ⟨rfl, (hS.drewN k).growBy os⟩
set_option maxHeartbeats 8000000 in
theorem Planform_ok  {w : World} {s : Sg} {R : List HP} {x0 : ApiDay} {a0_0 : Option Addr} {c0_0 : Nat} {a0_1 : Option Addr} {c0_1 : Nat} (hS : St w s (R)) (h0_0 : Sl 4 RApiTrain s a0_0 c0_0 x0.Trains) (h0_1 : Sl 1 (RL 1 (RI .i64)) s a0_1 c0_1 x0.Turns) {r : Int} (hr : Planform x0 = r) :
    Calls Tryd.prog 32 [.agg (List.toArray [.slice a0_0 x0.Trains.length c0_0, .slice a0_1 x0.Turns.length c0_1])].toArray w (fun e w => e = .returned (.int .i64 r) ∧ St w s (R)) := by
  refine enter Tryd.func32 rfl rfl rfl fun a hE => ?_
  rw [Planform] at hr
  refine W.seq ?_
  refine W.region ?_
  refine WL.box hE hS (runs_plain rfl) rfl rfl rfl ?_; clear hE hS a w; intro b51 a w hE hS
  refine WL.vS hS hE (runs_plain rfl) (Gives.p hE rfl) rfl ?_; clear hE a; intro a hE
  refine WL.nil ?_
  refine W.seq ?_
  refine W.seq ?_
  obtain ⟨q53, hq52, hr⟩ := bndS hr
  refine W.cut (fun a w => ∃ (q56 : Bool), q56 = q53 ∧ Rep a 85 [(1, .pointer (some ⟨b51, 0, none⟩)), (20, .bool q56)] ∧ St w s (pt b51 (.cells #[.slice a0_0 x0.Trains.length c0_0, .slice a0_1 x0.Turns.length c0_1] 33 (0, 0)) :: R)) ?_ ?_
  · refine W.gen fun K57 hK57 => ?_
    refine W.region ?_
    refine WL.vS hS hE (runs_plain rfl) (Gives.fld hE rfl fl33_0) rfl ?_; clear hE a; intro a hE
    refine WL.vS hS hE (runs_plain rfl) (Gives.loadB hE 0 rfl rfl rfl ty30) rfl ?_; clear hE a; intro a hE
    refine WL.vS hS hE (runs_plain rfl) (Gives.len hE rfl sl30) rfl ?_; clear hE a; intro a hE
    refine WL.vS hS hE (runs_plain rfl) (Gives.p hE rfl) rfl ?_; clear hE a; intro a hE
    refine WL.vS hS hE (runs_plain rfl) (Gives.p hE rfl) rfl ?_; clear hE a; intro a hE
    rcases Bool.eq_false_or_eq_true (decide (((x0.Trains).length : Int) > 12)) with hg58 | hg58
    · replace hq52 := iteT hg58 hq52
      refine WL.no hE (runs_not hE rfl rfl rfl (by rw [hg58]; decide)) rfl ?_; clear hE a; intro a hE
      refine WL.no hE (runs_not hE rfl rfl rfl (by rw [hg58]; decide)) rfl ?_; clear hE a; intro a hE
      refine WL.no hE (runs_not hE rfl rfl rfl (by rw [hg58]; decide)) rfl ?_; clear hE a; intro a hE
      refine WL.no hE (runs_not hE rfl rfl rfl (by rw [hg58]; decide)) rfl ?_; clear hE a; intro a hE
      refine WL.vS hS hE (runs_plain rfl) (Gives.pickT hE rfl hg58 rfl) rfl ?_; clear hE a; intro a hE
      refine WL.nil ?_
      subst hK57
      exact ⟨true, hq52, hE.pick _ ⟨rfl, rfl, trivial⟩, hS⟩
    · replace hq52 := iteF hg58 hq52
      refine WL.vS hS hE (runs_if hE rfl rfl rfl hg58) (Gives.fld hE rfl fl33_1) rfl ?_; clear hE a; intro a hE
      refine WL.vS hS hE (runs_if hE rfl rfl rfl hg58) (Gives.loadB hE 0 rfl rfl rfl ty31) rfl ?_; clear hE a; intro a hE
      refine WL.vS hS hE (runs_if hE rfl rfl rfl hg58) (Gives.len hE rfl sl31) rfl ?_; clear hE a; intro a hE
      refine WL.vS hS hE (runs_if hE rfl rfl rfl hg58) (Gives.p hE rfl) rfl ?_; clear hE a; intro a hE
      refine WL.vS hS hE (runs_plain rfl) (Gives.pickF hE rfl hg58 rfl) rfl ?_; clear hE a; intro a hE
      refine WL.nil ?_
      subst hK57
      exact ⟨decide (((x0.Turns).length : Int) > 8), hq52, hE.pick _ ⟨rfl, rfl, trivial⟩, hS⟩
  · clear hE hS a w; rintro a w ⟨q56, rfl, hE, hS⟩
    refine W.cond hE rfl (fun hc59 => ?_) (fun hc59 => ?_)
    · replace hr := iteT hc59 hr
      refine W.seq ?_
      refine W.region ?_
      refine WL.vS hS hE (runs_plain rfl) (Gives.p hE rfl) rfl ?_; clear hE a; intro a hE
      refine WL.nil ?_
      refine W.ret ?_
      refine finG (fn := Tryd.f32) (rs := [.tmp 2]) (vs := [_]) hE rfl ⟨rfl, trivial⟩ ?_
      subst hr
      replace hS := hS.tail
      exact ⟨rfl, hS⟩
    · replace hr := iteF hc59 hr
      refine W.skip ?_
      refine W.seq ?_
      refine W.seq ?_
      refine W.region ?_
      refine WL.vS hS hE (runs_plain rfl) (Gives.fld hE rfl fl33_0) rfl ?_; clear hE a; intro a hE
      refine WL.vS hS hE (runs_plain rfl) (Gives.loadB hE 0 rfl rfl rfl ty30) rfl ?_; clear hE a; intro a hE
      refine WL.vS hS hE (runs_plain rfl) (Gives.len hE rfl sl30) rfl ?_; clear hE a; intro a hE
      refine WL.vS hS hE (runs_plain rfl) (Gives.p hE rfl) rfl ?_; clear hE a; intro a hE
      refine WL.nil ?_
      obtain ⟨q61, hq60, hr⟩ := bndS hr
      refine W.cut (fun a w => (.next ()) = q61 ∧ Rep a 85 [(1, .pointer (some ⟨b51, 0, none⟩))] ∧ St w s (pt b51 (.cells #[.slice a0_0 x0.Trains.length c0_0, .slice a0_1 x0.Turns.length c0_1] 33 (0, 0)) :: R)) ?_ ?_
      · refine W.block ?_
        refine W.loop (fun m a w => ∃ (rest64 : List ApiTrain) (k62 : Nat), rest64.length = m ∧ x0.Trains.drop k62 = rest64 ∧ Planform.loop1 rest64 = q61 ∧ Rep a 85 [(1, .pointer (some ⟨b51, 0, none⟩)), (22, .slice a0_0 x0.Trains.length c0_0), (23, .int .i64 ((x0.Trains).length : Int)), (24, .int .i64 ((k62 : Nat) : Int))] ∧ St w s (pt b51 (.cells #[.slice a0_0 x0.Trains.length c0_0, .slice a0_1 x0.Turns.length c0_1] 33 (0, 0)) :: R)) (m := x0.Trains.length) ⟨x0.Trains, 0, rfl, rfl, hq60, hE.pick _ ⟨rfl, rfl, rfl, rfl, trivial⟩, hS⟩ ?_
        clear hE hS a w hq60; rintro m68 a w ⟨rest64, k62, rfl, hd65, hq60, hE, hS⟩
        refine W.gen fun K71 hK71 => ?_
        rcases rest64 with _ | ⟨x63, rest64⟩
        · have hlt66 := drop_nil hd65
          refine W.seq ?_
          refine W.region ?_
          refine WL.vS hS hE (runs_plain rfl) (Gives.p hE rfl) rfl ?_; clear hE a; intro a hE
          refine WL.nil ?_
          refine W.seq ?_
          refine W.condF hE rfl (decide_eq_false (by omega)) ?_
          subst hK71
          refine W.exit rfl ?_
          exact ⟨hq60, hE.pick _ ⟨rfl, trivial⟩, hS⟩
        · obtain ⟨hlt66, hx67, hd65⟩ := drop_cons hd65
          rw [Planform.loop1] at hq60
          refine W.seq ?_
          refine W.region ?_
          refine WL.vS hS hE (runs_plain rfl) (Gives.p hE rfl) rfl ?_; clear hE a; intro a hE
          refine WL.nil ?_
          refine W.seq ?_
          refine W.condT hE rfl (decide_eq_true (by omega)) ?_
          refine W.skip ?_
          refine W.seq ?_
          refine W.block ?_
          refine W.seq ?_
          refine W.region ?_
          obtain ⟨cs72, hl73, hR74, hat75⟩ := h0_0.at hx67
          obtain ⟨a76, c77, a79, c80, rfl, h78, h81⟩ := hR74
          refine WL.vS hS hE (runs_plain rfl) (Gives.idx hE k62 rfl rfl sl30 rfl hlt66 (h0_0.aok hlt66)) rfl ?_; clear hE a; intro a hE
          refine WL.vS hS hE (runs_plain rfl) (Gives.loadA hE rfl (fun w h => hat75 w _ h) ty67) rfl ?_; clear hE a; intro a hE
          refine WL.alloc hE hS (runs_plain rfl) zr67 rfl ?_; clear hE hS a w; intro b82 a w hE hS
          refine WL.storeI hE hS 0 rfl [.int .i64 x63.No, .int .i64 x63.Stock, .slice a76 x63.Stops.length c77, .slice a79 x63.Legs.length c80] (runs_plain rfl) rfl rfl rfl ty67 rfl rfl rfl rfl ?_; clear hE hS a w; intro a w hE hS
          refine WL.nil ?_
          refine W.seq ?_
          refine W.seq ?_
          obtain ⟨q84, hq83, hq60⟩ := bndS hq60
          refine W.cut (fun a w => ∃ (q87 : Bool), q87 = q84 ∧ Rep a 85 [(1, .pointer (some ⟨b51, 0, none⟩)), (4, .pointer (some ⟨b82, 0, none⟩)), (22, .slice a0_0 x0.Trains.length c0_0), (23, .int .i64 ((x0.Trains).length : Int)), (24, .int .i64 ((k62 : Nat) : Int)), (41, .bool q87)] ∧ St w s (pt b82 (.cells #[.int .i64 x63.No, .int .i64 x63.Stock, .slice a76 x63.Stops.length c77, .slice a79 x63.Legs.length c80] 67 (0, 0)) :: pt b51 (.cells #[.slice a0_0 x0.Trains.length c0_0, .slice a0_1 x0.Turns.length c0_1] 33 (0, 0)) :: R)) ?_ ?_
          · refine W.gen fun K88 hK88 => ?_
            refine W.region ?_
            refine WL.vS hS hE (runs_plain rfl) (Gives.fld hE rfl fl67_2) rfl ?_; clear hE a; intro a hE
            refine WL.vS hS hE (runs_plain rfl) (Gives.loadB hE 0 rfl rfl rfl ty65) rfl ?_; clear hE a; intro a hE
            refine WL.vS hS hE (runs_plain rfl) (Gives.len hE rfl sl65) rfl ?_; clear hE a; intro a hE
            refine WL.vS hS hE (runs_plain rfl) (Gives.p hE rfl) rfl ?_; clear hE a; intro a hE
            refine WL.vS hS hE (runs_plain rfl) (Gives.p hE rfl) rfl ?_; clear hE a; intro a hE
            rcases Bool.eq_false_or_eq_true (((x63.Stops).length : Int) == 0) with hg89 | hg89
            · replace hq83 := iteT hg89 hq83
              refine WL.no hE (runs_not hE rfl rfl rfl (by rw [hg89]; decide)) rfl ?_; clear hE a; intro a hE
              refine WL.no hE (runs_not hE rfl rfl rfl (by rw [hg89]; decide)) rfl ?_; clear hE a; intro a hE
              refine WL.no hE (runs_not hE rfl rfl rfl (by rw [hg89]; decide)) rfl ?_; clear hE a; intro a hE
              refine WL.no hE (runs_not hE rfl rfl rfl (by rw [hg89]; decide)) rfl ?_; clear hE a; intro a hE
              refine WL.no hE (runs_not hE rfl rfl rfl (by rw [hg89]; decide)) rfl ?_; clear hE a; intro a hE
              refine WL.no hE (runs_not hE rfl rfl rfl (by rw [hg89]; decide)) rfl ?_; clear hE a; intro a hE
              refine WL.no hE (runs_not hE rfl rfl rfl (by rw [hg89]; decide)) rfl ?_; clear hE a; intro a hE
              refine WL.no hE (runs_not hE rfl rfl rfl (by rw [hg89]; decide)) rfl ?_; clear hE a; intro a hE
              refine WL.vS hS hE (runs_plain rfl) (Gives.pickT hE rfl hg89 rfl) rfl ?_; clear hE a; intro a hE
              refine WL.nil ?_
              subst hK88
              exact ⟨true, hq83, hE.pick _ ⟨rfl, rfl, rfl, rfl, rfl, rfl, trivial⟩, hS⟩
            · replace hq83 := iteF hg89 hq83
              refine WL.vS hS hE (runs_if hE rfl rfl rfl hg89) (Gives.fld hE rfl fl67_3) rfl ?_; clear hE a; intro a hE
              refine WL.vS hS hE (runs_if hE rfl rfl rfl hg89) (Gives.loadB hE 0 rfl rfl rfl ty31) rfl ?_; clear hE a; intro a hE
              refine WL.vS hS hE (runs_if hE rfl rfl rfl hg89) (Gives.len hE rfl sl31) rfl ?_; clear hE a; intro a hE
              refine WL.vS hS hE (runs_if hE rfl rfl rfl hg89) (Gives.fld hE rfl fl67_2) rfl ?_; clear hE a; intro a hE
              refine WL.vS hS hE (runs_if hE rfl rfl rfl hg89) (Gives.loadB hE 0 rfl rfl rfl ty65) rfl ?_; clear hE a; intro a hE
              refine WL.vS hS hE (runs_if hE rfl rfl rfl hg89) (Gives.len hE rfl sl65) rfl ?_; clear hE a; intro a hE
              refine WL.vS hS hE (runs_if hE rfl rfl rfl hg89) (Gives.p hE rfl) rfl ?_; clear hE a; intro a hE
              refine WL.vS hS hE (runs_if hE rfl rfl rfl hg89) (Gives.p hE rfl) rfl ?_; clear hE a; intro a hE
              refine WL.vS hS hE (runs_plain rfl) (Gives.pickF hE rfl hg89 rfl) rfl ?_; clear hE a; intro a hE
              refine WL.nil ?_
              subst hK88
              exact ⟨(((x63.Legs).length : Int) != (w64 (((x63.Stops).length : Int) - 1))), hq83, hE.pick _ ⟨rfl, rfl, rfl, rfl, rfl, rfl, trivial⟩, hS⟩
          · clear hE hS a w; rintro a w ⟨q87, rfl, hE, hS⟩
            refine W.cond hE rfl (fun hc90 => ?_) (fun hc90 => ?_)
            · replace hq60 := iteT hc90 hq60
              refine W.seq ?_
              refine W.region ?_
              refine WL.vS hS hE (runs_plain rfl) (Gives.p hE rfl) rfl ?_; clear hE a; intro a hE
              refine WL.nil ?_
              refine W.ret ?_
              subst hK71
              rw [← hq60] at hr
              dsimp only at hr
              refine finG (fn := Tryd.f32) (rs := [.tmp 2]) (vs := [_]) hE rfl ⟨rfl, trivial⟩ ?_
              subst hr
              replace hS := hS.tail
              replace hS := hS.tail
              exact ⟨rfl, hS⟩
            · replace hq60 := iteF hc90 hq60
              refine W.skip ?_
              refine W.seq ?_
              refine W.seq ?_
              refine W.region ?_
              refine WL.vS hS hE (runs_plain rfl) (Gives.fld hE rfl fl67_3) rfl ?_; clear hE a; intro a hE
              refine WL.vS hS hE (runs_plain rfl) (Gives.loadB hE 0 rfl rfl rfl ty31) rfl ?_; clear hE a; intro a hE
              refine WL.vS hS hE (runs_plain rfl) (Gives.len hE rfl sl31) rfl ?_; clear hE a; intro a hE
              refine WL.vS hS hE (runs_plain rfl) (Gives.p hE rfl) rfl ?_; clear hE a; intro a hE
              refine WL.nil ?_
              obtain ⟨q92, hq91, hq60⟩ := bndS hq60
              refine W.cut (fun a w => (.next ()) = q92 ∧ Rep a 85 [(1, .pointer (some ⟨b51, 0, none⟩)), (4, .pointer (some ⟨b82, 0, none⟩)), (22, .slice a0_0 x0.Trains.length c0_0), (23, .int .i64 ((x0.Trains).length : Int)), (24, .int .i64 ((k62 : Nat) : Int))] ∧ St w s (pt b82 (.cells #[.int .i64 x63.No, .int .i64 x63.Stock, .slice a76 x63.Stops.length c77, .slice a79 x63.Legs.length c80] 67 (0, 0)) :: pt b51 (.cells #[.slice a0_0 x0.Trains.length c0_0, .slice a0_1 x0.Turns.length c0_1] 33 (0, 0)) :: R)) ?_ ?_
              · refine W.block ?_
                refine W.loop (fun m a w => ∃ (rest95 : List (List Int)) (k93 : Nat), rest95.length = m ∧ x63.Legs.drop k93 = rest95 ∧ Planform.loop2 rest95 = q92 ∧ Rep a 85 [(1, .pointer (some ⟨b51, 0, none⟩)), (4, .pointer (some ⟨b82, 0, none⟩)), (22, .slice a0_0 x0.Trains.length c0_0), (23, .int .i64 ((x0.Trains).length : Int)), (24, .int .i64 ((k62 : Nat) : Int)), (43, .slice a79 x63.Legs.length c80), (44, .int .i64 ((x63.Legs).length : Int)), (45, .int .i64 ((k93 : Nat) : Int))] ∧ St w s (pt b82 (.cells #[.int .i64 x63.No, .int .i64 x63.Stock, .slice a76 x63.Stops.length c77, .slice a79 x63.Legs.length c80] 67 (0, 0)) :: pt b51 (.cells #[.slice a0_0 x0.Trains.length c0_0, .slice a0_1 x0.Turns.length c0_1] 33 (0, 0)) :: R)) (m := x63.Legs.length) ⟨x63.Legs, 0, rfl, rfl, hq91, hE.pick _ ⟨rfl, rfl, rfl, rfl, rfl, rfl, rfl, rfl, trivial⟩, hS⟩ ?_
                clear hE hS a w hq91; rintro m99 a w ⟨rest95, k93, rfl, hd96, hq91, hE, hS⟩
                refine W.gen fun K102 hK102 => ?_
                rcases rest95 with _ | ⟨x94, rest95⟩
                · have hlt97 := drop_nil hd96
                  refine W.seq ?_
                  refine W.region ?_
                  refine WL.vS hS hE (runs_plain rfl) (Gives.p hE rfl) rfl ?_; clear hE a; intro a hE
                  refine WL.nil ?_
                  refine W.seq ?_
                  refine W.condF hE rfl (decide_eq_false (by omega)) ?_
                  subst hK102
                  refine W.exit rfl ?_
                  exact ⟨hq91, hE.pick _ ⟨rfl, rfl, rfl, rfl, rfl, trivial⟩, hS⟩
                · obtain ⟨hlt97, hx98, hd96⟩ := drop_cons hd96
                  rw [Planform.loop2] at hq91
                  refine W.seq ?_
                  refine W.region ?_
                  refine WL.vS hS hE (runs_plain rfl) (Gives.p hE rfl) rfl ?_; clear hE a; intro a hE
                  refine WL.nil ?_
                  refine W.seq ?_
                  refine W.condT hE rfl (decide_eq_true (by omega)) ?_
                  refine W.skip ?_
                  refine W.seq ?_
                  refine W.block ?_
                  refine W.seq ?_
                  refine W.region ?_
                  obtain ⟨cs103, hl104, hR105, hat106⟩ := h81.at hx98
                  obtain ⟨a107, c108, rfl, h109⟩ := hR105
                  refine WL.vS hS hE (runs_plain rfl) (Gives.idx hE k93 rfl rfl sl31 rfl hlt97 (h81.aok hlt97)) rfl ?_; clear hE a; intro a hE
                  refine WL.vS hS hE (runs_plain rfl) (Gives.load1 hE rfl (fun w h => hat106 w _ h) ty23) rfl ?_; clear hE a; intro a hE
                  refine WL.vS hS hE (runs_plain rfl) (Gives.p hE rfl) rfl ?_; clear hE a; intro a hE
                  refine WL.nil ?_
                  refine W.seq ?_
                  refine W.region ?_
                  refine WL.vS hS hE (runs_plain rfl) (Gives.p hE rfl) rfl ?_; clear hE a; intro a hE
                  refine WL.vS hS hE (runs_plain rfl) (Gives.len hE rfl sl23) rfl ?_; clear hE a; intro a hE
                  refine WL.vS hS hE (runs_plain rfl) (Gives.p hE rfl) rfl ?_; clear hE a; intro a hE
                  refine WL.nil ?_
                  refine W.cond hE rfl (fun hc110 => ?_) (fun hc110 => ?_)
                  · replace hq91 := iteT hc110 hq91
                    refine W.seq ?_
                    refine W.region ?_
                    refine WL.vS hS hE (runs_plain rfl) (Gives.p hE rfl) rfl ?_; clear hE a; intro a hE
                    refine WL.nil ?_
                    refine W.ret ?_
                    subst hK102
                    subst hK71
                    rw [← hq91] at hq60
                    dsimp only at hq60
                    rw [← hq60] at hr
                    dsimp only at hr
                    refine finG (fn := Tryd.f32) (rs := [.tmp 2]) (vs := [_]) hE rfl ⟨rfl, trivial⟩ ?_
                    subst hr
                    replace hS := hS.tail
                    replace hS := hS.tail
                    exact ⟨rfl, hS⟩
                  · replace hq91 := iteF hc110 hq91
                    refine W.skip ?_
                    refine W.region ?_
                    refine WL.vS hS hE (runs_plain rfl) (Gives.inc hE rfl (by have := h81.small; omega)) rfl ?_; clear hE a; intro a hE
                    refine WL.vS hS hE (runs_plain rfl) (Gives.p hE rfl) rfl ?_; clear hE a; intro a hE
                    refine WL.nil ?_
                    subst hK102
                    exact ⟨rest95.length, Nat.lt_succ_self _, rest95, k93 + 1, rfl, hd96, hq91, hE.pick _ ⟨rfl, rfl, rfl, rfl, rfl, rfl, rfl, rfl, trivial⟩, hS⟩
              · clear hE hS a w; rintro a w ⟨rfl, hE, hS⟩
                dsimp only at hq60
                refine W.seq ?_
                refine W.seq ?_
                refine W.region ?_
                refine WL.vS hS hE (runs_plain rfl) (Gives.fld hE rfl fl67_2) rfl ?_; clear hE a; intro a hE
                refine WL.vS hS hE (runs_plain rfl) (Gives.loadB hE 0 rfl rfl rfl ty65) rfl ?_; clear hE a; intro a hE
                refine WL.vS hS hE (runs_plain rfl) (Gives.len hE rfl sl65) rfl ?_; clear hE a; intro a hE
                refine WL.vS hS hE (runs_plain rfl) (Gives.p hE rfl) rfl ?_; clear hE a; intro a hE
                refine WL.nil ?_
                refine W.cond hE rfl (fun hc111 => ?_) (fun hc111 => ?_)
                · replace hq60 := iteT hc111 hq60
                  refine W.seq ?_
                  refine W.region ?_
                  refine WL.vS hS hE (runs_plain rfl) (Gives.p hE rfl) rfl ?_; clear hE a; intro a hE
                  refine WL.nil ?_
                  refine W.ret ?_
                  subst hK71
                  rw [← hq60] at hr
                  dsimp only at hr
                  refine finG (fn := Tryd.f32) (rs := [.tmp 2]) (vs := [_]) hE rfl ⟨rfl, trivial⟩ ?_
                  subst hr
                  replace hS := hS.tail
                  replace hS := hS.tail
                  exact ⟨rfl, hS⟩
                · replace hq60 := iteF hc111 hq60
                  refine W.skip ?_
                  refine W.seq ?_
                  refine W.region ?_
                  refine WL.vS hS hE (runs_plain rfl) (Gives.fld hE rfl fl67_3) rfl ?_; clear hE a; intro a hE
                  refine WL.vS hS hE (runs_plain rfl) (Gives.loadB hE 0 rfl rfl rfl ty31) rfl ?_; clear hE a; intro a hE
                  refine WL.vS hS hE (runs_plain rfl) (Gives.len hE rfl sl31) rfl ?_; clear hE a; intro a hE
                  refine WL.vS hS hE (runs_plain rfl) (Gives.p hE rfl) rfl ?_; clear hE a; intro a hE
                  refine WL.nil ?_
                  obtain ⟨q113, hq112, hq60⟩ := bndS hq60
                  refine W.cut (fun a w => (.next ()) = q113 ∧ Rep a 85 [(1, .pointer (some ⟨b51, 0, none⟩)), (22, .slice a0_0 x0.Trains.length c0_0), (23, .int .i64 ((x0.Trains).length : Int)), (24, .int .i64 ((k62 : Nat) : Int))] ∧ St w s (pt b82 (.cells #[.int .i64 x63.No, .int .i64 x63.Stock, .slice a76 x63.Stops.length c77, .slice a79 x63.Legs.length c80] 67 (0, 0)) :: pt b51 (.cells #[.slice a0_0 x0.Trains.length c0_0, .slice a0_1 x0.Turns.length c0_1] 33 (0, 0)) :: R)) ?_ ?_
                  · refine W.block ?_
                    refine W.loop (fun m a w => ∃ (rest116 : List (List Int)) (k114 : Nat), rest116.length = m ∧ x63.Legs.drop k114 = rest116 ∧ Planform.loop3 rest116 = q113 ∧ Rep a 85 [(1, .pointer (some ⟨b51, 0, none⟩)), (22, .slice a0_0 x0.Trains.length c0_0), (23, .int .i64 ((x0.Trains).length : Int)), (24, .int .i64 ((k62 : Nat) : Int)), (58, .slice a79 x63.Legs.length c80), (59, .int .i64 ((x63.Legs).length : Int)), (60, .int .i64 ((k114 : Nat) : Int))] ∧ St w s (pt b82 (.cells #[.int .i64 x63.No, .int .i64 x63.Stock, .slice a76 x63.Stops.length c77, .slice a79 x63.Legs.length c80] 67 (0, 0)) :: pt b51 (.cells #[.slice a0_0 x0.Trains.length c0_0, .slice a0_1 x0.Turns.length c0_1] 33 (0, 0)) :: R)) (m := x63.Legs.length) ⟨x63.Legs, 0, rfl, rfl, hq112, hE.pick _ ⟨rfl, rfl, rfl, rfl, rfl, rfl, rfl, trivial⟩, hS⟩ ?_
                    clear hE hS a w hq112; rintro m120 a w ⟨rest116, k114, rfl, hd117, hq112, hE, hS⟩
                    refine W.gen fun K123 hK123 => ?_
                    rcases rest116 with _ | ⟨x115, rest116⟩
                    · have hlt118 := drop_nil hd117
                      refine W.seq ?_
                      refine W.region ?_
                      refine WL.vS hS hE (runs_plain rfl) (Gives.p hE rfl) rfl ?_; clear hE a; intro a hE
                      refine WL.nil ?_
                      refine W.seq ?_
                      refine W.condF hE rfl (decide_eq_false (by omega)) ?_
                      subst hK123
                      refine W.exit rfl ?_
                      exact ⟨hq112, hE.pick _ ⟨rfl, rfl, rfl, rfl, trivial⟩, hS⟩
                    · obtain ⟨hlt118, hx119, hd117⟩ := drop_cons hd117
                      rw [Planform.loop3] at hq112
                      refine W.seq ?_
                      refine W.region ?_
                      refine WL.vS hS hE (runs_plain rfl) (Gives.p hE rfl) rfl ?_; clear hE a; intro a hE
                      refine WL.nil ?_
                      refine W.seq ?_
                      refine W.condT hE rfl (decide_eq_true (by omega)) ?_
                      refine W.skip ?_
                      refine W.seq ?_
                      refine W.block ?_
                      refine W.seq ?_
                      refine W.region ?_
                      obtain ⟨cs124, hl125, hR126, hat127⟩ := h81.at hx119
                      obtain ⟨a128, c129, rfl, h130⟩ := hR126
                      refine WL.vS hS hE (runs_plain rfl) (Gives.idx hE k114 rfl rfl sl31 rfl hlt118 (h81.aok hlt118)) rfl ?_; clear hE a; intro a hE
                      refine WL.vS hS hE (runs_plain rfl) (Gives.load1 hE rfl (fun w h => hat127 w _ h) ty23) rfl ?_; clear hE a; intro a hE
                      refine WL.vS hS hE (runs_plain rfl) (Gives.p hE rfl) rfl ?_; clear hE a; intro a hE
                      refine WL.nil ?_
                      refine W.seq ?_
                      refine W.region ?_
                      refine WL.vS hS hE (runs_plain rfl) (Gives.p hE rfl) rfl ?_; clear hE a; intro a hE
                      refine WL.vS hS hE (runs_plain rfl) (Gives.len hE rfl sl23) rfl ?_; clear hE a; intro a hE
                      refine WL.vS hS hE (runs_plain rfl) (Gives.p hE rfl) rfl ?_; clear hE a; intro a hE
                      refine WL.nil ?_
                      refine W.cond hE rfl (fun hc131 => ?_) (fun hc131 => ?_)
                      · replace hq112 := iteT hc131 hq112
                        refine W.seq ?_
                        refine W.region ?_
                        refine WL.vS hS hE (runs_plain rfl) (Gives.p hE rfl) rfl ?_; clear hE a; intro a hE
                        refine WL.nil ?_
                        refine W.ret ?_
                        subst hK123
                        subst hK71
                        rw [← hq112] at hq60
                        dsimp only at hq60
                        rw [← hq60] at hr
                        dsimp only at hr
                        refine finG (fn := Tryd.f32) (rs := [.tmp 2]) (vs := [_]) hE rfl ⟨rfl, trivial⟩ ?_
                        subst hr
                        replace hS := hS.tail
                        replace hS := hS.tail
                        exact ⟨rfl, hS⟩
                      · replace hq112 := iteF hc131 hq112
                        refine W.skip ?_
                        refine W.region ?_
                        refine WL.vS hS hE (runs_plain rfl) (Gives.inc hE rfl (by have := h81.small; omega)) rfl ?_; clear hE a; intro a hE
                        refine WL.vS hS hE (runs_plain rfl) (Gives.p hE rfl) rfl ?_; clear hE a; intro a hE
                        refine WL.nil ?_
                        subst hK123
                        exact ⟨rest116.length, Nat.lt_succ_self _, rest116, k114 + 1, rfl, hd117, hq112, hE.pick _ ⟨rfl, rfl, rfl, rfl, rfl, rfl, rfl, trivial⟩, hS⟩
                  · clear hE hS a w; rintro a w ⟨rfl, hE, hS⟩
                    dsimp only at hq60
                    refine W.region ?_
                    refine WL.vS hS hE (runs_plain rfl) (Gives.inc hE rfl (by have := h0_0.small; omega)) rfl ?_; clear hE a; intro a hE
                    refine WL.vS hS hE (runs_plain rfl) (Gives.p hE rfl) rfl ?_; clear hE a; intro a hE
                    refine WL.nil ?_
                    replace hS := hS.tail
                    subst hK71
                    exact ⟨rest64.length, Nat.lt_succ_self _, rest64, k62 + 1, rfl, hd65, hq60, hE.pick _ ⟨rfl, rfl, rfl, rfl, trivial⟩, hS⟩
      · clear hE hS a w; rintro a w ⟨rfl, hE, hS⟩
        dsimp only at hr
        refine W.seq ?_
        refine W.seq ?_
        refine W.region ?_
        refine WL.vS hS hE (runs_plain rfl) (Gives.fld hE rfl fl33_1) rfl ?_; clear hE a; intro a hE
        refine WL.vS hS hE (runs_plain rfl) (Gives.loadB hE 0 rfl rfl rfl ty31) rfl ?_; clear hE a; intro a hE
        refine WL.vS hS hE (runs_plain rfl) (Gives.len hE rfl sl31) rfl ?_; clear hE a; intro a hE
        refine WL.vS hS hE (runs_plain rfl) (Gives.p hE rfl) rfl ?_; clear hE a; intro a hE
        refine WL.nil ?_
        obtain ⟨q133, hq132, hr⟩ := bndS hr
        refine W.cut (fun a w => (.next ()) = q133 ∧ Rep a 85 [] ∧ St w s (pt b51 (.cells #[.slice a0_0 x0.Trains.length c0_0, .slice a0_1 x0.Turns.length c0_1] 33 (0, 0)) :: R)) ?_ ?_
        · refine W.block ?_
          refine W.loop (fun m a w => ∃ (rest136 : List (List Int)) (k134 : Nat), rest136.length = m ∧ x0.Turns.drop k134 = rest136 ∧ Planform.loop4 rest136 = q133 ∧ Rep a 85 [(70, .slice a0_1 x0.Turns.length c0_1), (71, .int .i64 ((x0.Turns).length : Int)), (72, .int .i64 ((k134 : Nat) : Int))] ∧ St w s (pt b51 (.cells #[.slice a0_0 x0.Trains.length c0_0, .slice a0_1 x0.Turns.length c0_1] 33 (0, 0)) :: R)) (m := x0.Turns.length) ⟨x0.Turns, 0, rfl, rfl, hq132, hE.pick _ ⟨rfl, rfl, rfl, trivial⟩, hS⟩ ?_
          clear hE hS a w hq132; rintro m140 a w ⟨rest136, k134, rfl, hd137, hq132, hE, hS⟩
          refine W.gen fun K143 hK143 => ?_
          rcases rest136 with _ | ⟨x135, rest136⟩
          · have hlt138 := drop_nil hd137
            refine W.seq ?_
            refine W.region ?_
            refine WL.vS hS hE (runs_plain rfl) (Gives.p hE rfl) rfl ?_; clear hE a; intro a hE
            refine WL.nil ?_
            refine W.seq ?_
            refine W.condF hE rfl (decide_eq_false (by omega)) ?_
            subst hK143
            refine W.exit rfl ?_
            exact ⟨hq132, hE.pick _ trivial, hS⟩
          · obtain ⟨hlt138, hx139, hd137⟩ := drop_cons hd137
            rw [Planform.loop4] at hq132
            refine W.seq ?_
            refine W.region ?_
            refine WL.vS hS hE (runs_plain rfl) (Gives.p hE rfl) rfl ?_; clear hE a; intro a hE
            refine WL.nil ?_
            refine W.seq ?_
            refine W.condT hE rfl (decide_eq_true (by omega)) ?_
            refine W.skip ?_
            refine W.seq ?_
            refine W.block ?_
            refine W.seq ?_
            refine W.region ?_
            obtain ⟨cs144, hl145, hR146, hat147⟩ := h0_1.at hx139
            obtain ⟨a148, c149, rfl, h150⟩ := hR146
            refine WL.vS hS hE (runs_plain rfl) (Gives.idx hE k134 rfl rfl sl31 rfl hlt138 (h0_1.aok hlt138)) rfl ?_; clear hE a; intro a hE
            refine WL.vS hS hE (runs_plain rfl) (Gives.load1 hE rfl (fun w h => hat147 w _ h) ty23) rfl ?_; clear hE a; intro a hE
            refine WL.vS hS hE (runs_plain rfl) (Gives.p hE rfl) rfl ?_; clear hE a; intro a hE
            refine WL.nil ?_
            refine W.block ?_
            refine W.seq ?_
            refine W.region ?_
            refine WL.vS hS hE (runs_plain rfl) (Gives.p hE rfl) rfl ?_; clear hE a; intro a hE
            refine WL.vS hS hE (runs_plain rfl) (Gives.len hE rfl sl23) rfl ?_; clear hE a; intro a hE
            refine WL.vS hS hE (runs_plain rfl) (Gives.p hE rfl) rfl ?_; clear hE a; intro a hE
            refine WL.vS hS hE (runs_plain rfl) (Gives.p hE rfl) rfl ?_; clear hE a; intro a hE
            refine WL.nil ?_
            refine W.cond hE rfl (fun hc151 => ?_) (fun hc151 => ?_)
            · replace hq132 := iteT hc151 hq132
              refine W.seq ?_
              refine W.region ?_
              refine WL.vS hS hE (runs_plain rfl) (Gives.p hE rfl) rfl ?_; clear hE a; intro a hE
              refine WL.nil ?_
              refine W.ret ?_
              subst hK143
              rw [← hq132] at hr
              dsimp only at hr
              refine finG (fn := Tryd.f32) (rs := [.tmp 2]) (vs := [_]) hE rfl ⟨rfl, trivial⟩ ?_
              subst hr
              replace hS := hS.tail
              exact ⟨rfl, hS⟩
            · replace hq132 := iteF hc151 hq132
              refine W.seq ?_
              refine W.region ?_
              refine WL.vS hS hE (runs_plain rfl) (Gives.p hE rfl) rfl ?_; clear hE a; intro a hE
              refine WL.vS hS hE (runs_plain rfl) (Gives.len hE rfl sl23) rfl ?_; clear hE a; intro a hE
              refine WL.vS hS hE (runs_plain rfl) (Gives.p hE rfl) rfl ?_; clear hE a; intro a hE
              refine WL.vS hS hE (runs_plain rfl) (Gives.p hE rfl) rfl ?_; clear hE a; intro a hE
              refine WL.nil ?_
              refine W.cond hE rfl (fun hc152 => ?_) (fun hc152 => ?_)
              · replace hq132 := iteT hc152 hq132
                refine W.seq ?_
                refine W.region ?_
                refine WL.vS hS hE (runs_plain rfl) (Gives.p hE rfl) rfl ?_; clear hE a; intro a hE
                refine WL.nil ?_
                refine W.ret ?_
                subst hK143
                rw [← hq132] at hr
                dsimp only at hr
                refine finG (fn := Tryd.f32) (rs := [.tmp 2]) (vs := [_]) hE rfl ⟨rfl, trivial⟩ ?_
                subst hr
                replace hS := hS.tail
                exact ⟨rfl, hS⟩
              · replace hq132 := iteF hc152 hq132
                refine W.skip ?_
                refine W.region ?_
                refine WL.vS hS hE (runs_plain rfl) (Gives.inc hE rfl (by have := h0_1.small; omega)) rfl ?_; clear hE a; intro a hE
                refine WL.vS hS hE (runs_plain rfl) (Gives.p hE rfl) rfl ?_; clear hE a; intro a hE
                refine WL.nil ?_
                subst hK143
                exact ⟨rest136.length, Nat.lt_succ_self _, rest136, k134 + 1, rfl, hd137, hq132, hE.pick _ ⟨rfl, rfl, rfl, trivial⟩, hS⟩
        · clear hE hS a w; rintro a w ⟨rfl, hE, hS⟩
          dsimp only at hr
          refine W.seq ?_
          refine W.region ?_
          refine WL.vS hS hE (runs_plain rfl) (Gives.p hE rfl) rfl ?_; clear hE a; intro a hE
          refine WL.nil ?_
          refine W.ret ?_
          refine finG (fn := Tryd.f32) (rs := [.tmp 2]) (vs := [_]) hE rfl ⟨rfl, trivial⟩ ?_
          subst hr
          replace hS := hS.tail
          exact ⟨rfl, hS⟩
set_option maxHeartbeats 8000000 in
theorem Planwithin_ok  {w : World} {s : Sg} {R : List HP} {x0 : Int} {x1 : Int} {x2 : Int} (hS : St w s (R))  {r : Bool} (hr : Planwithin x0 x1 x2 = r) :
    Calls Tryd.prog 25 [.int .i64 x0, .int .i64 x1, .int .i64 x2].toArray w (fun e w => e = .returned (.bool r) ∧ St w s (R)) := by
  refine enter Tryd.func25 rfl rfl rfl fun a hE => ?_
  rw [Planwithin] at hr
  refine W.seq ?_
  refine W.region ?_
  refine WL.vS hS hE (runs_plain rfl) (Gives.p hE rfl) rfl ?_; clear hE a; intro a hE
  refine WL.nil ?_
  refine W.seq ?_
  obtain ⟨q52, hq51, hr⟩ := bndS hr
  refine W.cut (fun a w => ∃ (q55 : Bool), q55 = q52 ∧ Rep a 15 [(6, .bool q55)] ∧ St w s (R)) ?_ ?_
  · refine W.gen fun K56 hK56 => ?_
    refine W.region ?_
    refine WL.vS hS hE (runs_plain rfl) (Gives.p hE rfl) rfl ?_; clear hE a; intro a hE
    refine WL.vS hS hE (runs_plain rfl) (Gives.p hE rfl) rfl ?_; clear hE a; intro a hE
    refine WL.vS hS hE (runs_plain rfl) (Gives.p hE rfl) rfl ?_; clear hE a; intro a hE
    refine WL.vS hS hE (runs_plain rfl) (Gives.p hE rfl) rfl ?_; clear hE a; intro a hE
    rcases Bool.eq_false_or_eq_true (decide (x0 ≥ x1)) with hg57 | hg57
    · replace hq51 := iteT hg57 hq51
      refine WL.vS hS hE (runs_if hE rfl rfl rfl hg57) (Gives.p hE rfl) rfl ?_; clear hE a; intro a hE
      refine WL.vS hS hE (runs_if hE rfl rfl rfl hg57) (Gives.p hE rfl) rfl ?_; clear hE a; intro a hE
      refine WL.vS hS hE (runs_if hE rfl rfl rfl hg57) (Gives.p hE rfl) rfl ?_; clear hE a; intro a hE
      refine WL.vS hS hE (runs_plain rfl) (Gives.pickT hE rfl hg57 rfl) rfl ?_; clear hE a; intro a hE
      refine WL.vS hS hE (runs_plain rfl) (Gives.p hE rfl) rfl ?_; clear hE a; intro a hE
      refine WL.nil ?_
      subst hK56
      exact ⟨decide (x0 ≤ x2), hq51, hE.pick _ ⟨rfl, trivial⟩, hS⟩
    · replace hq51 := iteF hg57 hq51
      refine WL.no hE (runs_not hE rfl rfl rfl (by rw [hg57]; decide)) rfl ?_; clear hE a; intro a hE
      refine WL.no hE (runs_not hE rfl rfl rfl (by rw [hg57]; decide)) rfl ?_; clear hE a; intro a hE
      refine WL.no hE (runs_not hE rfl rfl rfl (by rw [hg57]; decide)) rfl ?_; clear hE a; intro a hE
      refine WL.vS hS hE (runs_plain rfl) (Gives.pickF hE rfl hg57 rfl) rfl ?_; clear hE a; intro a hE
      refine WL.vS hS hE (runs_plain rfl) (Gives.p hE rfl) rfl ?_; clear hE a; intro a hE
      refine WL.nil ?_
      subst hK56
      exact ⟨false, hq51, hE.pick _ ⟨rfl, trivial⟩, hS⟩
  · clear hE hS a w; rintro a w ⟨q55, rfl, hE, hS⟩
    refine W.ret ?_
    refine finG (fn := Tryd.f25) (rs := [.tmp 6]) (vs := [_]) hE rfl ⟨rfl, trivial⟩ ?_
    subst hr
    exact ⟨rfl, hS⟩
set_option maxHeartbeats 8000000 in
theorem Plansentence_ok  {w : World} {s : Sg} {R : List HP} {x0 : ByteArray} {x1 : List Int} {a1 : Option Addr} {c1 : Nat} (hS : St w s (R)) (hTab : TabX s) (h1 : Sl 1 (RI .i64) s a1 c1 x1) {r : ByteArray} (hr : Plansentence x0 x1 = some r) :
    Calls Tryd.prog 35 [.string x0, .slice a1 x1.length c1].toArray w (fun e w => e = .returned (.string r) ∧ St w s (R)) := by
  refine enter Tryd.func35 rfl rfl rfl fun a hE => ?_
  rw [Plansentence] at hr
  refine W.seq ?_
  refine W.region ?_
  refine WL.vS hS hE (runs_plain rfl) (Gives.p hE rfl) rfl ?_; clear hE a; intro a hE
  refine WL.nil ?_
  refine W.seq ?_
  refine W.seq ?_
  refine W.region ?_
  refine WL.vS hS hE (runs_plain rfl) (Gives.p hE rfl) rfl ?_; clear hE a; intro a hE
  refine WL.vS hS hE (runs_plain rfl) (Gives.len hE rfl sl23) rfl ?_; clear hE a; intro a hE
  refine WL.vS hS hE (runs_plain rfl) (Gives.p hE rfl) rfl ?_; clear hE a; intro a hE
  refine WL.nil ?_
  obtain ⟨q52, hq51, hr⟩ := bindS hr
  refine W.cut (fun a w => ∃ (q62 : ByteArray), q62 = q52 ∧ Rep a 21 [(0, .string q62)] ∧ St w s (R)) ?_ ?_
  · refine W.block ?_
    refine W.loop (fun m a w => ∃ (rest55 : List Int) (k53 : Nat), ∃ (q62 : ByteArray), rest55.length = m ∧ x1.drop k53 = rest55 ∧ Plansentence.loop1 rest55 q62 = some q52 ∧ Rep a 21 [(0, .string q62), (7, .slice a1 x1.length c1), (8, .int .i64 ((x1).length : Int)), (9, .int .i64 ((k53 : Nat) : Int))] ∧ St w s (R)) (m := x1.length) ⟨x1, 0, x0, rfl, rfl, hq51, hE.pick _ ⟨rfl, rfl, rfl, rfl, trivial⟩, hS⟩ ?_
    clear hE hS a w hq51; rintro m59 a w ⟨rest55, k53, q62, rfl, hd56, hq51, hE, hS⟩
    refine W.gen fun K63 hK63 => ?_
    rcases rest55 with _ | ⟨x54, rest55⟩
    · have hlt57 := drop_nil hd56
      refine W.seq ?_
      refine W.region ?_
      refine WL.vS hS hE (runs_plain rfl) (Gives.p hE rfl) rfl ?_; clear hE a; intro a hE
      refine WL.nil ?_
      refine W.seq ?_
      refine W.condF hE rfl (decide_eq_false (by omega)) ?_
      subst hK63
      refine W.exit rfl ?_
      exact ⟨q62, Option.some.inj hq51, hE.pick _ ⟨rfl, trivial⟩, hS⟩
    · obtain ⟨hlt57, hx58, hd56⟩ := drop_cons hd56
      rw [Plansentence.loop1] at hq51
      refine W.seq ?_
      refine W.region ?_
      refine WL.vS hS hE (runs_plain rfl) (Gives.p hE rfl) rfl ?_; clear hE a; intro a hE
      refine WL.nil ?_
      refine W.seq ?_
      refine W.condT hE rfl (decide_eq_true (by omega)) ?_
      refine W.skip ?_
      refine W.seq ?_
      refine W.block ?_
      refine W.seq ?_
      refine W.region ?_
      obtain ⟨cs64, hl65, hR66, hat67⟩ := h1.at hx58
      subst hR66
      refine WL.vS hS hE (runs_plain rfl) (Gives.idx hE k53 rfl rfl sl23 rfl hlt57 (h1.aok hlt57)) rfl ?_; clear hE a; intro a hE
      refine WL.vS hS hE (runs_plain rfl) (Gives.load1 hE rfl (fun w h => hat67 w _ h) ty3) rfl ?_; clear hE a; intro a hE
      refine WL.vS hS hE (runs_plain rfl) (Gives.p hE rfl) rfl ?_; clear hE a; intro a hE
      refine WL.nil ?_
      refine W.region ?_
      refine WL.vS hS hE (runs_plain rfl) (Gives.p hE rfl) rfl ?_; clear hE a; intro a hE
      refine WL.vS hS hE (runs_plain rfl) (Gives.p hE rfl) rfl ?_; clear hE a; intro a hE
      obtain ⟨q68, hq69, hq51⟩ := bindS hq51
      refine WL.fnq hE (itoa_ok hS (TabG.mono (Sg.Le.refl _) hTab).tab hq69) (runs_plain rfl) bd43 rfl rfl rfl ?_
      clear hE hS; rintro e w ⟨rfl, hS⟩; refine ⟨_, rfl, ?_⟩; clear a; intro a hE
      obtain ⟨x70, hx71, hq51⟩ := bindS hq51
      refine WL.vS hS hE (runs_plain rfl) (Gives.catS hE rfl rfl hx71) rfl ?_; clear hE a; intro a hE
      obtain ⟨x72, hx73, hq51⟩ := bindS hq51
      refine WL.vS hS hE (runs_plain rfl) (Gives.catS hE rfl rfl hx73) rfl ?_; clear hE a; intro a hE
      refine WL.vS hS hE (runs_plain rfl) (Gives.p hE rfl) rfl ?_; clear hE a; intro a hE
      refine WL.nil ?_
      refine W.region ?_
      refine WL.vS hS hE (runs_plain rfl) (Gives.inc hE rfl (by have := h1.small; omega)) rfl ?_; clear hE a; intro a hE
      refine WL.vS hS hE (runs_plain rfl) (Gives.p hE rfl) rfl ?_; clear hE a; intro a hE
      refine WL.nil ?_
      subst hK63
      exact ⟨rest55.length, Nat.lt_succ_self _, rest55, k53 + 1, x72, rfl, hd56, hq51, hE.pick _ ⟨rfl, rfl, rfl, rfl, trivial⟩, hS⟩
  · clear hE hS a w; rintro a w ⟨q62, rfl, hE, hS⟩
    refine W.seq ?_
    refine W.region ?_
    refine WL.vS hS hE (runs_plain rfl) (Gives.p hE rfl) rfl ?_; clear hE a; intro a hE
    obtain ⟨x74, hx75, hr⟩ := bindS hr
    refine WL.vS hS hE (runs_plain rfl) (Gives.catS hE rfl rfl hx75) rfl ?_; clear hE a; intro a hE
    refine WL.vS hS hE (runs_plain rfl) (Gives.p hE rfl) rfl ?_; clear hE a; intro a hE
    refine WL.nil ?_
    refine W.ret ?_
    refine finG (fn := Tryd.f35) (rs := [.tmp 4]) (vs := [_]) hE rfl ⟨rfl, trivial⟩ ?_
    obtain rfl := Option.some.inj hr
    exact ⟨rfl, hS⟩
set_option maxHeartbeats 8000000 in
theorem PlanText_1_v1_ok  {w : World} {s : Sg} {R : List HP} {pb0 : Nat} {pb1 : Nat} {x0 : ByteArray} {x1 : List Int} {a1 : Option Addr} {c1 : Nat} {y0 : Bool} {y1_0 : ByteArray} (hS : St w s (pt pb0 (.cells #[.bool y0] 4 (0, 0)) :: sbC 71 5 pb1 y1_0 :: R)) (hTab : TabX s) (h1 : Sl 1 (RI .i64) s a1 c1 x1) {r : Bool × ByteArray} (hr : PlanText_1_v1 x0 x1 y0 y1_0 = some r) :
    Calls Tryd.prog 33 [.string x0, .slice a1 x1.length c1, .pointer (some ⟨pb0, 0, none⟩), .pointer (some ⟨pb1, 0, none⟩)].toArray w (fun e w => e = .returned (.tuple #[]) ∧ St w s (pt pb0 (.cells #[.bool r.1] 4 (0, 0)) :: sbC 71 5 pb1 r.2 :: R)) := by
  refine enter Tryd.func33 rfl rfl rfl fun a hE => ?_
  rw [PlanText_1_v1] at hr
  refine W.seq ?_
  refine W.seq ?_
  refine W.region ?_
  refine WL.vS hS hE (runs_plain rfl) (Gives.p hE rfl) rfl ?_; clear hE a; intro a hE
  refine WL.vS hS hE (runs_plain rfl) (Gives.len hE rfl sl23) rfl ?_; clear hE a; intro a hE
  refine WL.vS hS hE (runs_plain rfl) (Gives.p hE rfl) rfl ?_; clear hE a; intro a hE
  refine WL.nil ?_
  obtain ⟨q54, hq53, hr⟩ := bndS hr
  refine W.cut (fun a w => ∃ (q64 : Bool), q64 = q54 ∧ Rep a 24 [(0, .string x0), (1, .slice a1 x1.length c1), (3, .pointer (some ⟨pb1, 0, none⟩))] ∧ St w s (pt pb0 (.cells #[.bool q64] 4 (0, 0)) :: sbC 71 5 pb1 y1_0 :: R)) ?_ ?_
  · refine W.block ?_
    refine W.loop (fun m a w => ∃ (rest57 : List Int) (k55 : Nat), ∃ (q64 : Bool), rest57.length = m ∧ x1.drop k55 = rest57 ∧ PlanText_1_v1.loop1 rest57 q64 = q54 ∧ Rep a 24 [(0, .string x0), (1, .slice a1 x1.length c1), (2, .pointer (some ⟨pb0, 0, none⟩)), (3, .pointer (some ⟨pb1, 0, none⟩)), (8, .slice a1 x1.length c1), (9, .int .i64 ((x1).length : Int)), (10, .int .i64 ((k55 : Nat) : Int))] ∧ St w s (pt pb0 (.cells #[.bool q64] 4 (0, 0)) :: sbC 71 5 pb1 y1_0 :: R)) (m := x1.length) ⟨x1, 0, y0, rfl, rfl, hq53, hE.pick _ ⟨rfl, rfl, rfl, rfl, rfl, rfl, rfl, trivial⟩, hS⟩ ?_
    clear hE hS a w hq53; rintro m61 a w ⟨rest57, k55, q64, rfl, hd58, hq53, hE, hS⟩
    refine W.gen fun K65 hK65 => ?_
    rcases rest57 with _ | ⟨x56, rest57⟩
    · have hlt59 := drop_nil hd58
      refine W.seq ?_
      refine W.region ?_
      refine WL.vS hS hE (runs_plain rfl) (Gives.p hE rfl) rfl ?_; clear hE a; intro a hE
      refine WL.nil ?_
      refine W.seq ?_
      refine W.condF hE rfl (decide_eq_false (by omega)) ?_
      subst hK65
      refine W.exit rfl ?_
      exact ⟨q64, hq53, hE.pick _ ⟨rfl, rfl, rfl, trivial⟩, hS⟩
    · obtain ⟨hlt59, hx60, hd58⟩ := drop_cons hd58
      rw [PlanText_1_v1.loop1] at hq53
      refine W.seq ?_
      refine W.region ?_
      refine WL.vS hS hE (runs_plain rfl) (Gives.p hE rfl) rfl ?_; clear hE a; intro a hE
      refine WL.nil ?_
      refine W.seq ?_
      refine W.condT hE rfl (decide_eq_true (by omega)) ?_
      refine W.skip ?_
      refine W.seq ?_
      refine W.block ?_
      refine W.seq ?_
      refine W.region ?_
      obtain ⟨cs66, hl67, hR68, hat69⟩ := h1.at hx60
      subst hR68
      refine WL.vS hS hE (runs_plain rfl) (Gives.idx hE k55 rfl rfl sl23 rfl hlt59 (h1.aok hlt59)) rfl ?_; clear hE a; intro a hE
      refine WL.vS hS hE (runs_plain rfl) (Gives.load1 hE rfl (fun w h => hat69 w _ h) ty3) rfl ?_; clear hE a; intro a hE
      refine WL.vS hS hE (runs_plain rfl) (Gives.p hE rfl) rfl ?_; clear hE a; intro a hE
      refine WL.nil ?_
      obtain ⟨q71, hq70, hq53⟩ := bndS hq53
      refine W.cut (fun a w => ∃ (q74 : Bool), q74 = q71 ∧ Rep a 24 [(0, .string x0), (1, .slice a1 x1.length c1), (2, .pointer (some ⟨pb0, 0, none⟩)), (3, .pointer (some ⟨pb1, 0, none⟩)), (8, .slice a1 x1.length c1), (9, .int .i64 ((x1).length : Int)), (10, .int .i64 ((k55 : Nat) : Int))] ∧ St w s (pt pb0 (.cells #[.bool q74] 4 (0, 0)) :: sbC 71 5 pb1 y1_0 :: R)) ?_ ?_
      · refine W.gen fun K75 hK75 => ?_
        refine W.region ?_
        refine WL.vS hS hE (runs_plain rfl) (Gives.loadB hE 0 rfl rfl rfl ty4) rfl ?_; clear hE a; intro a hE
        refine WL.vS hS hE (runs_plain rfl) (Gives.p hE rfl) rfl ?_; clear hE a; intro a hE
        rcases Bool.eq_false_or_eq_true q64 with hg76 | hg76
        · replace hq70 := iteT hg76 hq70
          refine WL.vS hS hE (runs_if hE rfl rfl rfl hg76) (Gives.p hE rfl) rfl ?_; clear hE a; intro a hE
          refine WL.fnq hE (Planwithin_ok hS  rfl (r := Planwithin x56 0 999999)) (runs_if hE rfl rfl rfl hg76) bd25 rfl rfl rfl ?_
          clear hE hS; rintro e w ⟨rfl, hS⟩; refine ⟨_, rfl, ?_⟩; clear a; intro a hE
          refine WL.vS hS hE (runs_plain rfl) (Gives.pickT hE rfl hg76 rfl) rfl ?_; clear hE a; intro a hE
          refine WL.storeI hE hS 0 rfl [.bool (Planwithin x56 0 999999)] (runs_plain rfl) rfl rfl rfl ty4 rfl rfl rfl rfl ?_; clear hE hS a w; intro a w hE hS
          refine WL.nil ?_
          subst hK75
          exact ⟨(Planwithin x56 0 999999), hq70, hE.pick _ ⟨rfl, rfl, rfl, rfl, rfl, rfl, rfl, trivial⟩, hS⟩
        · replace hq70 := iteF hg76 hq70
          refine WL.no hE (runs_not hE rfl rfl rfl (by rw [hg76]; decide)) rfl ?_; clear hE a; intro a hE
          refine WL.no hE (runs_not hE rfl rfl rfl (by rw [hg76]; decide)) rfl ?_; clear hE a; intro a hE
          refine WL.vS hS hE (runs_plain rfl) (Gives.pickF hE rfl hg76 rfl) rfl ?_; clear hE a; intro a hE
          refine WL.storeI hE hS 0 rfl [.bool false] (runs_plain rfl) rfl rfl rfl ty4 rfl rfl rfl rfl ?_; clear hE hS a w; intro a w hE hS
          refine WL.nil ?_
          subst hK75
          exact ⟨false, hq70, hE.pick _ ⟨rfl, rfl, rfl, rfl, rfl, rfl, rfl, trivial⟩, hS⟩
      · clear hE hS a w; rintro a w ⟨q74, rfl, hE, hS⟩
        refine W.region ?_
        refine WL.vS hS hE (runs_plain rfl) (Gives.inc hE rfl (by have := h1.small; omega)) rfl ?_; clear hE a; intro a hE
        refine WL.vS hS hE (runs_plain rfl) (Gives.p hE rfl) rfl ?_; clear hE a; intro a hE
        refine WL.nil ?_
        subst hK65
        exact ⟨rest57.length, Nat.lt_succ_self _, rest57, k55 + 1, q74, rfl, hd58, hq53, hE.pick _ ⟨rfl, rfl, rfl, rfl, rfl, rfl, rfl, trivial⟩, hS⟩
  · clear hE hS a w; rintro a w ⟨q64, rfl, hE, hS⟩
    refine W.region ?_
    refine WL.vS hS hE (runs_plain rfl) (Gives.p hE rfl) rfl ?_; clear hE a; intro a hE
    refine WL.vS hS hE (runs_plain rfl) (Gives.p hE rfl) rfl ?_; clear hE a; intro a hE
    obtain ⟨q77, hq78, hr⟩ := bindS hr
    have hc_ := Plansentence_ok hS (TabG.mono (Sg.Le.refl _) hTab) h1 hq78
    refine WL.fnq hE (hc_) (runs_plain rfl) bd35 rfl rfl rfl ?_
    clear hE hS hc_; rintro e w ⟨rfl, hS⟩; refine ⟨_, rfl, ?_⟩; clear a; intro a hE
    replace hS := hS.front 1 rfl
    obtain ⟨q79, hq80, hr⟩ := bindS hr
    refine WL.fnq hE (sbWrite_ok hS hq80) (runs_plain rfl) bd34 rfl rfl rfl ?_
    clear hE hS; rintro e w ⟨rfl, hS⟩; refine ⟨_, rfl, ?_⟩; clear a; intro a hE
    refine WL.nil ?_
    refine finG (fn := Tryd.f33) (rs := []) (vs := []) hE rfl trivial ?_
    obtain rfl := Option.some.inj hr
    replace hS := hS.front 1 rfl
    exact ⟨rfl, hS⟩
set_option maxHeartbeats 8000000 in
theorem PlanText_ok  {w : World} {s : Sg} {R : List HP} {x0 : ApiDay} {a0_0 : Option Addr} {c0_0 : Nat} {a0_1 : Option Addr} {c0_1 : Nat} (hS : St w s (R)) (hTab : TabX s) (h0_0 : Sl 4 RApiTrain s a0_0 c0_0 x0.Trains) (h0_1 : Sl 1 (RL 1 (RI .i64)) s a0_1 c0_1 x0.Turns) {r : ByteArray × Int} (hr : PlanText x0 = some r) :
    Calls Tryd.prog 12 [.agg (List.toArray [.slice a0_0 x0.Trains.length c0_0, .slice a0_1 x0.Turns.length c0_1])].toArray w (fun e w => e = .returned (.tuple #[.string r.1, .int .i64 r.2]) ∧ St w s (R)) := by
  refine enter Tryd.func12 rfl rfl rfl fun a hE => ?_
  rw [PlanText] at hr
  refine W.seq ?_
  refine W.region ?_
  refine WL.box hE hS (runs_plain rfl) rfl rfl rfl ?_; clear hE hS a w; intro b51 a w hE hS
  refine WL.vS hS hE (runs_plain rfl) (Gives.p hE rfl) rfl ?_; clear hE a; intro a hE
  refine WL.vS hS hE (runs_plain rfl) (Gives.p hE rfl) rfl ?_; clear hE a; intro a hE
  refine WL.nil ?_
  refine W.seq ?_
  refine W.seq ?_
  refine W.region ?_
  refine WL.vS hS hE (runs_plain rfl) (Gives.loadBA hE 0 rfl rfl ty33) rfl ?_; clear hE a; intro a hE
  refine WL.fnq hE (Planform_ok hS h0_0 h0_1 rfl (r := Planform x0)) (runs_plain rfl) bd32 rfl rfl rfl ?_
  clear hE hS; rintro e w ⟨rfl, hS⟩; refine ⟨_, rfl, ?_⟩; clear a; intro a hE
  refine WL.vS hS hE (runs_plain rfl) (Gives.p hE rfl) rfl ?_; clear hE a; intro a hE
  refine WL.nil ?_
  refine W.seq ?_
  refine W.region ?_
  refine WL.vS hS hE (runs_plain rfl) (Gives.p hE rfl) rfl ?_; clear hE a; intro a hE
  refine WL.vS hS hE (runs_plain rfl) (Gives.p hE rfl) rfl ?_; clear hE a; intro a hE
  refine WL.nil ?_
  refine W.cond hE rfl (fun hc52 => ?_) (fun hc52 => ?_)
  · replace hr := iteT hc52 hr
    refine W.seq ?_
    refine W.region ?_
    refine WL.vS hS hE (runs_plain rfl) (Gives.p hE rfl) rfl ?_; clear hE a; intro a hE
    refine WL.vS hS hE (runs_plain rfl) (Gives.p hE rfl) rfl ?_; clear hE a; intro a hE
    refine WL.vS hS hE (runs_plain rfl) (Gives.p hE rfl) rfl ?_; clear hE a; intro a hE
    refine WL.nil ?_
    refine W.ret ?_
    refine finG (fn := Tryd.f12) (rs := [.tmp 2, .tmp 3]) (vs := [_, _]) hE rfl ⟨rfl, rfl, trivial⟩ ?_
    obtain rfl := Option.some.inj hr
    replace hS := hS.tail
    exact ⟨rfl, hS⟩
  · replace hr := iteF hc52 hr
    refine W.skip ?_
    refine W.seq ?_
    refine W.region ?_
    refine WL.alloc hE hS (runs_plain rfl) zr71 rfl ?_; clear hE hS a w; intro b53 a w hE hS
    replace hS := hS.sbNew 5
    refine WL.nil ?_
    refine W.seq ?_
    refine W.region ?_
    refine WL.alloc hE hS (runs_plain rfl) zr4 rfl ?_; clear hE hS a w; intro b54 a w hE hS
    refine WL.storeI hE hS 0 rfl [.bool true] (runs_plain rfl) rfl rfl rfl ty4 rfl rfl rfl rfl ?_; clear hE hS a w; intro a w hE hS
    refine WL.nil ?_
    refine W.seq ?_
    refine W.region ?_
    refine WL.vS hS hE (runs_plain rfl) (Gives.mkfn hE (vs := [.pointer (some ⟨b54, 0, none⟩), .pointer (some ⟨b53, 0, none⟩)]) rfl) rfl ?_; clear hE a; intro a hE
    refine WL.vS hS hE (runs_plain rfl) (Gives.p hE rfl) rfl ?_; clear hE a; intro a hE
    refine WL.nil ?_
    refine W.seq ?_
    refine W.seq ?_
    refine W.region ?_
    refine WL.vS hS hE (runs_plain rfl) (Gives.fld hE rfl fl33_0) rfl ?_; clear hE a; intro a hE
    refine WL.vS hS hE (runs_plain rfl) (Gives.loadB hE 2 rfl rfl rfl ty30) rfl ?_; clear hE a; intro a hE
    refine WL.vS hS hE (runs_plain rfl) (Gives.len hE rfl sl30) rfl ?_; clear hE a; intro a hE
    refine WL.vS hS hE (runs_plain rfl) (Gives.p hE rfl) rfl ?_; clear hE a; intro a hE
    refine WL.nil ?_
    obtain ⟨q56, hq55, hr⟩ := bindS hr
    refine W.cut (fun a w => ∃ (q66 : ByteArray), ∃ (q67 : Bool), ∃ (s64 : Sg), s.Le s64 ∧ (q66, q67) = q56 ∧ Rep a 81 [(1, .pointer (some ⟨b51, 0, none⟩)), (5, .pointer (some ⟨b53, 0, none⟩)), (6, .pointer (some ⟨b54, 0, none⟩)), (7, .func (.func 33) #[] #[.pointer (some ⟨b54, 0, none⟩), .pointer (some ⟨b53, 0, none⟩)])] ∧ St w s64 (pt b54 (.cells #[.bool q67] 4 (0, 0)) :: sbC 71 5 b53 q66 :: pt b51 (.cells #[.slice a0_0 x0.Trains.length c0_0, .slice a0_1 x0.Turns.length c0_1] 33 (0, 0)) :: R)) ?_ ?_
    · refine W.block ?_
      refine W.loop (fun m a w => ∃ (rest59 : List ApiTrain) (k57 : Nat), ∃ (q66 : ByteArray), ∃ (q67 : Bool), ∃ (s64 : Sg), rest59.length = m ∧ x0.Trains.drop k57 = rest59 ∧ s.Le s64 ∧ PlanText.loop1 rest59 q66 q67 = some q56 ∧ Rep a 81 [(1, .pointer (some ⟨b51, 0, none⟩)), (5, .pointer (some ⟨b53, 0, none⟩)), (6, .pointer (some ⟨b54, 0, none⟩)), (7, .func (.func 33) #[] #[.pointer (some ⟨b54, 0, none⟩), .pointer (some ⟨b53, 0, none⟩)]), (23, .slice a0_0 x0.Trains.length c0_0), (24, .int .i64 ((x0.Trains).length : Int)), (25, .int .i64 ((k57 : Nat) : Int))] ∧ St w s64 (pt b54 (.cells #[.bool q67] 4 (0, 0)) :: sbC 71 5 b53 q66 :: pt b51 (.cells #[.slice a0_0 x0.Trains.length c0_0, .slice a0_1 x0.Turns.length c0_1] 33 (0, 0)) :: R)) (m := x0.Trains.length) ⟨x0.Trains, 0, ByteArray.empty, true, s, rfl, rfl, (Sg.Le.refl _), hq55, hE.pick _ ⟨rfl, rfl, rfl, rfl, rfl, rfl, rfl, trivial⟩, hS⟩ ?_
      clear hE hS a w hq55; rintro m63 a w ⟨rest59, k57, q66, q67, s64, rfl, hd60, hle65, hq55, hE, hS⟩
      refine W.gen fun K68 hK68 => ?_
      replace h0_0 := Sl.mono RApiTrain.mono hle65 h0_0
      replace h0_1 := Sl.mono (RL.mono RI.mono) hle65 h0_1
      rcases rest59 with _ | ⟨x58, rest59⟩
      · have hlt61 := drop_nil hd60
        refine W.seq ?_
        refine W.region ?_
        refine WL.vS hS hE (runs_plain rfl) (Gives.p hE rfl) rfl ?_; clear hE a; intro a hE
        refine WL.nil ?_
        refine W.seq ?_
        refine W.condF hE rfl (decide_eq_false (by omega)) ?_
        subst hK68
        refine W.exit rfl ?_
        exact ⟨q66, q67, s64, hle65, Option.some.inj hq55, hE.pick _ ⟨rfl, rfl, rfl, rfl, trivial⟩, hS⟩
      · obtain ⟨hlt61, hx62, hd60⟩ := drop_cons hd60
        rw [PlanText.loop1] at hq55
        refine W.seq ?_
        refine W.region ?_
        refine WL.vS hS hE (runs_plain rfl) (Gives.p hE rfl) rfl ?_; clear hE a; intro a hE
        refine WL.nil ?_
        refine W.seq ?_
        refine W.condT hE rfl (decide_eq_true (by omega)) ?_
        refine W.skip ?_
        refine W.seq ?_
        refine W.block ?_
        refine W.seq ?_
        refine W.region ?_
        obtain ⟨cs69, hl70, hR71, hat72⟩ := h0_0.at hx62
        obtain ⟨a73, c74, a76, c77, rfl, h75, h78⟩ := hR71
        refine WL.vS hS hE (runs_plain rfl) (Gives.idx hE k57 rfl rfl sl30 rfl hlt61 (h0_0.aok hlt61)) rfl ?_; clear hE a; intro a hE
        refine WL.vS hS hE (runs_plain rfl) (Gives.loadA hE rfl (fun w h => hat72 w _ h) ty67) rfl ?_; clear hE a; intro a hE
        refine WL.alloc hE hS (runs_plain rfl) zr67 rfl ?_; clear hE hS a w; intro b79 a w hE hS
        refine WL.storeI hE hS 0 rfl [.int .i64 x58.No, .int .i64 x58.Stock, .slice a73 x58.Stops.length c74, .slice a76 x58.Legs.length c77] (runs_plain rfl) rfl rfl rfl ty67 rfl rfl rfl rfl ?_; clear hE hS a w; intro a w hE hS
        refine WL.nil ?_
        refine W.seq ?_
        refine W.region ?_
        refine WL.vS hS hE (runs_plain rfl) (Gives.p hE rfl) rfl ?_; clear hE a; intro a hE
        refine WL.vS hS hE (runs_plain rfl) (Gives.fld hE rfl fl67_0) rfl ?_; clear hE a; intro a hE
        refine WL.vS hS hE (runs_plain rfl) (Gives.loadB hE 0 rfl rfl rfl ty3) rfl ?_; clear hE a; intro a hE
        refine WL.vS hS hE (runs_plain rfl) (Gives.fld hE rfl fl67_1) rfl ?_; clear hE a; intro a hE
        refine WL.vS hS hE (runs_plain rfl) (Gives.loadB hE 0 rfl rfl rfl ty3) rfl ?_; clear hE a; intro a hE
        refine WL.lit hE hS (e := 3) (es := 1) (vs := [(0, .int .i64 x58.No), (1, .int .i64 x58.Stock)]) (cs := [.int .i64 x58.No, .int .i64 x58.Stock]) (runs_plain rfl) rfl (by kernel_rfl) rfl ?_; clear hE hS a w; intro b80 a w hE hS
        replace hS := hS.ptVec (es := 1) (m := 2) rfl (by decide)
        have h82 : Ev 1 (RI .i64) s64 [.int .i64 x58.No, .int .i64 x58.Stock] [x58.No, x58.Stock] := (Ev.cons (c1 := [.int .i64 x58.No]) rfl rfl (Ev.cons (c1 := [.int .i64 x58.Stock]) rfl rfl (Ev.nil)))
        have hF := hS.fixD RI.mono 0 rfl h82 (rfl); clear hS; obtain ⟨s83, hle84, hS, h85⟩ := hF
        replace h0_0 := Sl.mono RApiTrain.mono hle84 h0_0
        replace h75 := Sl.mono RApiStop.mono hle84 h75
        replace h78 := Sl.mono (RL.mono RI.mono) hle84 h78
        replace h0_1 := Sl.mono (RL.mono RI.mono) hle84 h0_1
        obtain ⟨q86, hq87, hq55⟩ := bindS hq55
        replace hS := hS.front 2 rfl
        replace hS := hS.front 2 rfl
        have hc_ := PlanText_1_v1_ok hS (TabG.mono (Sg.Le.trans hle65 hle84) hTab) h85 hq87
        refine WL.fnw hE (hc_) rfl (runs_plain rfl) bd33 rfl rfl rfl ?_
        clear hE hS hc_; rintro e w ⟨rfl, hS⟩; refine ⟨_, rfl, ?_⟩; clear a; intro a hE
        refine WL.nil ?_
        refine W.seq ?_
        refine W.seq ?_
        refine W.region ?_
        refine WL.vS hS hE (runs_plain rfl) (Gives.fld hE rfl fl67_2) rfl ?_; clear hE a; intro a hE
        refine WL.vS hS hE (runs_plain rfl) (Gives.loadB hE 2 rfl rfl rfl ty65) rfl ?_; clear hE a; intro a hE
        refine WL.vS hS hE (runs_plain rfl) (Gives.len hE rfl sl65) rfl ?_; clear hE a; intro a hE
        refine WL.vS hS hE (runs_plain rfl) (Gives.p hE rfl) rfl ?_; clear hE a; intro a hE
        refine WL.nil ?_
        obtain ⟨q89, hq88, hq55⟩ := bindS hq55
        refine W.cut (fun a w => ∃ (q99 : ByteArray), ∃ (q100 : Bool), ∃ (s97 : Sg), s83.Le s97 ∧ (q99, q100) = q89 ∧ Rep a 81 [(1, .pointer (some ⟨b51, 0, none⟩)), (5, .pointer (some ⟨b53, 0, none⟩)), (6, .pointer (some ⟨b54, 0, none⟩)), (7, .func (.func 33) #[] #[.pointer (some ⟨b54, 0, none⟩), .pointer (some ⟨b53, 0, none⟩)]), (9, .pointer (some ⟨b79, 0, none⟩)), (23, .slice a0_0 x0.Trains.length c0_0), (24, .int .i64 ((x0.Trains).length : Int)), (25, .int .i64 ((k57 : Nat) : Int))] ∧ St w s97 (pt b54 (.cells #[.bool q100] 4 (0, 0)) :: sbC 71 5 b53 q99 :: pt b79 (.cells #[.int .i64 x58.No, .int .i64 x58.Stock, .slice a73 x58.Stops.length c74, .slice a76 x58.Legs.length c77] 67 (0, 0)) :: pt b51 (.cells #[.slice a0_0 x0.Trains.length c0_0, .slice a0_1 x0.Turns.length c0_1] 33 (0, 0)) :: R)) ?_ ?_
        · refine W.block ?_
          refine W.loop (fun m a w => ∃ (rest92 : List ApiStop) (k90 : Nat), ∃ (q99 : ByteArray), ∃ (q100 : Bool), ∃ (s97 : Sg), rest92.length = m ∧ x58.Stops.drop k90 = rest92 ∧ s83.Le s97 ∧ PlanText.loop2 rest92 q99 q100 = some q89 ∧ Rep a 81 [(1, .pointer (some ⟨b51, 0, none⟩)), (5, .pointer (some ⟨b53, 0, none⟩)), (6, .pointer (some ⟨b54, 0, none⟩)), (7, .func (.func 33) #[] #[.pointer (some ⟨b54, 0, none⟩), .pointer (some ⟨b53, 0, none⟩)]), (9, .pointer (some ⟨b79, 0, none⟩)), (23, .slice a0_0 x0.Trains.length c0_0), (24, .int .i64 ((x0.Trains).length : Int)), (25, .int .i64 ((k57 : Nat) : Int)), (37, .slice a73 x58.Stops.length c74), (38, .int .i64 ((x58.Stops).length : Int)), (39, .int .i64 ((k90 : Nat) : Int))] ∧ St w s97 (pt b54 (.cells #[.bool q100] 4 (0, 0)) :: sbC 71 5 b53 q99 :: pt b79 (.cells #[.int .i64 x58.No, .int .i64 x58.Stock, .slice a73 x58.Stops.length c74, .slice a76 x58.Legs.length c77] 67 (0, 0)) :: pt b51 (.cells #[.slice a0_0 x0.Trains.length c0_0, .slice a0_1 x0.Turns.length c0_1] 33 (0, 0)) :: R)) (m := x58.Stops.length) ⟨x58.Stops, 0, q86.2, q86.1, s83, rfl, rfl, (Sg.Le.refl _), hq88, hE.pick _ ⟨rfl, rfl, rfl, rfl, rfl, rfl, rfl, rfl, rfl, rfl, rfl, trivial⟩, hS⟩ ?_
          clear hE hS a w hq88; rintro m96 a w ⟨rest92, k90, q99, q100, s97, rfl, hd93, hle98, hq88, hE, hS⟩
          refine W.gen fun K101 hK101 => ?_
          replace h0_0 := Sl.mono RApiTrain.mono hle98 h0_0
          replace h75 := Sl.mono RApiStop.mono hle98 h75
          replace h78 := Sl.mono (RL.mono RI.mono) hle98 h78
          replace h85 := Sl.mono RI.mono hle98 h85
          replace h0_1 := Sl.mono (RL.mono RI.mono) hle98 h0_1
          rcases rest92 with _ | ⟨x91, rest92⟩
          · have hlt94 := drop_nil hd93
            refine W.seq ?_
            refine W.region ?_
            refine WL.vS hS hE (runs_plain rfl) (Gives.p hE rfl) rfl ?_; clear hE a; intro a hE
            refine WL.nil ?_
            refine W.seq ?_
            refine W.condF hE rfl (decide_eq_false (by omega)) ?_
            subst hK101
            refine W.exit rfl ?_
            exact ⟨q99, q100, s97, hle98, Option.some.inj hq88, hE.pick _ ⟨rfl, rfl, rfl, rfl, rfl, rfl, rfl, rfl, trivial⟩, hS⟩
          · obtain ⟨hlt94, hx95, hd93⟩ := drop_cons hd93
            rw [PlanText.loop2] at hq88
            refine W.seq ?_
            refine W.region ?_
            refine WL.vS hS hE (runs_plain rfl) (Gives.p hE rfl) rfl ?_; clear hE a; intro a hE
            refine WL.nil ?_
            refine W.seq ?_
            refine W.condT hE rfl (decide_eq_true (by omega)) ?_
            refine W.skip ?_
            refine W.seq ?_
            refine W.block ?_
            refine W.seq ?_
            refine W.region ?_
            obtain ⟨cs102, hl103, hR104, hat105⟩ := h75.at hx95
            subst hR104
            refine WL.vS hS hE (runs_plain rfl) (Gives.idx hE k90 rfl rfl sl65 rfl hlt94 (h75.aok hlt94)) rfl ?_; clear hE a; intro a hE
            refine WL.vS hS hE (runs_plain rfl) (Gives.loadA hE rfl (fun w h => hat105 w _ h) ty64) rfl ?_; clear hE a; intro a hE
            refine WL.alloc hE hS (runs_plain rfl) zr64 rfl ?_; clear hE hS a w; intro b106 a w hE hS
            refine WL.storeI hE hS 0 rfl (ApiStop.cells x91) (runs_plain rfl) rfl rfl rfl ty64 rfl rfl rfl rfl ?_; clear hE hS a w; intro a w hE hS
            refine WL.nil ?_
            refine W.region ?_
            refine WL.vS hS hE (runs_plain rfl) (Gives.p hE rfl) rfl ?_; clear hE a; intro a hE
            refine WL.vS hS hE (runs_plain rfl) (Gives.fld hE rfl fl64_0) rfl ?_; clear hE a; intro a hE
            refine WL.vS hS hE (runs_plain rfl) (Gives.loadB hE 0 rfl rfl rfl ty3) rfl ?_; clear hE a; intro a hE
            refine WL.vS hS hE (runs_plain rfl) (Gives.fld hE rfl fl64_1) rfl ?_; clear hE a; intro a hE
            refine WL.vS hS hE (runs_plain rfl) (Gives.loadB hE 0 rfl rfl rfl ty3) rfl ?_; clear hE a; intro a hE
            refine WL.vS hS hE (runs_plain rfl) (Gives.fld hE rfl fl64_2) rfl ?_; clear hE a; intro a hE
            refine WL.vS hS hE (runs_plain rfl) (Gives.loadB hE 0 rfl rfl rfl ty3) rfl ?_; clear hE a; intro a hE
            refine WL.vS hS hE (runs_plain rfl) (Gives.fld hE rfl fl64_3) rfl ?_; clear hE a; intro a hE
            refine WL.vS hS hE (runs_plain rfl) (Gives.loadB hE 0 rfl rfl rfl ty3) rfl ?_; clear hE a; intro a hE
            refine WL.lit hE hS (e := 3) (es := 1) (vs := [(0, .int .i64 x91.Station), (1, .int .i64 x91.Track), (2, .int .i64 x91.Arr), (3, .int .i64 x91.Dep)]) (cs := [.int .i64 x91.Station, .int .i64 x91.Track, .int .i64 x91.Arr, .int .i64 x91.Dep]) (runs_plain rfl) rfl (by kernel_rfl) rfl ?_; clear hE hS a w; intro b107 a w hE hS
            replace hS := hS.ptVec (es := 1) (m := 4) rfl (by decide)
            have h109 : Ev 1 (RI .i64) s97 [.int .i64 x91.Station, .int .i64 x91.Track, .int .i64 x91.Arr, .int .i64 x91.Dep] [x91.Station, x91.Track, x91.Arr, x91.Dep] := (Ev.cons (c1 := [.int .i64 x91.Station]) rfl rfl (Ev.cons (c1 := [.int .i64 x91.Track]) rfl rfl (Ev.cons (c1 := [.int .i64 x91.Arr]) rfl rfl (Ev.cons (c1 := [.int .i64 x91.Dep]) rfl rfl (Ev.nil)))))
            have hF := hS.fixD RI.mono 0 rfl h109 (rfl); clear hS; obtain ⟨s110, hle111, hS, h112⟩ := hF
            replace h0_0 := Sl.mono RApiTrain.mono hle111 h0_0
            replace h75 := Sl.mono RApiStop.mono hle111 h75
            replace h78 := Sl.mono (RL.mono RI.mono) hle111 h78
            replace h0_1 := Sl.mono (RL.mono RI.mono) hle111 h0_1
            obtain ⟨q113, hq114, hq88⟩ := bindS hq88
            replace hS := hS.front 2 rfl
            replace hS := hS.front 2 rfl
            have hc_ := PlanText_1_v1_ok hS (TabG.mono (Sg.Le.trans (Sg.Le.trans (Sg.Le.trans hle65 hle84) hle98) hle111) hTab) h112 hq114
            refine WL.fnw hE (hc_) rfl (runs_plain rfl) bd33 rfl rfl rfl ?_
            clear hE hS hc_; rintro e w ⟨rfl, hS⟩; refine ⟨_, rfl, ?_⟩; clear a; intro a hE
            refine WL.nil ?_
            refine W.region ?_
            refine WL.vS hS hE (runs_plain rfl) (Gives.inc hE rfl (by have := h75.small; omega)) rfl ?_; clear hE a; intro a hE
            refine WL.vS hS hE (runs_plain rfl) (Gives.p hE rfl) rfl ?_; clear hE a; intro a hE
            refine WL.nil ?_
            replace hS := hS.dropAt 2
            subst hK101
            exact ⟨rest92.length, Nat.lt_succ_self _, rest92, k90 + 1, q113.2, q113.1, s110, rfl, hd93, (Sg.Le.trans hle98 hle111), hq88, hE.pick _ ⟨rfl, rfl, rfl, rfl, rfl, rfl, rfl, rfl, rfl, rfl, rfl, trivial⟩, hS⟩
        · clear hE hS a w; rintro a w ⟨q99, q100, s97, hle98, rfl, hE, hS⟩
          dsimp only at hq55
          replace h0_0 := Sl.mono RApiTrain.mono hle98 h0_0
          replace h75 := Sl.mono RApiStop.mono hle98 h75
          replace h78 := Sl.mono (RL.mono RI.mono) hle98 h78
          replace h85 := Sl.mono RI.mono hle98 h85
          replace h0_1 := Sl.mono (RL.mono RI.mono) hle98 h0_1
          refine W.seq ?_
          refine W.region ?_
          refine WL.vS hS hE (runs_plain rfl) (Gives.fld hE rfl fl67_3) rfl ?_; clear hE a; intro a hE
          refine WL.vS hS hE (runs_plain rfl) (Gives.loadB hE 2 rfl rfl rfl ty31) rfl ?_; clear hE a; intro a hE
          refine WL.vS hS hE (runs_plain rfl) (Gives.len hE rfl sl31) rfl ?_; clear hE a; intro a hE
          refine WL.vS hS hE (runs_plain rfl) (Gives.p hE rfl) rfl ?_; clear hE a; intro a hE
          refine WL.nil ?_
          obtain ⟨q116, hq115, hq55⟩ := bindS hq55
          refine W.cut (fun a w => ∃ (q126 : ByteArray), ∃ (q127 : Bool), (q126, q127) = q116 ∧ Rep a 81 [(1, .pointer (some ⟨b51, 0, none⟩)), (5, .pointer (some ⟨b53, 0, none⟩)), (6, .pointer (some ⟨b54, 0, none⟩)), (7, .func (.func 33) #[] #[.pointer (some ⟨b54, 0, none⟩), .pointer (some ⟨b53, 0, none⟩)]), (23, .slice a0_0 x0.Trains.length c0_0), (24, .int .i64 ((x0.Trains).length : Int)), (25, .int .i64 ((k57 : Nat) : Int))] ∧ St w s97 (pt b54 (.cells #[.bool q127] 4 (0, 0)) :: sbC 71 5 b53 q126 :: pt b79 (.cells #[.int .i64 x58.No, .int .i64 x58.Stock, .slice a73 x58.Stops.length c74, .slice a76 x58.Legs.length c77] 67 (0, 0)) :: pt b51 (.cells #[.slice a0_0 x0.Trains.length c0_0, .slice a0_1 x0.Turns.length c0_1] 33 (0, 0)) :: R)) ?_ ?_
          · refine W.block ?_
            refine W.loop (fun m a w => ∃ (rest119 : List (List Int)) (k117 : Nat), ∃ (q126 : ByteArray), ∃ (q127 : Bool), rest119.length = m ∧ x58.Legs.drop k117 = rest119 ∧ PlanText.loop3 rest119 q126 q127 = some q116 ∧ Rep a 81 [(1, .pointer (some ⟨b51, 0, none⟩)), (5, .pointer (some ⟨b53, 0, none⟩)), (6, .pointer (some ⟨b54, 0, none⟩)), (7, .func (.func 33) #[] #[.pointer (some ⟨b54, 0, none⟩), .pointer (some ⟨b53, 0, none⟩)]), (23, .slice a0_0 x0.Trains.length c0_0), (24, .int .i64 ((x0.Trains).length : Int)), (25, .int .i64 ((k57 : Nat) : Int)), (56, .slice a76 x58.Legs.length c77), (57, .int .i64 ((x58.Legs).length : Int)), (58, .int .i64 ((k117 : Nat) : Int))] ∧ St w s97 (pt b54 (.cells #[.bool q127] 4 (0, 0)) :: sbC 71 5 b53 q126 :: pt b79 (.cells #[.int .i64 x58.No, .int .i64 x58.Stock, .slice a73 x58.Stops.length c74, .slice a76 x58.Legs.length c77] 67 (0, 0)) :: pt b51 (.cells #[.slice a0_0 x0.Trains.length c0_0, .slice a0_1 x0.Turns.length c0_1] 33 (0, 0)) :: R)) (m := x58.Legs.length) ⟨x58.Legs, 0, q99, q100, rfl, rfl, hq115, hE.pick _ ⟨rfl, rfl, rfl, rfl, rfl, rfl, rfl, rfl, rfl, rfl, trivial⟩, hS⟩ ?_
            clear hE hS a w hq115; rintro m123 a w ⟨rest119, k117, q126, q127, rfl, hd120, hq115, hE, hS⟩
            refine W.gen fun K128 hK128 => ?_
            rcases rest119 with _ | ⟨x118, rest119⟩
            · have hlt121 := drop_nil hd120
              refine W.seq ?_
              refine W.region ?_
              refine WL.vS hS hE (runs_plain rfl) (Gives.p hE rfl) rfl ?_; clear hE a; intro a hE
              refine WL.nil ?_
              refine W.seq ?_
              refine W.condF hE rfl (decide_eq_false (by omega)) ?_
              subst hK128
              refine W.exit rfl ?_
              exact ⟨q126, q127, Option.some.inj hq115, hE.pick _ ⟨rfl, rfl, rfl, rfl, rfl, rfl, rfl, trivial⟩, hS⟩
            · obtain ⟨hlt121, hx122, hd120⟩ := drop_cons hd120
              rw [PlanText.loop3] at hq115
              refine W.seq ?_
              refine W.region ?_
              refine WL.vS hS hE (runs_plain rfl) (Gives.p hE rfl) rfl ?_; clear hE a; intro a hE
              refine WL.nil ?_
              refine W.seq ?_
              refine W.condT hE rfl (decide_eq_true (by omega)) ?_
              refine W.skip ?_
              refine W.seq ?_
              refine W.block ?_
              refine W.seq ?_
              refine W.region ?_
              obtain ⟨cs129, hl130, hR131, hat132⟩ := h78.at hx122
              obtain ⟨a133, c134, rfl, h135⟩ := hR131
              refine WL.vS hS hE (runs_plain rfl) (Gives.idx hE k117 rfl rfl sl31 rfl hlt121 (h78.aok hlt121)) rfl ?_; clear hE a; intro a hE
              refine WL.vS hS hE (runs_plain rfl) (Gives.load1 hE rfl (fun w h => hat132 w _ h) ty23) rfl ?_; clear hE a; intro a hE
              refine WL.vS hS hE (runs_plain rfl) (Gives.p hE rfl) rfl ?_; clear hE a; intro a hE
              refine WL.nil ?_
              refine W.region ?_
              refine WL.vS hS hE (runs_plain rfl) (Gives.p hE rfl) rfl ?_; clear hE a; intro a hE
              refine WL.vS hS hE (runs_plain rfl) (Gives.p hE rfl) rfl ?_; clear hE a; intro a hE
              obtain ⟨q136, hq137, hq115⟩ := bindS hq115
              have hc_ := PlanText_1_v1_ok hS (TabG.mono (Sg.Le.trans (Sg.Le.trans hle65 hle84) hle98) hTab) h135 hq137
              refine WL.fnw hE (hc_) rfl (runs_plain rfl) bd33 rfl rfl rfl ?_
              clear hE hS hc_; rintro e w ⟨rfl, hS⟩; refine ⟨_, rfl, ?_⟩; clear a; intro a hE
              refine WL.nil ?_
              refine W.region ?_
              refine WL.vS hS hE (runs_plain rfl) (Gives.inc hE rfl (by have := h78.small; omega)) rfl ?_; clear hE a; intro a hE
              refine WL.vS hS hE (runs_plain rfl) (Gives.p hE rfl) rfl ?_; clear hE a; intro a hE
              refine WL.nil ?_
              subst hK128
              exact ⟨rest119.length, Nat.lt_succ_self _, rest119, k117 + 1, q136.2, q136.1, rfl, hd120, hq115, hE.pick _ ⟨rfl, rfl, rfl, rfl, rfl, rfl, rfl, rfl, rfl, rfl, trivial⟩, hS⟩
          · clear hE hS a w; rintro a w ⟨q126, q127, rfl, hE, hS⟩
            dsimp only at hq55
            refine W.region ?_
            refine WL.vS hS hE (runs_plain rfl) (Gives.inc hE rfl (by have := h0_0.small; omega)) rfl ?_; clear hE a; intro a hE
            refine WL.vS hS hE (runs_plain rfl) (Gives.p hE rfl) rfl ?_; clear hE a; intro a hE
            refine WL.nil ?_
            replace hS := hS.dropAt 2
            subst hK68
            exact ⟨rest59.length, Nat.lt_succ_self _, rest59, k57 + 1, q126, q127, s97, rfl, hd60, (Sg.Le.trans (Sg.Le.trans hle65 hle84) hle98), hq55, hE.pick _ ⟨rfl, rfl, rfl, rfl, rfl, rfl, rfl, trivial⟩, hS⟩
    · clear hE hS a w; rintro a w ⟨q66, q67, s64, hle65, rfl, hE, hS⟩
      dsimp only at hr
      replace h0_0 := Sl.mono RApiTrain.mono hle65 h0_0
      replace h0_1 := Sl.mono (RL.mono RI.mono) hle65 h0_1
      refine W.seq ?_
      refine W.seq ?_
      refine W.region ?_
      refine WL.vS hS hE (runs_plain rfl) (Gives.fld hE rfl fl33_1) rfl ?_; clear hE a; intro a hE
      refine WL.vS hS hE (runs_plain rfl) (Gives.loadB hE 2 rfl rfl rfl ty31) rfl ?_; clear hE a; intro a hE
      refine WL.vS hS hE (runs_plain rfl) (Gives.len hE rfl sl31) rfl ?_; clear hE a; intro a hE
      refine WL.vS hS hE (runs_plain rfl) (Gives.p hE rfl) rfl ?_; clear hE a; intro a hE
      refine WL.nil ?_
      obtain ⟨q139, hq138, hr⟩ := bindS hr
      refine W.cut (fun a w => ∃ (q149 : ByteArray), ∃ (q150 : Bool), (q149, q150) = q139 ∧ Rep a 81 [(5, .pointer (some ⟨b53, 0, none⟩)), (6, .pointer (some ⟨b54, 0, none⟩))] ∧ St w s64 (pt b54 (.cells #[.bool q150] 4 (0, 0)) :: sbC 71 5 b53 q149 :: pt b51 (.cells #[.slice a0_0 x0.Trains.length c0_0, .slice a0_1 x0.Turns.length c0_1] 33 (0, 0)) :: R)) ?_ ?_
      · refine W.block ?_
        refine W.loop (fun m a w => ∃ (rest142 : List (List Int)) (k140 : Nat), ∃ (q149 : ByteArray), ∃ (q150 : Bool), rest142.length = m ∧ x0.Turns.drop k140 = rest142 ∧ PlanText.loop4 rest142 q149 q150 = some q139 ∧ Rep a 81 [(5, .pointer (some ⟨b53, 0, none⟩)), (6, .pointer (some ⟨b54, 0, none⟩)), (7, .func (.func 33) #[] #[.pointer (some ⟨b54, 0, none⟩), .pointer (some ⟨b53, 0, none⟩)]), (68, .slice a0_1 x0.Turns.length c0_1), (69, .int .i64 ((x0.Turns).length : Int)), (70, .int .i64 ((k140 : Nat) : Int))] ∧ St w s64 (pt b54 (.cells #[.bool q150] 4 (0, 0)) :: sbC 71 5 b53 q149 :: pt b51 (.cells #[.slice a0_0 x0.Trains.length c0_0, .slice a0_1 x0.Turns.length c0_1] 33 (0, 0)) :: R)) (m := x0.Turns.length) ⟨x0.Turns, 0, q66, q67, rfl, rfl, hq138, hE.pick _ ⟨rfl, rfl, rfl, rfl, rfl, rfl, trivial⟩, hS⟩ ?_
        clear hE hS a w hq138; rintro m146 a w ⟨rest142, k140, q149, q150, rfl, hd143, hq138, hE, hS⟩
        refine W.gen fun K151 hK151 => ?_
        rcases rest142 with _ | ⟨x141, rest142⟩
        · have hlt144 := drop_nil hd143
          refine W.seq ?_
          refine W.region ?_
          refine WL.vS hS hE (runs_plain rfl) (Gives.p hE rfl) rfl ?_; clear hE a; intro a hE
          refine WL.nil ?_
          refine W.seq ?_
          refine W.condF hE rfl (decide_eq_false (by omega)) ?_
          subst hK151
          refine W.exit rfl ?_
          exact ⟨q149, q150, Option.some.inj hq138, hE.pick _ ⟨rfl, rfl, trivial⟩, hS⟩
        · obtain ⟨hlt144, hx145, hd143⟩ := drop_cons hd143
          rw [PlanText.loop4] at hq138
          refine W.seq ?_
          refine W.region ?_
          refine WL.vS hS hE (runs_plain rfl) (Gives.p hE rfl) rfl ?_; clear hE a; intro a hE
          refine WL.nil ?_
          refine W.seq ?_
          refine W.condT hE rfl (decide_eq_true (by omega)) ?_
          refine W.skip ?_
          refine W.seq ?_
          refine W.block ?_
          refine W.seq ?_
          refine W.region ?_
          obtain ⟨cs152, hl153, hR154, hat155⟩ := h0_1.at hx145
          obtain ⟨a156, c157, rfl, h158⟩ := hR154
          refine WL.vS hS hE (runs_plain rfl) (Gives.idx hE k140 rfl rfl sl31 rfl hlt144 (h0_1.aok hlt144)) rfl ?_; clear hE a; intro a hE
          refine WL.vS hS hE (runs_plain rfl) (Gives.load1 hE rfl (fun w h => hat155 w _ h) ty23) rfl ?_; clear hE a; intro a hE
          refine WL.vS hS hE (runs_plain rfl) (Gives.p hE rfl) rfl ?_; clear hE a; intro a hE
          refine WL.nil ?_
          refine W.region ?_
          refine WL.vS hS hE (runs_plain rfl) (Gives.p hE rfl) rfl ?_; clear hE a; intro a hE
          refine WL.vS hS hE (runs_plain rfl) (Gives.p hE rfl) rfl ?_; clear hE a; intro a hE
          obtain ⟨q159, hq160, hq138⟩ := bindS hq138
          have hc_ := PlanText_1_v1_ok hS (TabG.mono hle65 hTab) h158 hq160
          refine WL.fnw hE (hc_) rfl (runs_plain rfl) bd33 rfl rfl rfl ?_
          clear hE hS hc_; rintro e w ⟨rfl, hS⟩; refine ⟨_, rfl, ?_⟩; clear a; intro a hE
          refine WL.nil ?_
          refine W.region ?_
          refine WL.vS hS hE (runs_plain rfl) (Gives.inc hE rfl (by have := h0_1.small; omega)) rfl ?_; clear hE a; intro a hE
          refine WL.vS hS hE (runs_plain rfl) (Gives.p hE rfl) rfl ?_; clear hE a; intro a hE
          refine WL.nil ?_
          subst hK151
          exact ⟨rest142.length, Nat.lt_succ_self _, rest142, k140 + 1, q159.2, q159.1, rfl, hd143, hq138, hE.pick _ ⟨rfl, rfl, rfl, rfl, rfl, rfl, trivial⟩, hS⟩
      · clear hE hS a w; rintro a w ⟨q149, q150, rfl, hE, hS⟩
        dsimp only at hr
        refine W.seq ?_
        refine W.seq ?_
        refine W.region ?_
        refine WL.vS hS hE (runs_plain rfl) (Gives.loadB hE 0 rfl rfl rfl ty4) rfl ?_; clear hE a; intro a hE
        refine WL.vS hS hE (runs_plain rfl) (Gives.p hE rfl) rfl ?_; clear hE a; intro a hE
        refine WL.nil ?_
        refine W.cond hE rfl (fun hc161 => ?_) (fun hc161 => ?_)
        · replace hr := iteT hc161 hr
          refine W.seq ?_
          refine W.region ?_
          refine WL.vS hS hE (runs_plain rfl) (Gives.p hE rfl) rfl ?_; clear hE a; intro a hE
          refine WL.vS hS hE (runs_plain rfl) (Gives.p hE rfl) rfl ?_; clear hE a; intro a hE
          refine WL.nil ?_
          refine W.ret ?_
          refine finG (fn := Tryd.f12) (rs := [.tmp 2, .tmp 3]) (vs := [_, _]) hE rfl ⟨rfl, rfl, trivial⟩ ?_
          obtain rfl := Option.some.inj hr
          replace hS := hS.tail
          replace hS := hS.tail
          replace hS := hS.tail
          exact ⟨rfl, (hS.down hle65)⟩
        · replace hr := iteF hc161 hr
          refine W.skip ?_
          refine W.seq ?_
          refine W.region ?_
          replace hS := hS.front 1 rfl
          refine WL.fnq hE (sbString_ok hS) (runs_plain rfl) bd36 rfl rfl rfl ?_
          clear hE hS; rintro e w ⟨rfl, hS⟩; refine ⟨_, rfl, ?_⟩; clear a; intro a hE
          refine WL.vS hS hE (runs_plain rfl) (Gives.p hE rfl) rfl ?_; clear hE a; intro a hE
          refine WL.vS hS hE (runs_plain rfl) (Gives.p hE rfl) rfl ?_; clear hE a; intro a hE
          refine WL.nil ?_
          refine W.ret ?_
          refine finG (fn := Tryd.f12) (rs := [.tmp 2, .tmp 3]) (vs := [_, _]) hE rfl ⟨rfl, rfl, trivial⟩ ?_
          obtain rfl := Option.some.inj hr
          replace hS := hS.tail
          replace hS := hS.tail
          exact ⟨rfl, (hS.down hle65)⟩
set_option maxHeartbeats 8000000 in
theorem Fishref2numbersIn_ok  {w : World} {s : Sg} {R : List HP} {x0 : ApiDay} {a0_0 : Option Addr} {c0_0 : Nat} {a0_1 : Option Addr} {c0_1 : Nat} (hS : St w s (R)) (h0_0 : Sl 4 RApiTrain s a0_0 c0_0 x0.Trains) (h0_1 : Sl 1 (RL 1 (RI .i64)) s a0_1 c0_1 x0.Turns) {r : (List (List Int))} (hr : Fishref2numbersIn x0 = some r) :
    Calls Tryd.prog 37 [.agg (List.toArray [.slice a0_0 x0.Trains.length c0_0, .slice a0_1 x0.Turns.length c0_1])].toArray w (fun e w => ∃ (a0 : Option Addr) (c0 n0 : Nat) (cs0 : List Value) (t : Sg), e = .returned (.slice a0 n0 c0) ∧ s.Le t ∧ Ev 1 (RL 1 (RI .i64)) t cs0 r ∧ r.length = n0 ∧ St w t (vecC 23 1 a0 c0 n0 cs0 :: R)) := by
  refine enter Tryd.func37 rfl rfl rfl fun a hE => ?_
  rw [Fishref2numbersIn] at hr
  refine W.seq ?_
  refine W.region ?_
  refine WL.box hE hS (runs_plain rfl) rfl rfl rfl ?_; clear hE hS a w; intro b51 a w hE hS
  refine WL.vS hS hE (runs_plain rfl) (Gives.p hE rfl) rfl ?_; clear hE a; intro a hE
  refine WL.nil ?_
  refine W.seq ?_
  refine W.region ?_
  replace hS := hS.vecNil 23 1
  refine WL.vS hS hE (runs_plain rfl) (Gives.p hE rfl) rfl ?_; clear hE a; intro a hE
  refine WL.nil ?_
  refine W.seq ?_
  refine W.seq ?_
  refine W.region ?_
  refine WL.vS hS hE (runs_plain rfl) (Gives.fld hE rfl fl33_0) rfl ?_; clear hE a; intro a hE
  refine WL.vS hS hE (runs_plain rfl) (Gives.loadB hE 1 rfl rfl rfl ty30) rfl ?_; clear hE a; intro a hE
  refine WL.vS hS hE (runs_plain rfl) (Gives.len hE rfl sl30) rfl ?_; clear hE a; intro a hE
  refine WL.vS hS hE (runs_plain rfl) (Gives.p hE rfl) rfl ?_; clear hE a; intro a hE
  refine WL.nil ?_
  obtain ⟨q54, hq53, hr⟩ := bindS hr
  refine W.cut (fun a w => ∃ (q64 : List (List Int)), ∃ (a65 : Option Addr), ∃ (c66 : Nat), ∃ (n68 : Nat), ∃ (cs69 : List Value), ∃ (s62 : Sg), s.Le s62 ∧ q64 = q54 ∧ Ev 1 (RL 1 (RI .i64)) s62 cs69 q64 ∧ q64.length = n68 ∧ Rep a 52 [(1, .pointer (some ⟨b51, 0, none⟩)), (3, .slice a65 n68 c66)] ∧ St w s62 (vecC 23 1 a65 c66 n68 cs69 :: pt b51 (.cells #[.slice a0_0 x0.Trains.length c0_0, .slice a0_1 x0.Turns.length c0_1] 33 (0, 0)) :: R)) ?_ ?_
  · refine W.block ?_
    refine W.loop (fun m a w => ∃ (rest57 : List ApiTrain) (k55 : Nat), ∃ (q64 : List (List Int)), ∃ (a65 : Option Addr), ∃ (c66 : Nat), ∃ (n68 : Nat), ∃ (cs69 : List Value), ∃ (s62 : Sg), rest57.length = m ∧ x0.Trains.drop k55 = rest57 ∧ s.Le s62 ∧ Fishref2numbersIn.loop1 rest57 q64 = some q54 ∧ Ev 1 (RL 1 (RI .i64)) s62 cs69 q64 ∧ q64.length = n68 ∧ Rep a 52 [(1, .pointer (some ⟨b51, 0, none⟩)), (3, .slice a65 n68 c66), (9, .slice a0_0 x0.Trains.length c0_0), (10, .int .i64 ((x0.Trains).length : Int)), (11, .int .i64 ((k55 : Nat) : Int))] ∧ St w s62 (vecC 23 1 a65 c66 n68 cs69 :: pt b51 (.cells #[.slice a0_0 x0.Trains.length c0_0, .slice a0_1 x0.Turns.length c0_1] 33 (0, 0)) :: R)) (m := x0.Trains.length) ⟨x0.Trains, 0, [], none, 0, 0, [], s, rfl, rfl, (Sg.Le.refl _), hq53, (Ev.nil), (rfl), hE.pick _ ⟨rfl, rfl, rfl, rfl, rfl, trivial⟩, hS⟩ ?_
    clear hE hS a w hq53; rintro m61 a w ⟨rest57, k55, q64, a65, c66, n68, cs69, s62, rfl, hd58, hle63, hq53, h67, rfl, hE, hS⟩
    refine W.gen fun K71 hK71 => ?_
    replace h0_0 := Sl.mono RApiTrain.mono hle63 h0_0
    replace h0_1 := Sl.mono (RL.mono RI.mono) hle63 h0_1
    rcases rest57 with _ | ⟨x56, rest57⟩
    · have hlt59 := drop_nil hd58
      refine W.seq ?_
      refine W.region ?_
      refine WL.vS hS hE (runs_plain rfl) (Gives.p hE rfl) rfl ?_; clear hE a; intro a hE
      refine WL.nil ?_
      refine W.seq ?_
      refine W.condF hE rfl (decide_eq_false (by omega)) ?_
      subst hK71
      refine W.exit rfl ?_
      exact ⟨q64, a65, c66, q64.length, cs69, s62, hle63, Option.some.inj hq53, h67, rfl, hE.pick _ ⟨rfl, rfl, trivial⟩, hS⟩
    · obtain ⟨hlt59, hx60, hd58⟩ := drop_cons hd58
      rw [Fishref2numbersIn.loop1] at hq53
      refine W.seq ?_
      refine W.region ?_
      refine WL.vS hS hE (runs_plain rfl) (Gives.p hE rfl) rfl ?_; clear hE a; intro a hE
      refine WL.nil ?_
      refine W.seq ?_
      refine W.condT hE rfl (decide_eq_true (by omega)) ?_
      refine W.skip ?_
      refine W.seq ?_
      refine W.block ?_
      refine W.seq ?_
      refine W.region ?_
      obtain ⟨cs72, hl73, hR74, hat75⟩ := h0_0.at hx60
      obtain ⟨a76, c77, a79, c80, rfl, h78, h81⟩ := hR74
      refine WL.vS hS hE (runs_plain rfl) (Gives.idx hE k55 rfl rfl sl30 rfl hlt59 (h0_0.aok hlt59)) rfl ?_; clear hE a; intro a hE
      refine WL.vS hS hE (runs_plain rfl) (Gives.loadA hE rfl (fun w h => hat75 w _ h) ty67) rfl ?_; clear hE a; intro a hE
      refine WL.alloc hE hS (runs_plain rfl) zr67 rfl ?_; clear hE hS a w; intro b82 a w hE hS
      refine WL.storeI hE hS 0 rfl [.int .i64 x56.No, .int .i64 x56.Stock, .slice a76 x56.Stops.length c77, .slice a79 x56.Legs.length c80] (runs_plain rfl) rfl rfl rfl ty67 rfl rfl rfl rfl ?_; clear hE hS a w; intro a w hE hS
      refine WL.nil ?_
      refine W.seq ?_
      refine W.region ?_
      refine WL.vS hS hE (runs_plain rfl) (Gives.p hE rfl) rfl ?_; clear hE a; intro a hE
      refine WL.vS hS hE (runs_plain rfl) (Gives.fld hE rfl fl67_0) rfl ?_; clear hE a; intro a hE
      refine WL.vS hS hE (runs_plain rfl) (Gives.loadB hE 0 rfl rfl rfl ty3) rfl ?_; clear hE a; intro a hE
      refine WL.vS hS hE (runs_plain rfl) (Gives.fld hE rfl fl67_1) rfl ?_; clear hE a; intro a hE
      refine WL.vS hS hE (runs_plain rfl) (Gives.loadB hE 0 rfl rfl rfl ty3) rfl ?_; clear hE a; intro a hE
      refine WL.lit hE hS (e := 3) (es := 1) (vs := [(0, .int .i64 x56.No), (1, .int .i64 x56.Stock)]) (cs := [.int .i64 x56.No, .int .i64 x56.Stock]) (runs_plain rfl) rfl (by kernel_rfl) rfl ?_; clear hE hS a w; intro b83 a w hE hS
      replace hS := hS.ptVec (es := 1) (m := 2) rfl (by decide)
      have h85 : Ev 1 (RI .i64) s62 [.int .i64 x56.No, .int .i64 x56.Stock] [x56.No, x56.Stock] := (Ev.cons (c1 := [.int .i64 x56.No]) rfl rfl (Ev.cons (c1 := [.int .i64 x56.Stock]) rfl rfl (Ev.nil)))
      have hF := hS.fixD RI.mono 0 rfl h85 (rfl); clear hS; obtain ⟨s86, hle87, hS, h88⟩ := hF
      replace h0_0 := Sl.mono RApiTrain.mono hle87 h0_0
      replace h78 := Sl.mono RApiStop.mono hle87 h78
      replace h81 := Sl.mono (RL.mono RI.mono) hle87 h81
      replace h67 := Ev.mono (RL.mono RI.mono) hle87 h67
      replace h0_1 := Sl.mono (RL.mono RI.mono) hle87 h0_1
      refine WL.lit hE hS (e := 23) (es := 1) (vs := [(0, .slice (some ⟨b83, 0, none⟩) 2 2)]) (cs := [.slice (some ⟨b83, 0, none⟩) 2 2]) (runs_plain rfl) rfl (by kernel_rfl) rfl ?_; clear hE hS a w; intro b89 a w hE hS
      obtain ⟨x90, hx91, hq53⟩ := bindS hq53
      refine WL.appD hE hS 1 (m := 1) (runs_plain rfl) rfl rfl rfl ap31 rfl h67 rfl (xs := [[x56.No, x56.Stock]]) (Ev.cons (c1 := [.slice (some ⟨b83, 0, none⟩) 2 2]) ⟨_, _, rfl, h88⟩ rfl (Ev.nil)) rfl rfl hx91 rfl ?_; clear hE hS a w; intro a92 c93 cs94 a w h95 hE hS
      refine WL.vS hS hE (runs_plain rfl) (Gives.p hE rfl) rfl ?_; clear hE a; intro a hE
      refine WL.nil ?_
      refine W.seq ?_
      refine W.seq ?_
      refine W.region ?_
      refine WL.vS hS hE (runs_plain rfl) (Gives.fld hE rfl fl67_2) rfl ?_; clear hE a; intro a hE
      refine WL.vS hS hE (runs_plain rfl) (Gives.loadB hE 0 rfl rfl rfl ty65) rfl ?_; clear hE a; intro a hE
      refine WL.vS hS hE (runs_plain rfl) (Gives.len hE rfl sl65) rfl ?_; clear hE a; intro a hE
      refine WL.vS hS hE (runs_plain rfl) (Gives.p hE rfl) rfl ?_; clear hE a; intro a hE
      refine WL.nil ?_
      obtain ⟨q97, hq96, hq53⟩ := bindS hq53
      refine W.cut (fun a w => ∃ (q107 : List (List Int)), ∃ (a108 : Option Addr), ∃ (c109 : Nat), ∃ (n111 : Nat), ∃ (cs112 : List Value), ∃ (s105 : Sg), s86.Le s105 ∧ q107 = q97 ∧ Ev 1 (RL 1 (RI .i64)) s105 cs112 q107 ∧ q107.length = n111 ∧ Rep a 52 [(1, .pointer (some ⟨b51, 0, none⟩)), (3, .slice a108 n111 c109), (5, .pointer (some ⟨b82, 0, none⟩)), (9, .slice a0_0 x0.Trains.length c0_0), (10, .int .i64 ((x0.Trains).length : Int)), (11, .int .i64 ((k55 : Nat) : Int))] ∧ St w s105 (pt b82 (.cells #[.int .i64 x56.No, .int .i64 x56.Stock, .slice a76 x56.Stops.length c77, .slice a79 x56.Legs.length c80] 67 (0, 0)) :: vecC 23 1 a108 c109 n111 cs112 :: pt b51 (.cells #[.slice a0_0 x0.Trains.length c0_0, .slice a0_1 x0.Turns.length c0_1] 33 (0, 0)) :: R)) ?_ ?_
      · refine W.block ?_
        refine W.loop (fun m a w => ∃ (rest100 : List ApiStop) (k98 : Nat), ∃ (q107 : List (List Int)), ∃ (a108 : Option Addr), ∃ (c109 : Nat), ∃ (n111 : Nat), ∃ (cs112 : List Value), ∃ (s105 : Sg), rest100.length = m ∧ x56.Stops.drop k98 = rest100 ∧ s86.Le s105 ∧ Fishref2numbersIn.loop2 rest100 q107 = some q97 ∧ Ev 1 (RL 1 (RI .i64)) s105 cs112 q107 ∧ q107.length = n111 ∧ Rep a 52 [(1, .pointer (some ⟨b51, 0, none⟩)), (3, .slice a108 n111 c109), (5, .pointer (some ⟨b82, 0, none⟩)), (9, .slice a0_0 x0.Trains.length c0_0), (10, .int .i64 ((x0.Trains).length : Int)), (11, .int .i64 ((k55 : Nat) : Int)), (24, .slice a76 x56.Stops.length c77), (25, .int .i64 ((x56.Stops).length : Int)), (26, .int .i64 ((k98 : Nat) : Int))] ∧ St w s105 (pt b82 (.cells #[.int .i64 x56.No, .int .i64 x56.Stock, .slice a76 x56.Stops.length c77, .slice a79 x56.Legs.length c80] 67 (0, 0)) :: vecC 23 1 a108 c109 n111 cs112 :: pt b51 (.cells #[.slice a0_0 x0.Trains.length c0_0, .slice a0_1 x0.Turns.length c0_1] 33 (0, 0)) :: R)) (m := x56.Stops.length) ⟨x56.Stops, 0, x90, a92, c93, x90.length, cs94, s86, rfl, rfl, (Sg.Le.refl _), hq96, h95, (rfl), hE.pick _ ⟨rfl, rfl, rfl, rfl, rfl, rfl, rfl, rfl, rfl, trivial⟩, hS⟩ ?_
        clear hE hS a w hq96; rintro m104 a w ⟨rest100, k98, q107, a108, c109, n111, cs112, s105, rfl, hd101, hle106, hq96, h110, rfl, hE, hS⟩
        refine W.gen fun K114 hK114 => ?_
        replace h0_0 := Sl.mono RApiTrain.mono hle106 h0_0
        replace h78 := Sl.mono RApiStop.mono hle106 h78
        replace h81 := Sl.mono (RL.mono RI.mono) hle106 h81
        replace h88 := Sl.mono RI.mono hle106 h88
        replace h95 := Ev.mono (RL.mono RI.mono) hle106 h95
        replace h0_1 := Sl.mono (RL.mono RI.mono) hle106 h0_1
        rcases rest100 with _ | ⟨x99, rest100⟩
        · have hlt102 := drop_nil hd101
          refine W.seq ?_
          refine W.region ?_
          refine WL.vS hS hE (runs_plain rfl) (Gives.p hE rfl) rfl ?_; clear hE a; intro a hE
          refine WL.nil ?_
          refine W.seq ?_
          refine W.condF hE rfl (decide_eq_false (by omega)) ?_
          subst hK114
          refine W.exit rfl ?_
          exact ⟨q107, a108, c109, q107.length, cs112, s105, hle106, Option.some.inj hq96, h110, rfl, hE.pick _ ⟨rfl, rfl, rfl, rfl, rfl, rfl, trivial⟩, hS⟩
        · obtain ⟨hlt102, hx103, hd101⟩ := drop_cons hd101
          rw [Fishref2numbersIn.loop2] at hq96
          refine W.seq ?_
          refine W.region ?_
          refine WL.vS hS hE (runs_plain rfl) (Gives.p hE rfl) rfl ?_; clear hE a; intro a hE
          refine WL.nil ?_
          refine W.seq ?_
          refine W.condT hE rfl (decide_eq_true (by omega)) ?_
          refine W.skip ?_
          refine W.seq ?_
          refine W.block ?_
          refine W.seq ?_
          refine W.region ?_
          obtain ⟨cs115, hl116, hR117, hat118⟩ := h78.at hx103
          subst hR117
          refine WL.vS hS hE (runs_plain rfl) (Gives.idx hE k98 rfl rfl sl65 rfl hlt102 (h78.aok hlt102)) rfl ?_; clear hE a; intro a hE
          refine WL.vS hS hE (runs_plain rfl) (Gives.loadA hE rfl (fun w h => hat118 w _ h) ty64) rfl ?_; clear hE a; intro a hE
          refine WL.alloc hE hS (runs_plain rfl) zr64 rfl ?_; clear hE hS a w; intro b119 a w hE hS
          refine WL.storeI hE hS 0 rfl (ApiStop.cells x99) (runs_plain rfl) rfl rfl rfl ty64 rfl rfl rfl rfl ?_; clear hE hS a w; intro a w hE hS
          refine WL.nil ?_
          refine W.region ?_
          refine WL.vS hS hE (runs_plain rfl) (Gives.p hE rfl) rfl ?_; clear hE a; intro a hE
          refine WL.vS hS hE (runs_plain rfl) (Gives.fld hE rfl fl64_0) rfl ?_; clear hE a; intro a hE
          refine WL.vS hS hE (runs_plain rfl) (Gives.loadB hE 0 rfl rfl rfl ty3) rfl ?_; clear hE a; intro a hE
          refine WL.vS hS hE (runs_plain rfl) (Gives.fld hE rfl fl64_1) rfl ?_; clear hE a; intro a hE
          refine WL.vS hS hE (runs_plain rfl) (Gives.loadB hE 0 rfl rfl rfl ty3) rfl ?_; clear hE a; intro a hE
          refine WL.vS hS hE (runs_plain rfl) (Gives.fld hE rfl fl64_2) rfl ?_; clear hE a; intro a hE
          refine WL.vS hS hE (runs_plain rfl) (Gives.loadB hE 0 rfl rfl rfl ty3) rfl ?_; clear hE a; intro a hE
          refine WL.vS hS hE (runs_plain rfl) (Gives.fld hE rfl fl64_3) rfl ?_; clear hE a; intro a hE
          refine WL.vS hS hE (runs_plain rfl) (Gives.loadB hE 0 rfl rfl rfl ty3) rfl ?_; clear hE a; intro a hE
          refine WL.lit hE hS (e := 3) (es := 1) (vs := [(0, .int .i64 x99.Station), (1, .int .i64 x99.Track), (2, .int .i64 x99.Arr), (3, .int .i64 x99.Dep)]) (cs := [.int .i64 x99.Station, .int .i64 x99.Track, .int .i64 x99.Arr, .int .i64 x99.Dep]) (runs_plain rfl) rfl (by kernel_rfl) rfl ?_; clear hE hS a w; intro b120 a w hE hS
          replace hS := hS.ptVec (es := 1) (m := 4) rfl (by decide)
          have h122 : Ev 1 (RI .i64) s105 [.int .i64 x99.Station, .int .i64 x99.Track, .int .i64 x99.Arr, .int .i64 x99.Dep] [x99.Station, x99.Track, x99.Arr, x99.Dep] := (Ev.cons (c1 := [.int .i64 x99.Station]) rfl rfl (Ev.cons (c1 := [.int .i64 x99.Track]) rfl rfl (Ev.cons (c1 := [.int .i64 x99.Arr]) rfl rfl (Ev.cons (c1 := [.int .i64 x99.Dep]) rfl rfl (Ev.nil)))))
          have hF := hS.fixD RI.mono 0 rfl h122 (rfl); clear hS; obtain ⟨s123, hle124, hS, h125⟩ := hF
          replace h0_0 := Sl.mono RApiTrain.mono hle124 h0_0
          replace h78 := Sl.mono RApiStop.mono hle124 h78
          replace h81 := Sl.mono (RL.mono RI.mono) hle124 h81
          replace h110 := Ev.mono (RL.mono RI.mono) hle124 h110
          replace h0_1 := Sl.mono (RL.mono RI.mono) hle124 h0_1
          refine WL.lit hE hS (e := 23) (es := 1) (vs := [(0, .slice (some ⟨b120, 0, none⟩) 4 4)]) (cs := [.slice (some ⟨b120, 0, none⟩) 4 4]) (runs_plain rfl) rfl (by kernel_rfl) rfl ?_; clear hE hS a w; intro b126 a w hE hS
          obtain ⟨x127, hx128, hq96⟩ := bindS hq96
          refine WL.appD hE hS 2 (m := 1) (runs_plain rfl) rfl rfl rfl ap31 rfl h110 rfl (xs := [[x99.Station, x99.Track, x99.Arr, x99.Dep]]) (Ev.cons (c1 := [.slice (some ⟨b120, 0, none⟩) 4 4]) ⟨_, _, rfl, h125⟩ rfl (Ev.nil)) rfl rfl hx128 rfl ?_; clear hE hS a w; intro a129 c130 cs131 a w h132 hE hS
          refine WL.vS hS hE (runs_plain rfl) (Gives.p hE rfl) rfl ?_; clear hE a; intro a hE
          refine WL.nil ?_
          refine W.region ?_
          refine WL.vS hS hE (runs_plain rfl) (Gives.inc hE rfl (by have := h78.small; omega)) rfl ?_; clear hE a; intro a hE
          refine WL.vS hS hE (runs_plain rfl) (Gives.p hE rfl) rfl ?_; clear hE a; intro a hE
          refine WL.nil ?_
          replace hS := hS.tail
          subst hK114
          exact ⟨rest100.length, Nat.lt_succ_self _, rest100, k98 + 1, x127, a129, c130, x127.length, cs131, s123, rfl, hd101, (Sg.Le.trans hle106 hle124), hq96, h132, (rfl), hE.pick _ ⟨rfl, rfl, rfl, rfl, rfl, rfl, rfl, rfl, rfl, trivial⟩, hS⟩
      · clear hE hS a w; rintro a w ⟨q107, a108, c109, n111, cs112, s105, hle106, rfl, h110, rfl, hE, hS⟩
        replace h0_0 := Sl.mono RApiTrain.mono hle106 h0_0
        replace h78 := Sl.mono RApiStop.mono hle106 h78
        replace h81 := Sl.mono (RL.mono RI.mono) hle106 h81
        replace h88 := Sl.mono RI.mono hle106 h88
        replace h95 := Ev.mono (RL.mono RI.mono) hle106 h95
        replace h0_1 := Sl.mono (RL.mono RI.mono) hle106 h0_1
        refine W.region ?_
        refine WL.vS hS hE (runs_plain rfl) (Gives.p hE rfl) rfl ?_; clear hE a; intro a hE
        refine WL.vS hS hE (runs_plain rfl) (Gives.fld hE rfl fl67_3) rfl ?_; clear hE a; intro a hE
        refine WL.vS hS hE (runs_plain rfl) (Gives.loadB hE 0 rfl rfl rfl ty31) rfl ?_; clear hE a; intro a hE
        obtain ⟨x133, hx134, hq53⟩ := bindS hq53
        refine WL.appS hE hS 1 (runs_plain rfl) rfl rfl (xs := x56.Legs) rfl rfl ap31 RL.one h110 rfl h81 hx134 rfl ?_; clear hE hS a w; intro a135 c136 cs137 a w h138 hE hS
        refine WL.vS hS hE (runs_plain rfl) (Gives.p hE rfl) rfl ?_; clear hE a; intro a hE
        refine WL.nil ?_
        refine W.region ?_
        refine WL.vS hS hE (runs_plain rfl) (Gives.inc hE rfl (by have := h0_0.small; omega)) rfl ?_; clear hE a; intro a hE
        refine WL.vS hS hE (runs_plain rfl) (Gives.p hE rfl) rfl ?_; clear hE a; intro a hE
        refine WL.nil ?_
        replace hS := hS.tail
        subst hK71
        exact ⟨rest57.length, Nat.lt_succ_self _, rest57, k55 + 1, x133, a135, c136, x133.length, cs137, s105, rfl, hd58, (Sg.Le.trans (Sg.Le.trans hle63 hle87) hle106), hq53, h138, (rfl), hE.pick _ ⟨rfl, rfl, rfl, rfl, rfl, trivial⟩, hS⟩
  · clear hE hS a w; rintro a w ⟨q64, a65, c66, n68, cs69, s62, hle63, rfl, h67, rfl, hE, hS⟩
    replace h0_0 := Sl.mono RApiTrain.mono hle63 h0_0
    replace h0_1 := Sl.mono (RL.mono RI.mono) hle63 h0_1
    refine W.seq ?_
    refine W.region ?_
    refine WL.vS hS hE (runs_plain rfl) (Gives.p hE rfl) rfl ?_; clear hE a; intro a hE
    refine WL.vS hS hE (runs_plain rfl) (Gives.fld hE rfl fl33_1) rfl ?_; clear hE a; intro a hE
    refine WL.vS hS hE (runs_plain rfl) (Gives.loadB hE 1 rfl rfl rfl ty31) rfl ?_; clear hE a; intro a hE
    obtain ⟨x139, hx140, hr⟩ := bindS hr
    refine WL.appS hE hS 0 (runs_plain rfl) rfl rfl (xs := x0.Turns) rfl rfl ap31 RL.one h67 rfl h0_1 hx140 rfl ?_; clear hE hS a w; intro a141 c142 cs143 a w h144 hE hS
    refine WL.vS hS hE (runs_plain rfl) (Gives.p hE rfl) rfl ?_; clear hE a; intro a hE
    refine WL.nil ?_
    refine W.ret ?_
    refine finG (fn := Tryd.f37) (rs := [.tmp 2]) (vs := [_]) hE rfl ⟨rfl, trivial⟩ ?_
    obtain rfl := Option.some.inj hr
    replace hS := hS.dropAt 1
    exact ⟨a141, c142, x139.length, cs143, s62, rfl, hle63, h144, (rfl), hS⟩
set_option maxHeartbeats 8000000 in
theorem Fishref2within_ok  {w : World} {s : Sg} {R : List HP} {x0 : Int} {x1 : Int} {x2 : Int} (hS : St w s (R))  {r : Bool} (hr : Fishref2within x0 x1 x2 = r) :
    Calls Tryd.prog 30 [.int .i64 x0, .int .i64 x1, .int .i64 x2].toArray w (fun e w => e = .returned (.bool r) ∧ St w s (R)) := by
  refine enter Tryd.func30 rfl rfl rfl fun a hE => ?_
  rw [Fishref2within] at hr
  refine W.seq ?_
  refine W.region ?_
  refine WL.vS hS hE (runs_plain rfl) (Gives.p hE rfl) rfl ?_; clear hE a; intro a hE
  refine WL.nil ?_
  refine W.seq ?_
  obtain ⟨q52, hq51, hr⟩ := bndS hr
  refine W.cut (fun a w => ∃ (q55 : Bool), q55 = q52 ∧ Rep a 15 [(6, .bool q55)] ∧ St w s (R)) ?_ ?_
  · refine W.gen fun K56 hK56 => ?_
    refine W.region ?_
    refine WL.vS hS hE (runs_plain rfl) (Gives.p hE rfl) rfl ?_; clear hE a; intro a hE
    refine WL.vS hS hE (runs_plain rfl) (Gives.p hE rfl) rfl ?_; clear hE a; intro a hE
    refine WL.vS hS hE (runs_plain rfl) (Gives.p hE rfl) rfl ?_; clear hE a; intro a hE
    refine WL.vS hS hE (runs_plain rfl) (Gives.p hE rfl) rfl ?_; clear hE a; intro a hE
    rcases Bool.eq_false_or_eq_true (decide (x0 ≥ x1)) with hg57 | hg57
    · replace hq51 := iteT hg57 hq51
      refine WL.vS hS hE (runs_if hE rfl rfl rfl hg57) (Gives.p hE rfl) rfl ?_; clear hE a; intro a hE
      refine WL.vS hS hE (runs_if hE rfl rfl rfl hg57) (Gives.p hE rfl) rfl ?_; clear hE a; intro a hE
      refine WL.vS hS hE (runs_if hE rfl rfl rfl hg57) (Gives.p hE rfl) rfl ?_; clear hE a; intro a hE
      refine WL.vS hS hE (runs_plain rfl) (Gives.pickT hE rfl hg57 rfl) rfl ?_; clear hE a; intro a hE
      refine WL.vS hS hE (runs_plain rfl) (Gives.p hE rfl) rfl ?_; clear hE a; intro a hE
      refine WL.nil ?_
      subst hK56
      exact ⟨decide (x0 ≤ x2), hq51, hE.pick _ ⟨rfl, trivial⟩, hS⟩
    · replace hq51 := iteF hg57 hq51
      refine WL.no hE (runs_not hE rfl rfl rfl (by rw [hg57]; decide)) rfl ?_; clear hE a; intro a hE
      refine WL.no hE (runs_not hE rfl rfl rfl (by rw [hg57]; decide)) rfl ?_; clear hE a; intro a hE
      refine WL.no hE (runs_not hE rfl rfl rfl (by rw [hg57]; decide)) rfl ?_; clear hE a; intro a hE
      refine WL.vS hS hE (runs_plain rfl) (Gives.pickF hE rfl hg57 rfl) rfl ?_; clear hE a; intro a hE
      refine WL.vS hS hE (runs_plain rfl) (Gives.p hE rfl) rfl ?_; clear hE a; intro a hE
      refine WL.nil ?_
      subst hK56
      exact ⟨false, hq51, hE.pick _ ⟨rfl, trivial⟩, hS⟩
  · clear hE hS a w; rintro a w ⟨q55, rfl, hE, hS⟩
    refine W.ret ?_
    refine finG (fn := Tryd.f30) (rs := [.tmp 6]) (vs := [_]) hE rfl ⟨rfl, trivial⟩ ?_
    subst hr
    exact ⟨rfl, hS⟩
set_option maxHeartbeats 8000000 in
theorem Fishref2TextFault_ok  {w : World} {s : Sg} {R : List HP} {x0 : ApiDay} {a0_0 : Option Addr} {c0_0 : Nat} {a0_1 : Option Addr} {c0_1 : Nat} (hS : St w s (R)) (h0_0 : Sl 4 RApiTrain s a0_0 c0_0 x0.Trains) (h0_1 : Sl 1 (RL 1 (RI .i64)) s a0_1 c0_1 x0.Turns) {r : Int} (hr : Fishref2TextFault x0 = some r) :
    Calls Tryd.prog 13 [.agg (List.toArray [.slice a0_0 x0.Trains.length c0_0, .slice a0_1 x0.Turns.length c0_1])].toArray w (fun e w => e = .returned (.int .i64 r) ∧ St w s (R)) := by
  refine enter Tryd.func13 rfl rfl rfl fun a hE => ?_
  rw [Fishref2TextFault] at hr
  refine W.seq ?_
  refine W.region ?_
  refine WL.box hE hS (runs_plain rfl) rfl rfl rfl ?_; clear hE hS a w; intro b51 a w hE hS
  refine WL.vS hS hE (runs_plain rfl) (Gives.p hE rfl) rfl ?_; clear hE a; intro a hE
  refine WL.nil ?_
  refine W.seq ?_
  refine W.seq ?_
  obtain ⟨q53, hq52, hr⟩ := bndS hr
  refine W.cut (fun a w => ∃ (q56 : Bool), q56 = q53 ∧ Rep a 105 [(1, .pointer (some ⟨b51, 0, none⟩)), (24, .bool q56)] ∧ St w s (pt b51 (.cells #[.slice a0_0 x0.Trains.length c0_0, .slice a0_1 x0.Turns.length c0_1] 33 (0, 0)) :: R)) ?_ ?_
  · refine W.gen fun K57 hK57 => ?_
    refine W.region ?_
    refine WL.vS hS hE (runs_plain rfl) (Gives.fld hE rfl fl33_0) rfl ?_; clear hE a; intro a hE
    refine WL.vS hS hE (runs_plain rfl) (Gives.loadB hE 0 rfl rfl rfl ty30) rfl ?_; clear hE a; intro a hE
    refine WL.vS hS hE (runs_plain rfl) (Gives.len hE rfl sl30) rfl ?_; clear hE a; intro a hE
    refine WL.vS hS hE (runs_plain rfl) (Gives.p hE rfl) rfl ?_; clear hE a; intro a hE
    refine WL.vS hS hE (runs_plain rfl) (Gives.p hE rfl) rfl ?_; clear hE a; intro a hE
    rcases Bool.eq_false_or_eq_true (decide (((x0.Trains).length : Int) > 12)) with hg58 | hg58
    · replace hq52 := iteT hg58 hq52
      refine WL.no hE (runs_not hE rfl rfl rfl (by rw [hg58]; decide)) rfl ?_; clear hE a; intro a hE
      refine WL.no hE (runs_not hE rfl rfl rfl (by rw [hg58]; decide)) rfl ?_; clear hE a; intro a hE
      refine WL.no hE (runs_not hE rfl rfl rfl (by rw [hg58]; decide)) rfl ?_; clear hE a; intro a hE
      refine WL.no hE (runs_not hE rfl rfl rfl (by rw [hg58]; decide)) rfl ?_; clear hE a; intro a hE
      refine WL.vS hS hE (runs_plain rfl) (Gives.pickT hE rfl hg58 rfl) rfl ?_; clear hE a; intro a hE
      refine WL.nil ?_
      subst hK57
      exact ⟨true, hq52, hE.pick _ ⟨rfl, rfl, trivial⟩, hS⟩
    · replace hq52 := iteF hg58 hq52
      refine WL.vS hS hE (runs_if hE rfl rfl rfl hg58) (Gives.fld hE rfl fl33_1) rfl ?_; clear hE a; intro a hE
      refine WL.vS hS hE (runs_if hE rfl rfl rfl hg58) (Gives.loadB hE 0 rfl rfl rfl ty31) rfl ?_; clear hE a; intro a hE
      refine WL.vS hS hE (runs_if hE rfl rfl rfl hg58) (Gives.len hE rfl sl31) rfl ?_; clear hE a; intro a hE
      refine WL.vS hS hE (runs_if hE rfl rfl rfl hg58) (Gives.p hE rfl) rfl ?_; clear hE a; intro a hE
      refine WL.vS hS hE (runs_plain rfl) (Gives.pickF hE rfl hg58 rfl) rfl ?_; clear hE a; intro a hE
      refine WL.nil ?_
      subst hK57
      exact ⟨decide (((x0.Turns).length : Int) > 8), hq52, hE.pick _ ⟨rfl, rfl, trivial⟩, hS⟩
  · clear hE hS a w; rintro a w ⟨q56, rfl, hE, hS⟩
    refine W.cond hE rfl (fun hc59 => ?_) (fun hc59 => ?_)
    · replace hr := iteT hc59 hr
      refine W.seq ?_
      refine W.region ?_
      refine WL.vS hS hE (runs_plain rfl) (Gives.p hE rfl) rfl ?_; clear hE a; intro a hE
      refine WL.nil ?_
      refine W.ret ?_
      refine finG (fn := Tryd.f13) (rs := [.tmp 2]) (vs := [_]) hE rfl ⟨rfl, trivial⟩ ?_
      obtain rfl := Option.some.inj hr
      replace hS := hS.tail
      exact ⟨rfl, hS⟩
    · replace hr := iteF hc59 hr
      refine W.skip ?_
      refine W.seq ?_
      refine W.seq ?_
      refine W.region ?_
      refine WL.vS hS hE (runs_plain rfl) (Gives.fld hE rfl fl33_0) rfl ?_; clear hE a; intro a hE
      refine WL.vS hS hE (runs_plain rfl) (Gives.loadB hE 0 rfl rfl rfl ty30) rfl ?_; clear hE a; intro a hE
      refine WL.vS hS hE (runs_plain rfl) (Gives.len hE rfl sl30) rfl ?_; clear hE a; intro a hE
      refine WL.vS hS hE (runs_plain rfl) (Gives.p hE rfl) rfl ?_; clear hE a; intro a hE
      refine WL.nil ?_
      obtain ⟨q61, hq60, hr⟩ := bndS hr
      refine W.cut (fun a w => (.next ()) = q61 ∧ Rep a 105 [(1, .pointer (some ⟨b51, 0, none⟩))] ∧ St w s (pt b51 (.cells #[.slice a0_0 x0.Trains.length c0_0, .slice a0_1 x0.Turns.length c0_1] 33 (0, 0)) :: R)) ?_ ?_
      · refine W.block ?_
        refine W.loop (fun m a w => ∃ (rest64 : List ApiTrain) (k62 : Nat), rest64.length = m ∧ x0.Trains.drop k62 = rest64 ∧ Fishref2TextFault.loop1 rest64 = q61 ∧ Rep a 105 [(1, .pointer (some ⟨b51, 0, none⟩)), (26, .slice a0_0 x0.Trains.length c0_0), (27, .int .i64 ((x0.Trains).length : Int)), (28, .int .i64 ((k62 : Nat) : Int))] ∧ St w s (pt b51 (.cells #[.slice a0_0 x0.Trains.length c0_0, .slice a0_1 x0.Turns.length c0_1] 33 (0, 0)) :: R)) (m := x0.Trains.length) ⟨x0.Trains, 0, rfl, rfl, hq60, hE.pick _ ⟨rfl, rfl, rfl, rfl, trivial⟩, hS⟩ ?_
        clear hE hS a w hq60; rintro m68 a w ⟨rest64, k62, rfl, hd65, hq60, hE, hS⟩
        refine W.gen fun K71 hK71 => ?_
        rcases rest64 with _ | ⟨x63, rest64⟩
        · have hlt66 := drop_nil hd65
          refine W.seq ?_
          refine W.region ?_
          refine WL.vS hS hE (runs_plain rfl) (Gives.p hE rfl) rfl ?_; clear hE a; intro a hE
          refine WL.nil ?_
          refine W.seq ?_
          refine W.condF hE rfl (decide_eq_false (by omega)) ?_
          subst hK71
          refine W.exit rfl ?_
          exact ⟨hq60, hE.pick _ ⟨rfl, trivial⟩, hS⟩
        · obtain ⟨hlt66, hx67, hd65⟩ := drop_cons hd65
          rw [Fishref2TextFault.loop1] at hq60
          refine W.seq ?_
          refine W.region ?_
          refine WL.vS hS hE (runs_plain rfl) (Gives.p hE rfl) rfl ?_; clear hE a; intro a hE
          refine WL.nil ?_
          refine W.seq ?_
          refine W.condT hE rfl (decide_eq_true (by omega)) ?_
          refine W.skip ?_
          refine W.seq ?_
          refine W.block ?_
          refine W.seq ?_
          refine W.region ?_
          obtain ⟨cs72, hl73, hR74, hat75⟩ := h0_0.at hx67
          obtain ⟨a76, c77, a79, c80, rfl, h78, h81⟩ := hR74
          refine WL.vS hS hE (runs_plain rfl) (Gives.idx hE k62 rfl rfl sl30 rfl hlt66 (h0_0.aok hlt66)) rfl ?_; clear hE a; intro a hE
          refine WL.vS hS hE (runs_plain rfl) (Gives.loadA hE rfl (fun w h => hat75 w _ h) ty67) rfl ?_; clear hE a; intro a hE
          refine WL.alloc hE hS (runs_plain rfl) zr67 rfl ?_; clear hE hS a w; intro b82 a w hE hS
          refine WL.storeI hE hS 0 rfl [.int .i64 x63.No, .int .i64 x63.Stock, .slice a76 x63.Stops.length c77, .slice a79 x63.Legs.length c80] (runs_plain rfl) rfl rfl rfl ty67 rfl rfl rfl rfl ?_; clear hE hS a w; intro a w hE hS
          refine WL.nil ?_
          refine W.seq ?_
          refine W.seq ?_
          obtain ⟨q84, hq83, hq60⟩ := bndS hq60
          refine W.cut (fun a w => ∃ (q87 : Bool), q87 = q84 ∧ Rep a 105 [(1, .pointer (some ⟨b51, 0, none⟩)), (4, .pointer (some ⟨b82, 0, none⟩)), (26, .slice a0_0 x0.Trains.length c0_0), (27, .int .i64 ((x0.Trains).length : Int)), (28, .int .i64 ((k62 : Nat) : Int)), (45, .bool q87)] ∧ St w s (pt b82 (.cells #[.int .i64 x63.No, .int .i64 x63.Stock, .slice a76 x63.Stops.length c77, .slice a79 x63.Legs.length c80] 67 (0, 0)) :: pt b51 (.cells #[.slice a0_0 x0.Trains.length c0_0, .slice a0_1 x0.Turns.length c0_1] 33 (0, 0)) :: R)) ?_ ?_
          · refine W.gen fun K88 hK88 => ?_
            refine W.region ?_
            refine WL.vS hS hE (runs_plain rfl) (Gives.fld hE rfl fl67_2) rfl ?_; clear hE a; intro a hE
            refine WL.vS hS hE (runs_plain rfl) (Gives.loadB hE 0 rfl rfl rfl ty65) rfl ?_; clear hE a; intro a hE
            refine WL.vS hS hE (runs_plain rfl) (Gives.len hE rfl sl65) rfl ?_; clear hE a; intro a hE
            refine WL.vS hS hE (runs_plain rfl) (Gives.p hE rfl) rfl ?_; clear hE a; intro a hE
            refine WL.vS hS hE (runs_plain rfl) (Gives.p hE rfl) rfl ?_; clear hE a; intro a hE
            rcases Bool.eq_false_or_eq_true (((x63.Stops).length : Int) == 0) with hg89 | hg89
            · replace hq83 := iteT hg89 hq83
              refine WL.no hE (runs_not hE rfl rfl rfl (by rw [hg89]; decide)) rfl ?_; clear hE a; intro a hE
              refine WL.no hE (runs_not hE rfl rfl rfl (by rw [hg89]; decide)) rfl ?_; clear hE a; intro a hE
              refine WL.no hE (runs_not hE rfl rfl rfl (by rw [hg89]; decide)) rfl ?_; clear hE a; intro a hE
              refine WL.no hE (runs_not hE rfl rfl rfl (by rw [hg89]; decide)) rfl ?_; clear hE a; intro a hE
              refine WL.no hE (runs_not hE rfl rfl rfl (by rw [hg89]; decide)) rfl ?_; clear hE a; intro a hE
              refine WL.no hE (runs_not hE rfl rfl rfl (by rw [hg89]; decide)) rfl ?_; clear hE a; intro a hE
              refine WL.no hE (runs_not hE rfl rfl rfl (by rw [hg89]; decide)) rfl ?_; clear hE a; intro a hE
              refine WL.no hE (runs_not hE rfl rfl rfl (by rw [hg89]; decide)) rfl ?_; clear hE a; intro a hE
              refine WL.vS hS hE (runs_plain rfl) (Gives.pickT hE rfl hg89 rfl) rfl ?_; clear hE a; intro a hE
              refine WL.nil ?_
              subst hK88
              exact ⟨true, hq83, hE.pick _ ⟨rfl, rfl, rfl, rfl, rfl, rfl, trivial⟩, hS⟩
            · replace hq83 := iteF hg89 hq83
              refine WL.vS hS hE (runs_if hE rfl rfl rfl hg89) (Gives.fld hE rfl fl67_3) rfl ?_; clear hE a; intro a hE
              refine WL.vS hS hE (runs_if hE rfl rfl rfl hg89) (Gives.loadB hE 0 rfl rfl rfl ty31) rfl ?_; clear hE a; intro a hE
              refine WL.vS hS hE (runs_if hE rfl rfl rfl hg89) (Gives.len hE rfl sl31) rfl ?_; clear hE a; intro a hE
              refine WL.vS hS hE (runs_if hE rfl rfl rfl hg89) (Gives.fld hE rfl fl67_2) rfl ?_; clear hE a; intro a hE
              refine WL.vS hS hE (runs_if hE rfl rfl rfl hg89) (Gives.loadB hE 0 rfl rfl rfl ty65) rfl ?_; clear hE a; intro a hE
              refine WL.vS hS hE (runs_if hE rfl rfl rfl hg89) (Gives.len hE rfl sl65) rfl ?_; clear hE a; intro a hE
              refine WL.vS hS hE (runs_if hE rfl rfl rfl hg89) (Gives.p hE rfl) rfl ?_; clear hE a; intro a hE
              refine WL.vS hS hE (runs_if hE rfl rfl rfl hg89) (Gives.p hE rfl) rfl ?_; clear hE a; intro a hE
              refine WL.vS hS hE (runs_plain rfl) (Gives.pickF hE rfl hg89 rfl) rfl ?_; clear hE a; intro a hE
              refine WL.nil ?_
              subst hK88
              exact ⟨(((x63.Legs).length : Int) != (w64 (((x63.Stops).length : Int) - 1))), hq83, hE.pick _ ⟨rfl, rfl, rfl, rfl, rfl, rfl, trivial⟩, hS⟩
          · clear hE hS a w; rintro a w ⟨q87, rfl, hE, hS⟩
            refine W.cond hE rfl (fun hc90 => ?_) (fun hc90 => ?_)
            · replace hq60 := iteT hc90 hq60
              refine W.seq ?_
              refine W.region ?_
              refine WL.vS hS hE (runs_plain rfl) (Gives.p hE rfl) rfl ?_; clear hE a; intro a hE
              refine WL.nil ?_
              refine W.ret ?_
              subst hK71
              rw [← hq60] at hr
              dsimp only at hr
              refine finG (fn := Tryd.f13) (rs := [.tmp 2]) (vs := [_]) hE rfl ⟨rfl, trivial⟩ ?_
              obtain rfl := Option.some.inj hr
              replace hS := hS.tail
              replace hS := hS.tail
              exact ⟨rfl, hS⟩
            · replace hq60 := iteF hc90 hq60
              refine W.skip ?_
              refine W.seq ?_
              refine W.seq ?_
              refine W.region ?_
              refine WL.vS hS hE (runs_plain rfl) (Gives.fld hE rfl fl67_3) rfl ?_; clear hE a; intro a hE
              refine WL.vS hS hE (runs_plain rfl) (Gives.loadB hE 0 rfl rfl rfl ty31) rfl ?_; clear hE a; intro a hE
              refine WL.vS hS hE (runs_plain rfl) (Gives.len hE rfl sl31) rfl ?_; clear hE a; intro a hE
              refine WL.vS hS hE (runs_plain rfl) (Gives.p hE rfl) rfl ?_; clear hE a; intro a hE
              refine WL.nil ?_
              obtain ⟨q92, hq91, hq60⟩ := bndS hq60
              refine W.cut (fun a w => (.next ()) = q92 ∧ Rep a 105 [(1, .pointer (some ⟨b51, 0, none⟩)), (4, .pointer (some ⟨b82, 0, none⟩)), (26, .slice a0_0 x0.Trains.length c0_0), (27, .int .i64 ((x0.Trains).length : Int)), (28, .int .i64 ((k62 : Nat) : Int))] ∧ St w s (pt b82 (.cells #[.int .i64 x63.No, .int .i64 x63.Stock, .slice a76 x63.Stops.length c77, .slice a79 x63.Legs.length c80] 67 (0, 0)) :: pt b51 (.cells #[.slice a0_0 x0.Trains.length c0_0, .slice a0_1 x0.Turns.length c0_1] 33 (0, 0)) :: R)) ?_ ?_
              · refine W.block ?_
                refine W.loop (fun m a w => ∃ (rest95 : List (List Int)) (k93 : Nat), rest95.length = m ∧ x63.Legs.drop k93 = rest95 ∧ Fishref2TextFault.loop2 rest95 = q92 ∧ Rep a 105 [(1, .pointer (some ⟨b51, 0, none⟩)), (4, .pointer (some ⟨b82, 0, none⟩)), (26, .slice a0_0 x0.Trains.length c0_0), (27, .int .i64 ((x0.Trains).length : Int)), (28, .int .i64 ((k62 : Nat) : Int)), (47, .slice a79 x63.Legs.length c80), (48, .int .i64 ((x63.Legs).length : Int)), (49, .int .i64 ((k93 : Nat) : Int))] ∧ St w s (pt b82 (.cells #[.int .i64 x63.No, .int .i64 x63.Stock, .slice a76 x63.Stops.length c77, .slice a79 x63.Legs.length c80] 67 (0, 0)) :: pt b51 (.cells #[.slice a0_0 x0.Trains.length c0_0, .slice a0_1 x0.Turns.length c0_1] 33 (0, 0)) :: R)) (m := x63.Legs.length) ⟨x63.Legs, 0, rfl, rfl, hq91, hE.pick _ ⟨rfl, rfl, rfl, rfl, rfl, rfl, rfl, rfl, trivial⟩, hS⟩ ?_
                clear hE hS a w hq91; rintro m99 a w ⟨rest95, k93, rfl, hd96, hq91, hE, hS⟩
                refine W.gen fun K102 hK102 => ?_
                rcases rest95 with _ | ⟨x94, rest95⟩
                · have hlt97 := drop_nil hd96
                  refine W.seq ?_
                  refine W.region ?_
                  refine WL.vS hS hE (runs_plain rfl) (Gives.p hE rfl) rfl ?_; clear hE a; intro a hE
                  refine WL.nil ?_
                  refine W.seq ?_
                  refine W.condF hE rfl (decide_eq_false (by omega)) ?_
                  subst hK102
                  refine W.exit rfl ?_
                  exact ⟨hq91, hE.pick _ ⟨rfl, rfl, rfl, rfl, rfl, trivial⟩, hS⟩
                · obtain ⟨hlt97, hx98, hd96⟩ := drop_cons hd96
                  rw [Fishref2TextFault.loop2] at hq91
                  refine W.seq ?_
                  refine W.region ?_
                  refine WL.vS hS hE (runs_plain rfl) (Gives.p hE rfl) rfl ?_; clear hE a; intro a hE
                  refine WL.nil ?_
                  refine W.seq ?_
                  refine W.condT hE rfl (decide_eq_true (by omega)) ?_
                  refine W.skip ?_
                  refine W.seq ?_
                  refine W.block ?_
                  refine W.seq ?_
                  refine W.region ?_
                  obtain ⟨cs103, hl104, hR105, hat106⟩ := h81.at hx98
                  obtain ⟨a107, c108, rfl, h109⟩ := hR105
                  refine WL.vS hS hE (runs_plain rfl) (Gives.idx hE k93 rfl rfl sl31 rfl hlt97 (h81.aok hlt97)) rfl ?_; clear hE a; intro a hE
                  refine WL.vS hS hE (runs_plain rfl) (Gives.load1 hE rfl (fun w h => hat106 w _ h) ty23) rfl ?_; clear hE a; intro a hE
                  refine WL.vS hS hE (runs_plain rfl) (Gives.p hE rfl) rfl ?_; clear hE a; intro a hE
                  refine WL.nil ?_
                  refine W.seq ?_
                  refine W.region ?_
                  refine WL.vS hS hE (runs_plain rfl) (Gives.p hE rfl) rfl ?_; clear hE a; intro a hE
                  refine WL.vS hS hE (runs_plain rfl) (Gives.len hE rfl sl23) rfl ?_; clear hE a; intro a hE
                  refine WL.vS hS hE (runs_plain rfl) (Gives.p hE rfl) rfl ?_; clear hE a; intro a hE
                  refine WL.nil ?_
                  refine W.cond hE rfl (fun hc110 => ?_) (fun hc110 => ?_)
                  · replace hq91 := iteT hc110 hq91
                    refine W.seq ?_
                    refine W.region ?_
                    refine WL.vS hS hE (runs_plain rfl) (Gives.p hE rfl) rfl ?_; clear hE a; intro a hE
                    refine WL.nil ?_
                    refine W.ret ?_
                    subst hK102
                    subst hK71
                    rw [← hq91] at hq60
                    dsimp only at hq60
                    rw [← hq60] at hr
                    dsimp only at hr
                    refine finG (fn := Tryd.f13) (rs := [.tmp 2]) (vs := [_]) hE rfl ⟨rfl, trivial⟩ ?_
                    obtain rfl := Option.some.inj hr
                    replace hS := hS.tail
                    replace hS := hS.tail
                    exact ⟨rfl, hS⟩
                  · replace hq91 := iteF hc110 hq91
                    refine W.skip ?_
                    refine W.region ?_
                    refine WL.vS hS hE (runs_plain rfl) (Gives.inc hE rfl (by have := h81.small; omega)) rfl ?_; clear hE a; intro a hE
                    refine WL.vS hS hE (runs_plain rfl) (Gives.p hE rfl) rfl ?_; clear hE a; intro a hE
                    refine WL.nil ?_
                    subst hK102
                    exact ⟨rest95.length, Nat.lt_succ_self _, rest95, k93 + 1, rfl, hd96, hq91, hE.pick _ ⟨rfl, rfl, rfl, rfl, rfl, rfl, rfl, rfl, trivial⟩, hS⟩
              · clear hE hS a w; rintro a w ⟨rfl, hE, hS⟩
                dsimp only at hq60
                refine W.seq ?_
                refine W.seq ?_
                refine W.region ?_
                refine WL.vS hS hE (runs_plain rfl) (Gives.fld hE rfl fl67_2) rfl ?_; clear hE a; intro a hE
                refine WL.vS hS hE (runs_plain rfl) (Gives.loadB hE 0 rfl rfl rfl ty65) rfl ?_; clear hE a; intro a hE
                refine WL.vS hS hE (runs_plain rfl) (Gives.len hE rfl sl65) rfl ?_; clear hE a; intro a hE
                refine WL.vS hS hE (runs_plain rfl) (Gives.p hE rfl) rfl ?_; clear hE a; intro a hE
                refine WL.nil ?_
                refine W.cond hE rfl (fun hc111 => ?_) (fun hc111 => ?_)
                · replace hq60 := iteT hc111 hq60
                  refine W.seq ?_
                  refine W.region ?_
                  refine WL.vS hS hE (runs_plain rfl) (Gives.p hE rfl) rfl ?_; clear hE a; intro a hE
                  refine WL.nil ?_
                  refine W.ret ?_
                  subst hK71
                  rw [← hq60] at hr
                  dsimp only at hr
                  refine finG (fn := Tryd.f13) (rs := [.tmp 2]) (vs := [_]) hE rfl ⟨rfl, trivial⟩ ?_
                  obtain rfl := Option.some.inj hr
                  replace hS := hS.tail
                  replace hS := hS.tail
                  exact ⟨rfl, hS⟩
                · replace hq60 := iteF hc111 hq60
                  refine W.skip ?_
                  refine W.seq ?_
                  refine W.region ?_
                  refine WL.vS hS hE (runs_plain rfl) (Gives.fld hE rfl fl67_3) rfl ?_; clear hE a; intro a hE
                  refine WL.vS hS hE (runs_plain rfl) (Gives.loadB hE 0 rfl rfl rfl ty31) rfl ?_; clear hE a; intro a hE
                  refine WL.vS hS hE (runs_plain rfl) (Gives.len hE rfl sl31) rfl ?_; clear hE a; intro a hE
                  refine WL.vS hS hE (runs_plain rfl) (Gives.p hE rfl) rfl ?_; clear hE a; intro a hE
                  refine WL.nil ?_
                  obtain ⟨q113, hq112, hq60⟩ := bndS hq60
                  refine W.cut (fun a w => (.next ()) = q113 ∧ Rep a 105 [(1, .pointer (some ⟨b51, 0, none⟩)), (26, .slice a0_0 x0.Trains.length c0_0), (27, .int .i64 ((x0.Trains).length : Int)), (28, .int .i64 ((k62 : Nat) : Int))] ∧ St w s (pt b82 (.cells #[.int .i64 x63.No, .int .i64 x63.Stock, .slice a76 x63.Stops.length c77, .slice a79 x63.Legs.length c80] 67 (0, 0)) :: pt b51 (.cells #[.slice a0_0 x0.Trains.length c0_0, .slice a0_1 x0.Turns.length c0_1] 33 (0, 0)) :: R)) ?_ ?_
                  · refine W.block ?_
                    refine W.loop (fun m a w => ∃ (rest116 : List (List Int)) (k114 : Nat), rest116.length = m ∧ x63.Legs.drop k114 = rest116 ∧ Fishref2TextFault.loop3 rest116 = q113 ∧ Rep a 105 [(1, .pointer (some ⟨b51, 0, none⟩)), (26, .slice a0_0 x0.Trains.length c0_0), (27, .int .i64 ((x0.Trains).length : Int)), (28, .int .i64 ((k62 : Nat) : Int)), (62, .slice a79 x63.Legs.length c80), (63, .int .i64 ((x63.Legs).length : Int)), (64, .int .i64 ((k114 : Nat) : Int))] ∧ St w s (pt b82 (.cells #[.int .i64 x63.No, .int .i64 x63.Stock, .slice a76 x63.Stops.length c77, .slice a79 x63.Legs.length c80] 67 (0, 0)) :: pt b51 (.cells #[.slice a0_0 x0.Trains.length c0_0, .slice a0_1 x0.Turns.length c0_1] 33 (0, 0)) :: R)) (m := x63.Legs.length) ⟨x63.Legs, 0, rfl, rfl, hq112, hE.pick _ ⟨rfl, rfl, rfl, rfl, rfl, rfl, rfl, trivial⟩, hS⟩ ?_
                    clear hE hS a w hq112; rintro m120 a w ⟨rest116, k114, rfl, hd117, hq112, hE, hS⟩
                    refine W.gen fun K123 hK123 => ?_
                    rcases rest116 with _ | ⟨x115, rest116⟩
                    · have hlt118 := drop_nil hd117
                      refine W.seq ?_
                      refine W.region ?_
                      refine WL.vS hS hE (runs_plain rfl) (Gives.p hE rfl) rfl ?_; clear hE a; intro a hE
                      refine WL.nil ?_
                      refine W.seq ?_
                      refine W.condF hE rfl (decide_eq_false (by omega)) ?_
                      subst hK123
                      refine W.exit rfl ?_
                      exact ⟨hq112, hE.pick _ ⟨rfl, rfl, rfl, rfl, trivial⟩, hS⟩
                    · obtain ⟨hlt118, hx119, hd117⟩ := drop_cons hd117
                      rw [Fishref2TextFault.loop3] at hq112
                      refine W.seq ?_
                      refine W.region ?_
                      refine WL.vS hS hE (runs_plain rfl) (Gives.p hE rfl) rfl ?_; clear hE a; intro a hE
                      refine WL.nil ?_
                      refine W.seq ?_
                      refine W.condT hE rfl (decide_eq_true (by omega)) ?_
                      refine W.skip ?_
                      refine W.seq ?_
                      refine W.block ?_
                      refine W.seq ?_
                      refine W.region ?_
                      obtain ⟨cs124, hl125, hR126, hat127⟩ := h81.at hx119
                      obtain ⟨a128, c129, rfl, h130⟩ := hR126
                      refine WL.vS hS hE (runs_plain rfl) (Gives.idx hE k114 rfl rfl sl31 rfl hlt118 (h81.aok hlt118)) rfl ?_; clear hE a; intro a hE
                      refine WL.vS hS hE (runs_plain rfl) (Gives.load1 hE rfl (fun w h => hat127 w _ h) ty23) rfl ?_; clear hE a; intro a hE
                      refine WL.vS hS hE (runs_plain rfl) (Gives.p hE rfl) rfl ?_; clear hE a; intro a hE
                      refine WL.nil ?_
                      refine W.seq ?_
                      refine W.region ?_
                      refine WL.vS hS hE (runs_plain rfl) (Gives.p hE rfl) rfl ?_; clear hE a; intro a hE
                      refine WL.vS hS hE (runs_plain rfl) (Gives.len hE rfl sl23) rfl ?_; clear hE a; intro a hE
                      refine WL.vS hS hE (runs_plain rfl) (Gives.p hE rfl) rfl ?_; clear hE a; intro a hE
                      refine WL.nil ?_
                      refine W.cond hE rfl (fun hc131 => ?_) (fun hc131 => ?_)
                      · replace hq112 := iteT hc131 hq112
                        refine W.seq ?_
                        refine W.region ?_
                        refine WL.vS hS hE (runs_plain rfl) (Gives.p hE rfl) rfl ?_; clear hE a; intro a hE
                        refine WL.nil ?_
                        refine W.ret ?_
                        subst hK123
                        subst hK71
                        rw [← hq112] at hq60
                        dsimp only at hq60
                        rw [← hq60] at hr
                        dsimp only at hr
                        refine finG (fn := Tryd.f13) (rs := [.tmp 2]) (vs := [_]) hE rfl ⟨rfl, trivial⟩ ?_
                        obtain rfl := Option.some.inj hr
                        replace hS := hS.tail
                        replace hS := hS.tail
                        exact ⟨rfl, hS⟩
                      · replace hq112 := iteF hc131 hq112
                        refine W.skip ?_
                        refine W.region ?_
                        refine WL.vS hS hE (runs_plain rfl) (Gives.inc hE rfl (by have := h81.small; omega)) rfl ?_; clear hE a; intro a hE
                        refine WL.vS hS hE (runs_plain rfl) (Gives.p hE rfl) rfl ?_; clear hE a; intro a hE
                        refine WL.nil ?_
                        subst hK123
                        exact ⟨rest116.length, Nat.lt_succ_self _, rest116, k114 + 1, rfl, hd117, hq112, hE.pick _ ⟨rfl, rfl, rfl, rfl, rfl, rfl, rfl, trivial⟩, hS⟩
                  · clear hE hS a w; rintro a w ⟨rfl, hE, hS⟩
                    dsimp only at hq60
                    refine W.region ?_
                    refine WL.vS hS hE (runs_plain rfl) (Gives.inc hE rfl (by have := h0_0.small; omega)) rfl ?_; clear hE a; intro a hE
                    refine WL.vS hS hE (runs_plain rfl) (Gives.p hE rfl) rfl ?_; clear hE a; intro a hE
                    refine WL.nil ?_
                    replace hS := hS.tail
                    subst hK71
                    exact ⟨rest64.length, Nat.lt_succ_self _, rest64, k62 + 1, rfl, hd65, hq60, hE.pick _ ⟨rfl, rfl, rfl, rfl, trivial⟩, hS⟩
      · clear hE hS a w; rintro a w ⟨rfl, hE, hS⟩
        dsimp only at hr
        refine W.seq ?_
        refine W.seq ?_
        refine W.region ?_
        refine WL.vS hS hE (runs_plain rfl) (Gives.fld hE rfl fl33_1) rfl ?_; clear hE a; intro a hE
        refine WL.vS hS hE (runs_plain rfl) (Gives.loadB hE 0 rfl rfl rfl ty31) rfl ?_; clear hE a; intro a hE
        refine WL.vS hS hE (runs_plain rfl) (Gives.len hE rfl sl31) rfl ?_; clear hE a; intro a hE
        refine WL.vS hS hE (runs_plain rfl) (Gives.p hE rfl) rfl ?_; clear hE a; intro a hE
        refine WL.nil ?_
        obtain ⟨q133, hq132, hr⟩ := bndS hr
        refine W.cut (fun a w => (.next ()) = q133 ∧ Rep a 105 [(1, .pointer (some ⟨b51, 0, none⟩))] ∧ St w s (pt b51 (.cells #[.slice a0_0 x0.Trains.length c0_0, .slice a0_1 x0.Turns.length c0_1] 33 (0, 0)) :: R)) ?_ ?_
        · refine W.block ?_
          refine W.loop (fun m a w => ∃ (rest136 : List (List Int)) (k134 : Nat), rest136.length = m ∧ x0.Turns.drop k134 = rest136 ∧ Fishref2TextFault.loop4 rest136 = q133 ∧ Rep a 105 [(1, .pointer (some ⟨b51, 0, none⟩)), (74, .slice a0_1 x0.Turns.length c0_1), (75, .int .i64 ((x0.Turns).length : Int)), (76, .int .i64 ((k134 : Nat) : Int))] ∧ St w s (pt b51 (.cells #[.slice a0_0 x0.Trains.length c0_0, .slice a0_1 x0.Turns.length c0_1] 33 (0, 0)) :: R)) (m := x0.Turns.length) ⟨x0.Turns, 0, rfl, rfl, hq132, hE.pick _ ⟨rfl, rfl, rfl, rfl, trivial⟩, hS⟩ ?_
          clear hE hS a w hq132; rintro m140 a w ⟨rest136, k134, rfl, hd137, hq132, hE, hS⟩
          refine W.gen fun K143 hK143 => ?_
          rcases rest136 with _ | ⟨x135, rest136⟩
          · have hlt138 := drop_nil hd137
            refine W.seq ?_
            refine W.region ?_
            refine WL.vS hS hE (runs_plain rfl) (Gives.p hE rfl) rfl ?_; clear hE a; intro a hE
            refine WL.nil ?_
            refine W.seq ?_
            refine W.condF hE rfl (decide_eq_false (by omega)) ?_
            subst hK143
            refine W.exit rfl ?_
            exact ⟨hq132, hE.pick _ ⟨rfl, trivial⟩, hS⟩
          · obtain ⟨hlt138, hx139, hd137⟩ := drop_cons hd137
            rw [Fishref2TextFault.loop4] at hq132
            refine W.seq ?_
            refine W.region ?_
            refine WL.vS hS hE (runs_plain rfl) (Gives.p hE rfl) rfl ?_; clear hE a; intro a hE
            refine WL.nil ?_
            refine W.seq ?_
            refine W.condT hE rfl (decide_eq_true (by omega)) ?_
            refine W.skip ?_
            refine W.seq ?_
            refine W.block ?_
            refine W.seq ?_
            refine W.region ?_
            obtain ⟨cs144, hl145, hR146, hat147⟩ := h0_1.at hx139
            obtain ⟨a148, c149, rfl, h150⟩ := hR146
            refine WL.vS hS hE (runs_plain rfl) (Gives.idx hE k134 rfl rfl sl31 rfl hlt138 (h0_1.aok hlt138)) rfl ?_; clear hE a; intro a hE
            refine WL.vS hS hE (runs_plain rfl) (Gives.load1 hE rfl (fun w h => hat147 w _ h) ty23) rfl ?_; clear hE a; intro a hE
            refine WL.vS hS hE (runs_plain rfl) (Gives.p hE rfl) rfl ?_; clear hE a; intro a hE
            refine WL.nil ?_
            refine W.seq ?_
            refine W.seq ?_
            refine W.region ?_
            refine WL.vS hS hE (runs_plain rfl) (Gives.p hE rfl) rfl ?_; clear hE a; intro a hE
            refine WL.vS hS hE (runs_plain rfl) (Gives.len hE rfl sl23) rfl ?_; clear hE a; intro a hE
            refine WL.vS hS hE (runs_plain rfl) (Gives.p hE rfl) rfl ?_; clear hE a; intro a hE
            refine WL.nil ?_
            refine W.cond hE rfl (fun hc151 => ?_) (fun hc151 => ?_)
            · replace hq132 := iteT hc151 hq132
              refine W.seq ?_
              refine W.region ?_
              refine WL.vS hS hE (runs_plain rfl) (Gives.p hE rfl) rfl ?_; clear hE a; intro a hE
              refine WL.nil ?_
              refine W.ret ?_
              subst hK143
              rw [← hq132] at hr
              dsimp only at hr
              refine finG (fn := Tryd.f13) (rs := [.tmp 2]) (vs := [_]) hE rfl ⟨rfl, trivial⟩ ?_
              obtain rfl := Option.some.inj hr
              replace hS := hS.tail
              exact ⟨rfl, hS⟩
            · replace hq132 := iteF hc151 hq132
              refine W.skip ?_
              refine W.seq ?_
              refine W.region ?_
              refine WL.vS hS hE (runs_plain rfl) (Gives.p hE rfl) rfl ?_; clear hE a; intro a hE
              refine WL.vS hS hE (runs_plain rfl) (Gives.len hE rfl sl23) rfl ?_; clear hE a; intro a hE
              refine WL.vS hS hE (runs_plain rfl) (Gives.p hE rfl) rfl ?_; clear hE a; intro a hE
              refine WL.nil ?_
              refine W.cond hE rfl (fun hc152 => ?_) (fun hc152 => ?_)
              · replace hq132 := iteT hc152 hq132
                refine W.seq ?_
                refine W.region ?_
                refine WL.vS hS hE (runs_plain rfl) (Gives.p hE rfl) rfl ?_; clear hE a; intro a hE
                refine WL.nil ?_
                refine W.ret ?_
                subst hK143
                rw [← hq132] at hr
                dsimp only at hr
                refine finG (fn := Tryd.f13) (rs := [.tmp 2]) (vs := [_]) hE rfl ⟨rfl, trivial⟩ ?_
                obtain rfl := Option.some.inj hr
                replace hS := hS.tail
                exact ⟨rfl, hS⟩
              · replace hq132 := iteF hc152 hq132
                refine W.skip ?_
                refine W.region ?_
                refine WL.vS hS hE (runs_plain rfl) (Gives.inc hE rfl (by have := h0_1.small; omega)) rfl ?_; clear hE a; intro a hE
                refine WL.vS hS hE (runs_plain rfl) (Gives.p hE rfl) rfl ?_; clear hE a; intro a hE
                refine WL.nil ?_
                subst hK143
                exact ⟨rest136.length, Nat.lt_succ_self _, rest136, k134 + 1, rfl, hd137, hq132, hE.pick _ ⟨rfl, rfl, rfl, rfl, trivial⟩, hS⟩
        · clear hE hS a w; rintro a w ⟨rfl, hE, hS⟩
          dsimp only at hr
          refine W.seq ?_
          refine W.seq ?_
          refine W.region ?_
          refine WL.vS hS hE (runs_plain rfl) (Gives.loadBA hE 0 rfl rfl ty33) rfl ?_; clear hE a; intro a hE
          obtain ⟨q153, hq154, hr⟩ := bindS hr
          have hc_ := Fishref2numbersIn_ok hS h0_0 h0_1 hq154
          refine WL.fnq hE (hc_) (runs_plain rfl) bd37 rfl rfl rfl ?_
          clear hE hS hc_; rintro e w ⟨a155, c156, n157, cs158, s161, rfl, hle162, h159, rfl, hS⟩; refine ⟨_, rfl, ?_⟩; clear a; intro a hE
          replace h0_0 := Sl.mono RApiTrain.mono hle162 h0_0
          replace h0_1 := Sl.mono (RL.mono RI.mono) hle162 h0_1
          refine WL.vS hS hE (runs_plain rfl) (Gives.len hE rfl sl31) rfl ?_; clear hE a; intro a hE
          refine WL.vS hS hE (runs_plain rfl) (Gives.p hE rfl) rfl ?_; clear hE a; intro a hE
          refine WL.nil ?_
          have hb174 : q153.length ≤ 9223372036854775807 := by have := hS.vecCap 0 rfl; unfold maxLen at this; omega
          obtain ⟨q164, hq163, hr⟩ := bindS hr
          refine W.cut (fun a w => (.next ()) = q164 ∧ Rep a 105 [] ∧ St w s161 (vecC 23 1 a155 c156 q153.length cs158 :: pt b51 (.cells #[.slice a0_0 x0.Trains.length c0_0, .slice a0_1 x0.Turns.length c0_1] 33 (0, 0)) :: R)) ?_ ?_
          · refine W.block ?_
            refine W.loop (fun m a w => ∃ (rest167 : Nat) (k165 : Nat), rest167 = m ∧ k165 + rest167 = q153.length ∧ Fishref2TextFault.loop5 q153 rest167 k165 = some q164 ∧ Rep a 105 [(88, .slice a155 q153.length c156), (89, .int .i64 ((q153.length : Nat) : Int)), (90, .int .i64 ((k165 : Nat) : Int))] ∧ St w s161 (vecC 23 1 a155 c156 q153.length cs158 :: pt b51 (.cells #[.slice a0_0 x0.Trains.length c0_0, .slice a0_1 x0.Turns.length c0_1] 33 (0, 0)) :: R)) (m := q153.length) ⟨q153.length, 0, rfl, by omega, hq163, hE.pick _ ⟨rfl, rfl, rfl, trivial⟩, hS⟩ ?_
            clear hE hS a w hq163; rintro m171 a w ⟨rest167, k165, rfl, hd168, hq163, hE, hS⟩
            refine W.gen fun K175 hK175 => ?_
            rcases rest167 with _ | rest167
            · skip
              refine W.seq ?_
              refine W.region ?_
              refine WL.vS hS hE (runs_plain rfl) (Gives.p hE rfl) rfl ?_; clear hE a; intro a hE
              refine WL.nil ?_
              refine W.seq ?_
              refine W.condF hE rfl (decide_eq_false (by omega)) ?_
              subst hK175
              refine W.exit rfl ?_
              exact ⟨Option.some.inj hq163, hE.pick _ trivial, hS⟩
            · have hlt169 : k165 < q153.length := by omega
              rw [Fishref2TextFault.loop5] at hq163
              refine W.seq ?_
              refine W.region ?_
              refine WL.vS hS hE (runs_plain rfl) (Gives.p hE rfl) rfl ?_; clear hE a; intro a hE
              refine WL.nil ?_
              refine W.seq ?_
              refine W.condT hE rfl (decide_eq_true (by omega)) ?_
              refine W.skip ?_
              refine W.seq ?_
              refine W.block ?_
              refine W.seq ?_
              refine W.region ?_
              obtain ⟨x176, hx177, hq163⟩ := bindS hq163
              obtain ⟨hi178, hlt179, hy180⟩ := gx_some hx177
              obtain ⟨vs181, hl182, hR183, hd184, hget185⟩ := h159.at hy180
              obtain ⟨a186, c187, rfl, h188⟩ := hR183
              refine WL.vS hS hE (runs_plain rfl) (Gives.idx hE ((((k165 : Nat) : Int)).toNat) rfl rfl sl31 hi178 (by omega) (hS.vecAok 0 rfl (by omega : (((k165 : Nat) : Int)).toNat < q153.length))) rfl ?_; clear hE a; intro a hE
              refine WL.vS hS hE (runs_plain rfl) (Gives.load1 hE rfl (fun w h => St.vecSees h 0 rfl ((((k165 : Nat) : Int)).toNat * 1) _ hget185) ty23) rfl ?_; clear hE a; intro a hE
              refine WL.vS hS hE (runs_plain rfl) (Gives.p hE rfl) rfl ?_; clear hE a; intro a hE
              refine WL.nil ?_
              refine W.seq ?_
              refine W.region ?_
              refine WL.vS hS hE (runs_plain rfl) (Gives.p hE rfl) rfl ?_; clear hE a; intro a hE
              refine WL.vS hS hE (runs_plain rfl) (Gives.len hE rfl sl23) rfl ?_; clear hE a; intro a hE
              refine WL.vS hS hE (runs_plain rfl) (Gives.p hE rfl) rfl ?_; clear hE a; intro a hE
              refine WL.nil ?_
              obtain ⟨q190, hq189, hq163⟩ := bndS hq163
              refine W.cut (fun a w => (.next ()) = q190 ∧ Rep a 105 [(88, .slice a155 q153.length c156), (89, .int .i64 ((q153.length : Nat) : Int)), (90, .int .i64 ((k165 : Nat) : Int))] ∧ St w s161 (vecC 23 1 a155 c156 q153.length cs158 :: pt b51 (.cells #[.slice a0_0 x0.Trains.length c0_0, .slice a0_1 x0.Turns.length c0_1] 33 (0, 0)) :: R)) ?_ ?_
              · refine W.block ?_
                refine W.loop (fun m a w => ∃ (rest193 : List Int) (k191 : Nat), rest193.length = m ∧ x176.drop k191 = rest193 ∧ Fishref2TextFault.loop6 rest193 = q190 ∧ Rep a 105 [(88, .slice a155 q153.length c156), (89, .int .i64 ((q153.length : Nat) : Int)), (90, .int .i64 ((k165 : Nat) : Int)), (94, .slice a186 x176.length c187), (95, .int .i64 ((x176).length : Int)), (96, .int .i64 ((k191 : Nat) : Int))] ∧ St w s161 (vecC 23 1 a155 c156 q153.length cs158 :: pt b51 (.cells #[.slice a0_0 x0.Trains.length c0_0, .slice a0_1 x0.Turns.length c0_1] 33 (0, 0)) :: R)) (m := x176.length) ⟨x176, 0, rfl, rfl, hq189, hE.pick _ ⟨rfl, rfl, rfl, rfl, rfl, rfl, trivial⟩, hS⟩ ?_
                clear hE hS a w hq189; rintro m197 a w ⟨rest193, k191, rfl, hd194, hq189, hE, hS⟩
                refine W.gen fun K200 hK200 => ?_
                rcases rest193 with _ | ⟨x192, rest193⟩
                · have hlt195 := drop_nil hd194
                  refine W.seq ?_
                  refine W.region ?_
                  refine WL.vS hS hE (runs_plain rfl) (Gives.p hE rfl) rfl ?_; clear hE a; intro a hE
                  refine WL.nil ?_
                  refine W.seq ?_
                  refine W.condF hE rfl (decide_eq_false (by omega)) ?_
                  subst hK200
                  refine W.exit rfl ?_
                  exact ⟨hq189, hE.pick _ ⟨rfl, rfl, rfl, trivial⟩, hS⟩
                · obtain ⟨hlt195, hx196, hd194⟩ := drop_cons hd194
                  rw [Fishref2TextFault.loop6] at hq189
                  refine W.seq ?_
                  refine W.region ?_
                  refine WL.vS hS hE (runs_plain rfl) (Gives.p hE rfl) rfl ?_; clear hE a; intro a hE
                  refine WL.nil ?_
                  refine W.seq ?_
                  refine W.condT hE rfl (decide_eq_true (by omega)) ?_
                  refine W.skip ?_
                  refine W.seq ?_
                  refine W.block ?_
                  refine W.seq ?_
                  refine W.region ?_
                  obtain ⟨cs201, hl202, hR203, hat204⟩ := h188.at hx196
                  subst hR203
                  refine WL.vS hS hE (runs_plain rfl) (Gives.idx hE k191 rfl rfl sl23 rfl hlt195 (h188.aok hlt195)) rfl ?_; clear hE a; intro a hE
                  refine WL.vS hS hE (runs_plain rfl) (Gives.load1 hE rfl (fun w h => hat204 w _ h) ty3) rfl ?_; clear hE a; intro a hE
                  refine WL.vS hS hE (runs_plain rfl) (Gives.p hE rfl) rfl ?_; clear hE a; intro a hE
                  refine WL.nil ?_
                  refine W.seq ?_
                  refine W.region ?_
                  refine WL.vS hS hE (runs_plain rfl) (Gives.p hE rfl) rfl ?_; clear hE a; intro a hE
                  refine WL.fnq hE (Fishref2within_ok hS  rfl (r := Fishref2within x192 0 999999)) (runs_plain rfl) bd30 rfl rfl rfl ?_
                  clear hE hS; rintro e w ⟨rfl, hS⟩; refine ⟨_, rfl, ?_⟩; clear a; intro a hE
                  refine WL.vS hS hE (runs_plain rfl) (Gives.p hE rfl) rfl ?_; clear hE a; intro a hE
                  refine WL.nil ?_
                  refine W.cond hE rfl (fun hc205 => ?_) (fun hc205 => ?_)
                  · replace hq189 := iteT hc205 hq189
                    refine W.seq ?_
                    refine W.region ?_
                    refine WL.vS hS hE (runs_plain rfl) (Gives.p hE rfl) rfl ?_; clear hE a; intro a hE
                    refine WL.nil ?_
                    refine W.ret ?_
                    subst hK200
                    subst hK175
                    rw [← hq189] at hq163
                    dsimp only at hq163
                    rw [← Option.some.inj hq163] at hr
                    dsimp only at hr
                    refine finG (fn := Tryd.f13) (rs := [.tmp 2]) (vs := [_]) hE rfl ⟨rfl, trivial⟩ ?_
                    obtain rfl := Option.some.inj hr
                    replace hS := hS.tail
                    replace hS := hS.tail
                    exact ⟨rfl, (hS.down hle162)⟩
                  · replace hq189 := iteF hc205 hq189
                    refine W.skip ?_
                    refine W.region ?_
                    refine WL.vS hS hE (runs_plain rfl) (Gives.inc hE rfl (by have := h188.small; omega)) rfl ?_; clear hE a; intro a hE
                    refine WL.vS hS hE (runs_plain rfl) (Gives.p hE rfl) rfl ?_; clear hE a; intro a hE
                    refine WL.nil ?_
                    subst hK200
                    exact ⟨rest193.length, Nat.lt_succ_self _, rest193, k191 + 1, rfl, hd194, hq189, hE.pick _ ⟨rfl, rfl, rfl, rfl, rfl, rfl, trivial⟩, hS⟩
              · clear hE hS a w; rintro a w ⟨rfl, hE, hS⟩
                dsimp only at hq163
                refine W.region ?_
                refine WL.vS hS hE (runs_plain rfl) (Gives.inc hE rfl (by omega)) rfl ?_; clear hE a; intro a hE
                refine WL.vS hS hE (runs_plain rfl) (Gives.p hE rfl) rfl ?_; clear hE a; intro a hE
                refine WL.nil ?_
                subst hK175
                exact ⟨rest167, Nat.lt_succ_self _, rest167, k165 + 1, rfl, (by omega), hq163, hE.pick _ ⟨rfl, rfl, rfl, trivial⟩, hS⟩
          · clear hE hS a w; rintro a w ⟨rfl, hE, hS⟩
            dsimp only at hr
            refine W.seq ?_
            refine W.region ?_
            refine WL.vS hS hE (runs_plain rfl) (Gives.p hE rfl) rfl ?_; clear hE a; intro a hE
            refine WL.nil ?_
            refine W.ret ?_
            refine finG (fn := Tryd.f13) (rs := [.tmp 2]) (vs := [_]) hE rfl ⟨rfl, trivial⟩ ?_
            obtain rfl := Option.some.inj hr
            replace hS := hS.tail
            replace hS := hS.tail
            exact ⟨rfl, (hS.down hle162)⟩
set_option maxHeartbeats 8000000 in
theorem Fishlaw2plans_ok  {w : World} {s : Sg} {R : List HP}  (hS : St w s (R)) (hTab : TabX s) {r : Bool} (hr : Fishlaw2plans = some r) :
    Calls Tryd.prog 10 [].toArray w (fun e w => e = .returned (.bool r) ∧ St w s (R)) := by
  refine enter Tryd.func10 rfl rfl rfl fun a hE => ?_
  rw [Fishlaw2plans] at hr
  refine W.seq ?_
  refine W.region ?_
  refine WL.vS hS hE (runs_plain rfl) (Gives.p hE rfl) rfl ?_; clear hE a; intro a hE
  refine WL.nil ?_
  refine W.seq ?_
  refine W.region ?_
  refine WL.vS hS hE (runs_plain rfl) (Gives.build hE (vs := [(3, .int .i64 3)]) [.int .i64 0, .int .i64 0, .int .i64 0, .int .i64 3] rfl (by kernel_rfl)) rfl ?_; clear hE a; intro a hE
  refine WL.vS hS hE (runs_plain rfl) (Gives.build hE (vs := [(0, .int .i64 1), (1, .int .i64 5), (2, .int .i64 9), (3, .int .i64 9)]) [.int .i64 1, .int .i64 5, .int .i64 9, .int .i64 9] rfl (by kernel_rfl)) rfl ?_; clear hE a; intro a hE
  refine WL.lit hE hS (e := 64) (es := 4) (vs := [(0, .agg (List.toArray [.int .i64 0, .int .i64 0, .int .i64 0, .int .i64 3])), (1, .agg (List.toArray [.int .i64 1, .int .i64 5, .int .i64 9, .int .i64 9]))]) (cs := [.int .i64 0, .int .i64 0, .int .i64 0, .int .i64 3, .int .i64 1, .int .i64 5, .int .i64 9, .int .i64 9]) (runs_plain rfl) rfl (by kernel_rfl) rfl ?_; clear hE hS a w; intro b51 a w hE hS
  replace hS := hS.ptVec (es := 4) (m := 2) rfl (by decide)
  have h53 : Ev 4 RApiStop s [.int .i64 0, .int .i64 0, .int .i64 0, .int .i64 3, .int .i64 1, .int .i64 5, .int .i64 9, .int .i64 9] [(ApiStop.mk 0 0 0 3), (ApiStop.mk 1 5 9 9)] := (Ev.cons (c1 := [.int .i64 0, .int .i64 0, .int .i64 0, .int .i64 3]) rfl rfl (Ev.cons (c1 := [.int .i64 1, .int .i64 5, .int .i64 9, .int .i64 9]) rfl rfl (Ev.nil)))
  have hF := hS.fixD RApiStop.mono 0 rfl h53 (rfl); clear hS; obtain ⟨s54, hle55, hS, h56⟩ := hF
  refine WL.lit hE hS (e := 3) (es := 1) (vs := [(0, .int .i64 0), (1, .int .i64 3)]) (cs := [.int .i64 0, .int .i64 3]) (runs_plain rfl) rfl (by kernel_rfl) rfl ?_; clear hE hS a w; intro b57 a w hE hS
  replace hS := hS.ptVec (es := 1) (m := 2) rfl (by decide)
  have h59 : Ev 1 (RI .i64) s54 [.int .i64 0, .int .i64 3] [0, 3] := (Ev.cons (c1 := [.int .i64 0]) rfl rfl (Ev.cons (c1 := [.int .i64 3]) rfl rfl (Ev.nil)))
  have hF := hS.fixD RI.mono 0 rfl h59 (rfl); clear hS; obtain ⟨s60, hle61, hS, h62⟩ := hF
  replace h56 := Sl.mono RApiStop.mono hle61 h56
  refine WL.lit hE hS (e := 23) (es := 1) (vs := [(0, .slice (some ⟨b57, 0, none⟩) 2 2)]) (cs := [.slice (some ⟨b57, 0, none⟩) 2 2]) (runs_plain rfl) rfl (by kernel_rfl) rfl ?_; clear hE hS a w; intro b63 a w hE hS
  replace hS := hS.ptVec (es := 1) (m := 1) rfl (by decide)
  have h65 : Ev 1 (RL 1 (RI .i64)) s60 [.slice (some ⟨b57, 0, none⟩) 2 2] [[0, 3]] := (Ev.cons (c1 := [.slice (some ⟨b57, 0, none⟩) 2 2]) ⟨_, _, rfl, h62⟩ rfl (Ev.nil))
  have hF := hS.fixD (RL.mono RI.mono) 0 rfl h65 (rfl); clear hS; obtain ⟨s66, hle67, hS, h68⟩ := hF
  replace h56 := Sl.mono RApiStop.mono hle67 h56
  replace h62 := Sl.mono RI.mono hle67 h62
  refine WL.vS hS hE (runs_plain rfl) (Gives.build hE (vs := [(0, .int .i64 7), (2, .slice (some ⟨b51, 0, none⟩) 2 2), (3, .slice (some ⟨b63, 0, none⟩) 1 1)]) [.int .i64 7, .int .i64 0, .slice (some ⟨b51, 0, none⟩) 2 2, .slice (some ⟨b63, 0, none⟩) 1 1] rfl (by kernel_rfl)) rfl ?_; clear hE a; intro a hE
  refine WL.lit hE hS (e := 67) (es := 4) (vs := [(0, .agg (List.toArray [.int .i64 7, .int .i64 0, .slice (some ⟨b51, 0, none⟩) 2 2, .slice (some ⟨b63, 0, none⟩) 1 1]))]) (cs := [.int .i64 7, .int .i64 0, .slice (some ⟨b51, 0, none⟩) 2 2, .slice (some ⟨b63, 0, none⟩) 1 1]) (runs_plain rfl) rfl (by kernel_rfl) rfl ?_; clear hE hS a w; intro b69 a w hE hS
  replace hS := hS.ptVec (es := 4) (m := 1) rfl (by decide)
  have h71 : Ev 4 RApiTrain s66 [.int .i64 7, .int .i64 0, .slice (some ⟨b51, 0, none⟩) 2 2, .slice (some ⟨b63, 0, none⟩) 1 1] [(ApiTrain.mk 7 0 [(ApiStop.mk 0 0 0 3), (ApiStop.mk 1 5 9 9)] [[0, 3]])] := (Ev.cons (c1 := [.int .i64 7, .int .i64 0, .slice (some ⟨b51, 0, none⟩) 2 2, .slice (some ⟨b63, 0, none⟩) 1 1]) ⟨_, _, _, _, rfl, h56, h68⟩ rfl (Ev.nil))
  have hF := hS.fixD RApiTrain.mono 0 rfl h71 (rfl); clear hS; obtain ⟨s72, hle73, hS, h74⟩ := hF
  replace h56 := Sl.mono RApiStop.mono hle73 h56
  replace h62 := Sl.mono RI.mono hle73 h62
  replace h68 := Sl.mono (RL.mono RI.mono) hle73 h68
  refine WL.lit hE hS (e := 3) (es := 1) (vs := [(0, .int .i64 0)]) (cs := [.int .i64 0]) (runs_plain rfl) rfl (by kernel_rfl) rfl ?_; clear hE hS a w; intro b75 a w hE hS
  replace hS := hS.ptVec (es := 1) (m := 1) rfl (by decide)
  have h77 : Ev 1 (RI .i64) s72 [.int .i64 0] [0] := (Ev.cons (c1 := [.int .i64 0]) rfl rfl (Ev.nil))
  have hF := hS.fixD RI.mono 0 rfl h77 (rfl); clear hS; obtain ⟨s78, hle79, hS, h80⟩ := hF
  replace h56 := Sl.mono RApiStop.mono hle79 h56
  replace h62 := Sl.mono RI.mono hle79 h62
  replace h68 := Sl.mono (RL.mono RI.mono) hle79 h68
  replace h74 := Sl.mono RApiTrain.mono hle79 h74
  refine WL.lit hE hS (e := 23) (es := 1) (vs := [(0, .slice (some ⟨b75, 0, none⟩) 1 1)]) (cs := [.slice (some ⟨b75, 0, none⟩) 1 1]) (runs_plain rfl) rfl (by kernel_rfl) rfl ?_; clear hE hS a w; intro b81 a w hE hS
  replace hS := hS.ptVec (es := 1) (m := 1) rfl (by decide)
  have h83 : Ev 1 (RL 1 (RI .i64)) s78 [.slice (some ⟨b75, 0, none⟩) 1 1] [[0]] := (Ev.cons (c1 := [.slice (some ⟨b75, 0, none⟩) 1 1]) ⟨_, _, rfl, h80⟩ rfl (Ev.nil))
  have hF := hS.fixD (RL.mono RI.mono) 0 rfl h83 (rfl); clear hS; obtain ⟨s84, hle85, hS, h86⟩ := hF
  replace h56 := Sl.mono RApiStop.mono hle85 h56
  replace h62 := Sl.mono RI.mono hle85 h62
  replace h68 := Sl.mono (RL.mono RI.mono) hle85 h68
  replace h74 := Sl.mono RApiTrain.mono hle85 h74
  replace h80 := Sl.mono RI.mono hle85 h80
  refine WL.vS hS hE (runs_plain rfl) (Gives.build hE (vs := [(0, .slice (some ⟨b69, 0, none⟩) 1 1), (1, .slice (some ⟨b81, 0, none⟩) 1 1)]) [.slice (some ⟨b69, 0, none⟩) 1 1, .slice (some ⟨b81, 0, none⟩) 1 1] rfl (by kernel_rfl)) rfl ?_; clear hE a; intro a hE
  obtain ⟨q87, hq88, hr⟩ := bindS hr
  have hc_ := PlanText_ok hS (TabG.mono (Sg.Le.trans (Sg.Le.trans (Sg.Le.trans (Sg.Le.trans (Sg.Le.trans hle55 hle61) hle67) hle73) hle79) hle85) hTab) h74 h86 hq88
  refine WL.fnq hE (hc_) (runs_plain rfl) bd12 rfl rfl rfl ?_
  clear hE hS hc_; rintro e w ⟨rfl, hS⟩; refine ⟨_, rfl, ?_⟩; clear a; intro a hE
  refine WL.vS hS hE (runs_plain rfl) (Gives.p hE rfl) rfl ?_; clear hE a; intro a hE
  refine WL.vS hS hE (runs_plain rfl) (Gives.p hE rfl) rfl ?_; clear hE a; intro a hE
  refine WL.vS hS hE (runs_plain rfl) (Gives.p hE rfl) rfl ?_; clear hE a; intro a hE
  refine WL.vS hS hE (runs_plain rfl) (Gives.p hE rfl) rfl ?_; clear hE a; intro a hE
  refine WL.vS hS hE (runs_plain rfl) (Gives.p hE rfl) rfl ?_; clear hE a; intro a hE
  refine WL.nil ?_
  refine W.seq ?_
  obtain ⟨q90, hq89, hr⟩ := bndS hr
  refine W.cut (fun a w => ∃ (q93 : Bool), q93 = q90 ∧ Rep a 23 [(0, .bool q93)] ∧ St w s84 (R)) ?_ ?_
  · refine W.gen fun K94 hK94 => ?_
    refine W.region ?_
    refine WL.vS hS hE (runs_plain rfl) (Gives.p hE rfl) rfl ?_; clear hE a; intro a hE
    refine WL.vS hS hE (runs_plain rfl) (Gives.p hE rfl) rfl ?_; clear hE a; intro a hE
    refine WL.vS hS hE (runs_plain rfl) (Gives.p hE rfl) rfl ?_; clear hE a; intro a hE
    rcases Bool.eq_false_or_eq_true (q87.2 == 0) with hg95 | hg95
    · replace hq89 := iteT hg95 hq89
      refine WL.vS hS hE (runs_if hE rfl rfl rfl hg95) (Gives.p hE rfl) rfl ?_; clear hE a; intro a hE
      refine WL.vS hS hE (runs_if hE rfl rfl rfl hg95) (Gives.eqSt hE rfl rfl) rfl ?_; clear hE a; intro a hE
      refine WL.vS hS hE (runs_plain rfl) (Gives.pickT hE rfl hg95 rfl) rfl ?_; clear hE a; intro a hE
      refine WL.vS hS hE (runs_plain rfl) (Gives.p hE rfl) rfl ?_; clear hE a; intro a hE
      refine WL.nil ?_
      subst hK94
      exact ⟨(seq q87.1 (str [116, 114, 97, 105, 110, 32, 55, 32, 48, 10, 115, 116, 111, 112, 32, 48, 32, 48, 32, 48, 32, 51, 10, 115, 116, 111, 112, 32, 49, 32, 53, 32, 57, 32, 57, 10, 108, 101, 103, 32, 48, 32, 51, 10, 116, 117, 114, 110, 32, 48, 10])), hq89, hE.pick _ ⟨rfl, trivial⟩, hS⟩
    · replace hq89 := iteF hg95 hq89
      refine WL.no hE (runs_not hE rfl rfl rfl (by rw [hg95]; decide)) rfl ?_; clear hE a; intro a hE
      refine WL.no hE (runs_not hE rfl rfl rfl (by rw [hg95]; decide)) rfl ?_; clear hE a; intro a hE
      refine WL.vS hS hE (runs_plain rfl) (Gives.pickF hE rfl hg95 rfl) rfl ?_; clear hE a; intro a hE
      refine WL.vS hS hE (runs_plain rfl) (Gives.p hE rfl) rfl ?_; clear hE a; intro a hE
      refine WL.nil ?_
      subst hK94
      exact ⟨false, hq89, hE.pick _ ⟨rfl, trivial⟩, hS⟩
  · clear hE hS a w; rintro a w ⟨q93, rfl, hE, hS⟩
    refine W.ret ?_
    refine finG (fn := Tryd.f10) (rs := [.tmp 0]) (vs := [_]) hE rfl ⟨rfl, trivial⟩ ?_
    obtain rfl := Option.some.inj hr
    exact ⟨rfl, (hS.down (Sg.Le.trans (Sg.Le.trans (Sg.Le.trans (Sg.Le.trans (Sg.Le.trans hle55 hle61) hle67) hle73) hle79) hle85))⟩
set_option maxHeartbeats 8000000 in
theorem InternalStringsliteHasSuffix_ok  {w : World} {s : Sg} {R : List HP} {x0 : ByteArray} {x1 : ByteArray} (hS : St w s (R))  {r : Bool} (hr : InternalStringsliteHasSuffix x0 x1 = some r) :
    Calls Tryd.prog 97 [.string x0, .string x1].toArray w (fun e w => e = .returned (.bool r) ∧ St w s (R)) := by
  refine enter Tryd.func97 rfl rfl rfl fun a hE => ?_
  rw [InternalStringsliteHasSuffix] at hr
  refine W.seq ?_
  refine W.region ?_
  refine WL.vS hS hE (runs_plain rfl) (Gives.p hE rfl) rfl ?_; clear hE a; intro a hE
  refine WL.nil ?_
  refine W.seq ?_
  obtain ⟨q52, hq51, hr⟩ := bindS hr
  refine W.cut (fun a w => ∃ (q55 : Bool), q55 = q52 ∧ Rep a 21 [(4, .bool q55)] ∧ St w s (R)) ?_ ?_
  · refine W.gen fun K56 hK56 => ?_
    refine W.region ?_
    refine WL.vS hS hE (runs_plain rfl) (Gives.p hE rfl) rfl ?_; clear hE a; intro a hE
    refine WL.vS hS hE (runs_plain rfl) (Gives.lenS hE rfl st9) rfl ?_; clear hE a; intro a hE
    refine WL.vS hS hE (runs_plain rfl) (Gives.p hE rfl) rfl ?_; clear hE a; intro a hE
    refine WL.vS hS hE (runs_plain rfl) (Gives.lenS hE rfl st9) rfl ?_; clear hE a; intro a hE
    refine WL.vS hS hE (runs_plain rfl) (Gives.p hE rfl) rfl ?_; clear hE a; intro a hE
    refine WL.vS hS hE (runs_plain rfl) (Gives.p hE rfl) rfl ?_; clear hE a; intro a hE
    rcases Bool.eq_false_or_eq_true (decide (((x0.size : Nat) : Int) ≥ ((x1.size : Nat) : Int))) with hg57 | hg57
    · replace hq51 := iteT hg57 hq51
      refine WL.vS hS hE (runs_if hE rfl rfl rfl hg57) (Gives.p hE rfl) rfl ?_; clear hE a; intro a hE
      refine WL.vS hS hE (runs_if hE rfl rfl rfl hg57) (Gives.p hE rfl) rfl ?_; clear hE a; intro a hE
      refine WL.vS hS hE (runs_if hE rfl rfl rfl hg57) (Gives.lenS hE rfl st9) rfl ?_; clear hE a; intro a hE
      refine WL.vS hS hE (runs_if hE rfl rfl rfl hg57) (Gives.p hE rfl) rfl ?_; clear hE a; intro a hE
      refine WL.vS hS hE (runs_if hE rfl rfl rfl hg57) (Gives.lenS hE rfl st9) rfl ?_; clear hE a; intro a hE
      refine WL.vS hS hE (runs_if hE rfl rfl rfl hg57) (Gives.p hE rfl) rfl ?_; clear hE a; intro a hE
      obtain ⟨x58, hx59, hq51⟩ := bindS hq51
      refine WL.vS hS hE (runs_if hE rfl rfl rfl hg57) (Gives.cutSL hE st9 rfl rfl hx59) rfl ?_; clear hE a; intro a hE
      refine WL.vS hS hE (runs_if hE rfl rfl rfl hg57) (Gives.p hE rfl) rfl ?_; clear hE a; intro a hE
      refine WL.vS hS hE (runs_if hE rfl rfl rfl hg57) (Gives.eqSt hE rfl rfl) rfl ?_; clear hE a; intro a hE
      refine WL.vS hS hE (runs_plain rfl) (Gives.pickT hE rfl hg57 rfl) rfl ?_; clear hE a; intro a hE
      refine WL.vS hS hE (runs_plain rfl) (Gives.p hE rfl) rfl ?_; clear hE a; intro a hE
      refine WL.nil ?_
      subst hK56
      exact ⟨(seq x58 x1), Option.some.inj hq51, hE.pick _ ⟨rfl, trivial⟩, hS⟩
    · replace hq51 := iteF hg57 hq51
      refine WL.no hE (runs_not hE rfl rfl rfl (by rw [hg57]; decide)) rfl ?_; clear hE a; intro a hE
      refine WL.no hE (runs_not hE rfl rfl rfl (by rw [hg57]; decide)) rfl ?_; clear hE a; intro a hE
      refine WL.no hE (runs_not hE rfl rfl rfl (by rw [hg57]; decide)) rfl ?_; clear hE a; intro a hE
      refine WL.no hE (runs_not hE rfl rfl rfl (by rw [hg57]; decide)) rfl ?_; clear hE a; intro a hE
      refine WL.no hE (runs_not hE rfl rfl rfl (by rw [hg57]; decide)) rfl ?_; clear hE a; intro a hE
      refine WL.no hE (runs_not hE rfl rfl rfl (by rw [hg57]; decide)) rfl ?_; clear hE a; intro a hE
      refine WL.no hE (runs_not hE rfl rfl rfl (by rw [hg57]; decide)) rfl ?_; clear hE a; intro a hE
      refine WL.no hE (runs_not hE rfl rfl rfl (by rw [hg57]; decide)) rfl ?_; clear hE a; intro a hE
      refine WL.no hE (runs_not hE rfl rfl rfl (by rw [hg57]; decide)) rfl ?_; clear hE a; intro a hE
      refine WL.vS hS hE (runs_plain rfl) (Gives.pickF hE rfl hg57 rfl) rfl ?_; clear hE a; intro a hE
      refine WL.vS hS hE (runs_plain rfl) (Gives.p hE rfl) rfl ?_; clear hE a; intro a hE
      refine WL.nil ?_
      subst hK56
      exact ⟨false, Option.some.inj hq51, hE.pick _ ⟨rfl, trivial⟩, hS⟩
  · clear hE hS a w; rintro a w ⟨q55, rfl, hE, hS⟩
    refine W.ret ?_
    refine finG (fn := Tryd.f97) (rs := [.tmp 4]) (vs := [_]) hE rfl ⟨rfl, trivial⟩ ?_
    obtain rfl := Option.some.inj hr
    exact ⟨rfl, hS⟩
set_option maxHeartbeats 8000000 in
theorem InternalStringsliteCutSuffix_ok  {w : World} {s : Sg} {R : List HP} {x0 : ByteArray} {x1 : ByteArray} (hS : St w s (R))  {r : ByteArray × Bool} (hr : InternalStringsliteCutSuffix x0 x1 = some r) :
    Calls Tryd.prog 81 [.string x0, .string x1].toArray w (fun e w => e = .returned (.tuple #[.string r.1, .bool r.2]) ∧ St w s (R)) := by
  refine enter Tryd.func81 rfl rfl rfl fun a hE => ?_
  rw [InternalStringsliteCutSuffix] at hr
  refine W.seq ?_
  refine W.region ?_
  refine WL.vS hS hE (runs_plain rfl) (Gives.p hE rfl) rfl ?_; clear hE a; intro a hE
  refine WL.vS hS hE (runs_plain rfl) (Gives.p hE rfl) rfl ?_; clear hE a; intro a hE
  refine WL.nil ?_
  refine W.seq ?_
  refine W.seq ?_
  refine W.region ?_
  refine WL.vS hS hE (runs_plain rfl) (Gives.p hE rfl) rfl ?_; clear hE a; intro a hE
  refine WL.vS hS hE (runs_plain rfl) (Gives.p hE rfl) rfl ?_; clear hE a; intro a hE
  obtain ⟨q51, hq52, hr⟩ := bindS hr
  have hc_ := InternalStringsliteHasSuffix_ok hS  hq52
  refine WL.fnq hE (hc_) (runs_plain rfl) bd97 rfl rfl rfl ?_
  clear hE hS hc_; rintro e w ⟨rfl, hS⟩; refine ⟨_, rfl, ?_⟩; clear a; intro a hE
  refine WL.vS hS hE (runs_plain rfl) (Gives.p hE rfl) rfl ?_; clear hE a; intro a hE
  refine WL.nil ?_
  refine W.cond hE rfl (fun hc53 => ?_) (fun hc53 => ?_)
  · replace hr := iteT hc53 hr
    refine W.seq ?_
    refine W.region ?_
    refine WL.vS hS hE (runs_plain rfl) (Gives.p hE rfl) rfl ?_; clear hE a; intro a hE
    refine WL.vS hS hE (runs_plain rfl) (Gives.p hE rfl) rfl ?_; clear hE a; intro a hE
    refine WL.vS hS hE (runs_plain rfl) (Gives.p hE rfl) rfl ?_; clear hE a; intro a hE
    refine WL.nil ?_
    refine W.ret ?_
    refine finG (fn := Tryd.f81) (rs := [.tmp 4, .tmp 5]) (vs := [_, _]) hE rfl ⟨rfl, rfl, trivial⟩ ?_
    obtain rfl := Option.some.inj hr
    exact ⟨rfl, hS⟩
  · replace hr := iteF hc53 hr
    refine W.skip ?_
    refine W.seq ?_
    refine W.region ?_
    refine WL.vS hS hE (runs_plain rfl) (Gives.p hE rfl) rfl ?_; clear hE a; intro a hE
    refine WL.vS hS hE (runs_plain rfl) (Gives.p hE rfl) rfl ?_; clear hE a; intro a hE
    refine WL.vS hS hE (runs_plain rfl) (Gives.lenS hE rfl st9) rfl ?_; clear hE a; intro a hE
    refine WL.vS hS hE (runs_plain rfl) (Gives.p hE rfl) rfl ?_; clear hE a; intro a hE
    refine WL.vS hS hE (runs_plain rfl) (Gives.lenS hE rfl st9) rfl ?_; clear hE a; intro a hE
    refine WL.vS hS hE (runs_plain rfl) (Gives.p hE rfl) rfl ?_; clear hE a; intro a hE
    obtain ⟨x54, hx55, hr⟩ := bindS hr
    refine WL.vS hS hE (runs_plain rfl) (Gives.cutSH hE st9 rfl rfl hx55) rfl ?_; clear hE a; intro a hE
    refine WL.vS hS hE (runs_plain rfl) (Gives.p hE rfl) rfl ?_; clear hE a; intro a hE
    refine WL.vS hS hE (runs_plain rfl) (Gives.p hE rfl) rfl ?_; clear hE a; intro a hE
    refine WL.nil ?_
    refine W.ret ?_
    refine finG (fn := Tryd.f81) (rs := [.tmp 4, .tmp 5]) (vs := [_, _]) hE rfl ⟨rfl, rfl, trivial⟩ ?_
    obtain rfl := Option.some.inj hr
    exact ⟨rfl, hS⟩
set_option maxHeartbeats 8000000 in
theorem StringsCutSuffix_ok  {w : World} {s : Sg} {R : List HP} {x0 : ByteArray} {x1 : ByteArray} (hS : St w s (R))  {r : ByteArray × Bool} (hr : StringsCutSuffix x0 x1 = some r) :
    Calls Tryd.prog 55 [.string x0, .string x1].toArray w (fun e w => e = .returned (.tuple #[.string r.1, .bool r.2]) ∧ St w s (R)) := by
  refine enter Tryd.func55 rfl rfl rfl fun a hE => ?_
  rw [StringsCutSuffix] at hr
  refine W.seq ?_
  refine W.region ?_
  refine WL.vS hS hE (runs_plain rfl) (Gives.p hE rfl) rfl ?_; clear hE a; intro a hE
  refine WL.vS hS hE (runs_plain rfl) (Gives.p hE rfl) rfl ?_; clear hE a; intro a hE
  refine WL.nil ?_
  refine W.seq ?_
  refine W.region ?_
  refine WL.vS hS hE (runs_plain rfl) (Gives.p hE rfl) rfl ?_; clear hE a; intro a hE
  refine WL.vS hS hE (runs_plain rfl) (Gives.p hE rfl) rfl ?_; clear hE a; intro a hE
  obtain ⟨q51, hq52, hr⟩ := bindS hr
  have hc_ := InternalStringsliteCutSuffix_ok hS  hq52
  refine WL.fnq hE (hc_) (runs_plain rfl) bd81 rfl rfl rfl ?_
  clear hE hS hc_; rintro e w ⟨rfl, hS⟩; refine ⟨_, rfl, ?_⟩; clear a; intro a hE
  refine WL.vS hS hE (runs_plain rfl) (Gives.p hE rfl) rfl ?_; clear hE a; intro a hE
  refine WL.vS hS hE (runs_plain rfl) (Gives.p hE rfl) rfl ?_; clear hE a; intro a hE
  refine WL.vS hS hE (runs_plain rfl) (Gives.p hE rfl) rfl ?_; clear hE a; intro a hE
  refine WL.vS hS hE (runs_plain rfl) (Gives.p hE rfl) rfl ?_; clear hE a; intro a hE
  refine WL.nil ?_
  refine W.ret ?_
  refine finG (fn := Tryd.f55) (rs := [.tmp 4, .tmp 5]) (vs := [_, _]) hE rfl ⟨rfl, rfl, trivial⟩ ?_
  obtain rfl := Option.some.inj hr
  exact ⟨rfl, hS⟩
set_option maxHeartbeats 8000000 in
theorem LineLines_ok  {w : World} {s : Sg} {R : List HP} {x0 : ByteArray} (hS : St w s (R)) (hTab : TabX s) {r : (List (List ByteArray)) × Bool} (hr : LineLines x0 = some r) :
    Calls Tryd.prog 38 [.string x0].toArray w (fun e w => ∃ (a0 : Option Addr) (c0 n0 : Nat) (cs0 : List Value) (t : Sg), e = .returned (.tuple #[.slice a0 n0 c0, .bool r.2]) ∧ s.Le t ∧ Ev 1 (RL 1 RS) t cs0 r.1 ∧ r.1.length = n0 ∧ St w t (vecC 83 1 a0 c0 n0 cs0 :: R)) := by
  refine enter Tryd.func38 rfl rfl rfl fun a hE => ?_
  rw [LineLines] at hr
  refine W.seq ?_
  refine W.region ?_
  refine WL.vS hS hE (runs_plain rfl) (Gives.p hE rfl) rfl ?_; clear hE a; intro a hE
  refine WL.vS hS hE (runs_plain rfl) (Gives.p hE rfl) rfl ?_; clear hE a; intro a hE
  refine WL.nil ?_
  refine W.seq ?_
  refine W.seq ?_
  refine W.region ?_
  refine WL.vS hS hE (runs_plain rfl) (Gives.p hE rfl) rfl ?_; clear hE a; intro a hE
  refine WL.vS hS hE (runs_plain rfl) (Gives.eqSt hE rfl rfl) rfl ?_; clear hE a; intro a hE
  refine WL.nil ?_
  refine W.cond hE rfl (fun hc51 => ?_) (fun hc51 => ?_)
  · replace hr := iteT hc51 hr
    refine W.seq ?_
    refine W.region ?_
    refine WL.vS hS hE (runs_plain rfl) (Gives.p hE rfl) rfl ?_; clear hE a; intro a hE
    refine WL.vS hS hE (runs_plain rfl) (Gives.p hE rfl) rfl ?_; clear hE a; intro a hE
    refine WL.nil ?_
    refine W.ret ?_
    replace hS := hS.vecNil 83 1
    refine finG (fn := Tryd.f38) (rs := [.tmp 2, .tmp 3]) (vs := [_, _]) hE rfl ⟨rfl, rfl, trivial⟩ ?_
    obtain rfl := Option.some.inj hr
    exact ⟨none, 0, 0, [], s, rfl, (Sg.Le.refl _), (Ev.nil), (rfl), hS⟩
  · replace hr := iteF hc51 hr
    refine W.skip ?_
    refine W.seq ?_
    refine W.region ?_
    refine WL.vS hS hE (runs_plain rfl) (Gives.p hE rfl) rfl ?_; clear hE a; intro a hE
    obtain ⟨q53, hq54, hr⟩ := bindS hr
    have hc_ := StringsCutSuffix_ok hS  hq54
    refine WL.fnq hE (hc_) (runs_plain rfl) bd55 rfl rfl rfl ?_
    clear hE hS hc_; rintro e w ⟨rfl, hS⟩; refine ⟨_, rfl, ?_⟩; clear a; intro a hE
    refine WL.vS hS hE (runs_plain rfl) (Gives.p hE rfl) rfl ?_; clear hE a; intro a hE
    refine WL.vS hS hE (runs_plain rfl) (Gives.p hE rfl) rfl ?_; clear hE a; intro a hE
    refine WL.vS hS hE (runs_plain rfl) (Gives.p hE rfl) rfl ?_; clear hE a; intro a hE
    refine WL.vS hS hE (runs_plain rfl) (Gives.p hE rfl) rfl ?_; clear hE a; intro a hE
    refine WL.vS hS hE (runs_plain rfl) (Gives.p hE rfl) rfl ?_; clear hE a; intro a hE
    refine WL.nil ?_
    refine W.seq ?_
    refine W.region ?_
    replace hS := hS.vecNil 83 1
    refine WL.vS hS hE (runs_plain rfl) (Gives.p hE rfl) rfl ?_; clear hE a; intro a hE
    refine WL.nil ?_
    refine W.seq ?_
    refine W.seq ?_
    refine W.region ?_
    refine WL.vS hS hE (runs_plain rfl) (Gives.p hE rfl) rfl ?_; clear hE a; intro a hE
    obtain ⟨q56, hq57, hr⟩ := bindS hr
    refine WL.fnq hE (split_ok hS (TabG.mono (Sg.Le.refl _) hTab) hq57) (runs_plain rfl) bd56 rfl rfl rfl ?_
    clear hE hS; rintro e w ⟨b58, cs59, rfl, h60, hS⟩; refine ⟨_, rfl, ?_⟩; clear a; intro a hE
    refine WL.vS hS hE (runs_plain rfl) (Gives.len hE rfl sl83) rfl ?_; clear hE a; intro a hE
    refine WL.vS hS hE (runs_plain rfl) (Gives.p hE rfl) rfl ?_; clear hE a; intro a hE
    refine WL.nil ?_
    have hb73 : q56.length ≤ 9223372036854775807 := by have := hS.vecCap 0 rfl; unfold maxLen at this; omega
    obtain ⟨q63, hq62, hr⟩ := bindS hr
    refine W.cut (fun a w => ∃ (q74 : List (List ByteArray)), ∃ (a75 : Option Addr), ∃ (c76 : Nat), ∃ (n78 : Nat), ∃ (cs79 : List Value), ∃ (s71 : Sg), s.Le s71 ∧ q74 = q63 ∧ Ev 1 (RL 1 RS) s71 cs79 q74 ∧ q74.length = n78 ∧ Rep a 31 [(5, .bool q53.2), (6, .slice a75 n78 c76)] ∧ St w s71 (vecC 9 1 (some ⟨b58, 0, none⟩) q56.length q56.length cs59 :: vecC 83 1 a75 c76 n78 cs79 :: R)) ?_ ?_
    · refine W.block ?_
      refine W.loop (fun m a w => ∃ (rest66 : Nat) (k64 : Nat), ∃ (q74 : List (List ByteArray)), ∃ (a75 : Option Addr), ∃ (c76 : Nat), ∃ (n78 : Nat), ∃ (cs79 : List Value), ∃ (s71 : Sg), rest66 = m ∧ k64 + rest66 = q56.length ∧ s.Le s71 ∧ LineLines.loop1 q56 rest66 k64 q74 = some q63 ∧ Ev 1 (RL 1 RS) s71 cs79 q74 ∧ q74.length = n78 ∧ Rep a 31 [(5, .bool q53.2), (6, .slice a75 n78 c76), (17, .slice (some ⟨b58, 0, none⟩) q56.length q56.length), (18, .int .i64 ((q56.length : Nat) : Int)), (19, .int .i64 ((k64 : Nat) : Int))] ∧ St w s71 (vecC 9 1 (some ⟨b58, 0, none⟩) q56.length q56.length cs59 :: vecC 83 1 a75 c76 n78 cs79 :: R)) (m := q56.length) ⟨q56.length, 0, [], none, 0, 0, [], s, rfl, by omega, (Sg.Le.refl _), hq62, (Ev.nil), (rfl), hE.pick _ ⟨rfl, rfl, rfl, rfl, rfl, trivial⟩, hS⟩ ?_
      clear hE hS a w hq62; rintro m70 a w ⟨rest66, k64, q74, a75, c76, n78, cs79, s71, rfl, hd67, hle72, hq62, h77, rfl, hE, hS⟩
      refine W.gen fun K81 hK81 => ?_
      replace h60 := Ev.mono RS.mono hle72 h60
      rcases rest66 with _ | rest66
      · skip
        refine W.seq ?_
        refine W.region ?_
        refine WL.vS hS hE (runs_plain rfl) (Gives.p hE rfl) rfl ?_; clear hE a; intro a hE
        refine WL.nil ?_
        refine W.seq ?_
        refine W.condF hE rfl (decide_eq_false (by omega)) ?_
        subst hK81
        refine W.exit rfl ?_
        exact ⟨q74, a75, c76, q74.length, cs79, s71, hle72, Option.some.inj hq62, h77, rfl, hE.pick _ ⟨rfl, rfl, trivial⟩, hS⟩
      · have hlt68 : k64 < q56.length := by omega
        rw [LineLines.loop1] at hq62
        refine W.seq ?_
        refine W.region ?_
        refine WL.vS hS hE (runs_plain rfl) (Gives.p hE rfl) rfl ?_; clear hE a; intro a hE
        refine WL.nil ?_
        refine W.seq ?_
        refine W.condT hE rfl (decide_eq_true (by omega)) ?_
        refine W.skip ?_
        refine W.seq ?_
        refine W.block ?_
        refine W.seq ?_
        refine W.region ?_
        obtain ⟨x82, hx83, hq62⟩ := bindS hq62
        obtain ⟨hi84, hlt85, hy86⟩ := gx_some hx83
        obtain ⟨vs87, hl88, hR89, hd90, hget91⟩ := h60.at hy86
        subst hR89
        refine WL.vS hS hE (runs_plain rfl) (Gives.idx hE ((((k64 : Nat) : Int)).toNat) rfl rfl sl83 hi84 (by omega) (hS.vecAok 0 rfl (by omega : (((k64 : Nat) : Int)).toNat < q56.length))) rfl ?_; clear hE a; intro a hE
        refine WL.vS hS hE (runs_plain rfl) (Gives.load1 hE rfl (fun w h => St.vecSees h 0 rfl ((((k64 : Nat) : Int)).toNat * 1) _ hget91) ty9) rfl ?_; clear hE a; intro a hE
        refine WL.vS hS hE (runs_plain rfl) (Gives.p hE rfl) rfl ?_; clear hE a; intro a hE
        refine WL.nil ?_
        refine W.region ?_
        refine WL.vS hS hE (runs_plain rfl) (Gives.p hE rfl) rfl ?_; clear hE a; intro a hE
        refine WL.vS hS hE (runs_plain rfl) (Gives.p hE rfl) rfl ?_; clear hE a; intro a hE
        obtain ⟨q92, hq93, hq62⟩ := bindS hq62
        refine WL.fnq hE (split_ok hS (TabG.mono hle72 hTab) hq93) (runs_plain rfl) bd56 rfl rfl rfl ?_
        clear hE hS; rintro e w ⟨b94, cs95, rfl, h96, hS⟩; refine ⟨_, rfl, ?_⟩; clear a; intro a hE
        have hF := hS.fixD RS.mono 0 rfl h96 (rfl); clear hS; obtain ⟨s98, hle99, hS, h100⟩ := hF
        replace h60 := Ev.mono RS.mono hle99 h60
        replace h77 := Ev.mono (RL.mono RS.mono) hle99 h77
        refine WL.lit hE hS (e := 83) (es := 1) (vs := [(0, .slice (some ⟨b94, 0, none⟩) q92.length q92.length)]) (cs := [.slice (some ⟨b94, 0, none⟩) q92.length q92.length]) (runs_plain rfl) rfl (by kernel_rfl) rfl ?_; clear hE hS a w; intro b101 a w hE hS
        obtain ⟨x102, hx103, hq62⟩ := bindS hq62
        refine WL.appD hE hS 1 (m := 1) (runs_plain rfl) rfl rfl rfl ap80 rfl h77 rfl (xs := [q92]) (Ev.cons (c1 := [.slice (some ⟨b94, 0, none⟩) q92.length q92.length]) ⟨_, _, rfl, h100⟩ rfl (Ev.nil)) rfl rfl hx103 rfl ?_; clear hE hS a w; intro a104 c105 cs106 a w h107 hE hS
        refine WL.vS hS hE (runs_plain rfl) (Gives.p hE rfl) rfl ?_; clear hE a; intro a hE
        refine WL.nil ?_
        refine W.region ?_
        refine WL.vS hS hE (runs_plain rfl) (Gives.inc hE rfl (by omega)) rfl ?_; clear hE a; intro a hE
        refine WL.vS hS hE (runs_plain rfl) (Gives.p hE rfl) rfl ?_; clear hE a; intro a hE
        refine WL.nil ?_
        subst hK81
        exact ⟨rest66, Nat.lt_succ_self _, rest66, k64 + 1, x102, a104, c105, x102.length, cs106, s98, rfl, (by omega), (Sg.Le.trans hle72 hle99), hq62, h107, (rfl), hE.pick _ ⟨rfl, rfl, rfl, rfl, rfl, trivial⟩, hS⟩
    · clear hE hS a w; rintro a w ⟨q74, a75, c76, n78, cs79, s71, hle72, rfl, h77, rfl, hE, hS⟩
      replace h60 := Ev.mono RS.mono hle72 h60
      refine W.seq ?_
      refine W.region ?_
      refine WL.vS hS hE (runs_plain rfl) (Gives.p hE rfl) rfl ?_; clear hE a; intro a hE
      refine WL.vS hS hE (runs_plain rfl) (Gives.p hE rfl) rfl ?_; clear hE a; intro a hE
      refine WL.vS hS hE (runs_plain rfl) (Gives.p hE rfl) rfl ?_; clear hE a; intro a hE
      refine WL.vS hS hE (runs_plain rfl) (Gives.p hE rfl) rfl ?_; clear hE a; intro a hE
      refine WL.nil ?_
      refine W.ret ?_
      refine finG (fn := Tryd.f38) (rs := [.tmp 2, .tmp 3]) (vs := [_, _]) hE rfl ⟨rfl, rfl, trivial⟩ ?_
      obtain rfl := Option.some.inj hr
      replace hS := hS.tail
      exact ⟨a75, c76, q74.length, cs79, s71, rfl, hle72, h77, rfl, hS⟩
set_option maxHeartbeats 8000000 in
theorem InternalStringsliteHasPrefix_ok  {w : World} {s : Sg} {R : List HP} {x0 : ByteArray} {x1 : ByteArray} (hS : St w s (R))  {r : Bool} (hr : InternalStringsliteHasPrefix x0 x1 = some r) :
    Calls Tryd.prog 95 [.string x0, .string x1].toArray w (fun e w => e = .returned (.bool r) ∧ St w s (R)) := by
  refine enter Tryd.func95 rfl rfl rfl fun a hE => ?_
  rw [InternalStringsliteHasPrefix] at hr
  refine W.seq ?_
  refine W.region ?_
  refine WL.vS hS hE (runs_plain rfl) (Gives.p hE rfl) rfl ?_; clear hE a; intro a hE
  refine WL.nil ?_
  refine W.seq ?_
  obtain ⟨q52, hq51, hr⟩ := bindS hr
  refine W.cut (fun a w => ∃ (q55 : Bool), q55 = q52 ∧ Rep a 18 [(4, .bool q55)] ∧ St w s (R)) ?_ ?_
  · refine W.gen fun K56 hK56 => ?_
    refine W.region ?_
    refine WL.vS hS hE (runs_plain rfl) (Gives.p hE rfl) rfl ?_; clear hE a; intro a hE
    refine WL.vS hS hE (runs_plain rfl) (Gives.lenS hE rfl st9) rfl ?_; clear hE a; intro a hE
    refine WL.vS hS hE (runs_plain rfl) (Gives.p hE rfl) rfl ?_; clear hE a; intro a hE
    refine WL.vS hS hE (runs_plain rfl) (Gives.lenS hE rfl st9) rfl ?_; clear hE a; intro a hE
    refine WL.vS hS hE (runs_plain rfl) (Gives.p hE rfl) rfl ?_; clear hE a; intro a hE
    refine WL.vS hS hE (runs_plain rfl) (Gives.p hE rfl) rfl ?_; clear hE a; intro a hE
    rcases Bool.eq_false_or_eq_true (decide (((x0.size : Nat) : Int) ≥ ((x1.size : Nat) : Int))) with hg57 | hg57
    · replace hq51 := iteT hg57 hq51
      refine WL.vS hS hE (runs_if hE rfl rfl rfl hg57) (Gives.p hE rfl) rfl ?_; clear hE a; intro a hE
      refine WL.vS hS hE (runs_if hE rfl rfl rfl hg57) (Gives.p hE rfl) rfl ?_; clear hE a; intro a hE
      refine WL.vS hS hE (runs_if hE rfl rfl rfl hg57) (Gives.lenS hE rfl st9) rfl ?_; clear hE a; intro a hE
      obtain ⟨x58, hx59, hq51⟩ := bindS hq51
      refine WL.vS hS hE (runs_if hE rfl rfl rfl hg57) (Gives.cutSH hE st9 rfl rfl hx59) rfl ?_; clear hE a; intro a hE
      refine WL.vS hS hE (runs_if hE rfl rfl rfl hg57) (Gives.p hE rfl) rfl ?_; clear hE a; intro a hE
      refine WL.vS hS hE (runs_if hE rfl rfl rfl hg57) (Gives.eqSt hE rfl rfl) rfl ?_; clear hE a; intro a hE
      refine WL.vS hS hE (runs_plain rfl) (Gives.pickT hE rfl hg57 rfl) rfl ?_; clear hE a; intro a hE
      refine WL.vS hS hE (runs_plain rfl) (Gives.p hE rfl) rfl ?_; clear hE a; intro a hE
      refine WL.nil ?_
      subst hK56
      exact ⟨(seq x58 x1), Option.some.inj hq51, hE.pick _ ⟨rfl, trivial⟩, hS⟩
    · replace hq51 := iteF hg57 hq51
      refine WL.no hE (runs_not hE rfl rfl rfl (by rw [hg57]; decide)) rfl ?_; clear hE a; intro a hE
      refine WL.no hE (runs_not hE rfl rfl rfl (by rw [hg57]; decide)) rfl ?_; clear hE a; intro a hE
      refine WL.no hE (runs_not hE rfl rfl rfl (by rw [hg57]; decide)) rfl ?_; clear hE a; intro a hE
      refine WL.no hE (runs_not hE rfl rfl rfl (by rw [hg57]; decide)) rfl ?_; clear hE a; intro a hE
      refine WL.no hE (runs_not hE rfl rfl rfl (by rw [hg57]; decide)) rfl ?_; clear hE a; intro a hE
      refine WL.no hE (runs_not hE rfl rfl rfl (by rw [hg57]; decide)) rfl ?_; clear hE a; intro a hE
      refine WL.vS hS hE (runs_plain rfl) (Gives.pickF hE rfl hg57 rfl) rfl ?_; clear hE a; intro a hE
      refine WL.vS hS hE (runs_plain rfl) (Gives.p hE rfl) rfl ?_; clear hE a; intro a hE
      refine WL.nil ?_
      subst hK56
      exact ⟨false, Option.some.inj hq51, hE.pick _ ⟨rfl, trivial⟩, hS⟩
  · clear hE hS a w; rintro a w ⟨q55, rfl, hE, hS⟩
    refine W.ret ?_
    refine finG (fn := Tryd.f95) (rs := [.tmp 4]) (vs := [_]) hE rfl ⟨rfl, trivial⟩ ?_
    obtain rfl := Option.some.inj hr
    exact ⟨rfl, hS⟩
set_option maxHeartbeats 8000000 in
theorem InternalStringsliteTrimPrefix_ok  {w : World} {s : Sg} {R : List HP} {x0 : ByteArray} {x1 : ByteArray} (hS : St w s (R))  {r : ByteArray} (hr : InternalStringsliteTrimPrefix x0 x1 = some r) :
    Calls Tryd.prog 70 [.string x0, .string x1].toArray w (fun e w => e = .returned (.string r) ∧ St w s (R)) := by
  refine enter Tryd.func70 rfl rfl rfl fun a hE => ?_
  rw [InternalStringsliteTrimPrefix] at hr
  refine W.seq ?_
  refine W.region ?_
  refine WL.vS hS hE (runs_plain rfl) (Gives.p hE rfl) rfl ?_; clear hE a; intro a hE
  refine WL.nil ?_
  refine W.seq ?_
  refine W.seq ?_
  refine W.region ?_
  refine WL.vS hS hE (runs_plain rfl) (Gives.p hE rfl) rfl ?_; clear hE a; intro a hE
  refine WL.vS hS hE (runs_plain rfl) (Gives.p hE rfl) rfl ?_; clear hE a; intro a hE
  obtain ⟨q51, hq52, hr⟩ := bindS hr
  have hc_ := InternalStringsliteHasPrefix_ok hS  hq52
  refine WL.fnq hE (hc_) (runs_plain rfl) bd95 rfl rfl rfl ?_
  clear hE hS hc_; rintro e w ⟨rfl, hS⟩; refine ⟨_, rfl, ?_⟩; clear a; intro a hE
  refine WL.nil ?_
  refine W.cond hE rfl (fun hc53 => ?_) (fun hc53 => ?_)
  · replace hr := iteT hc53 hr
    refine W.seq ?_
    refine W.region ?_
    refine WL.vS hS hE (runs_plain rfl) (Gives.p hE rfl) rfl ?_; clear hE a; intro a hE
    refine WL.vS hS hE (runs_plain rfl) (Gives.p hE rfl) rfl ?_; clear hE a; intro a hE
    refine WL.vS hS hE (runs_plain rfl) (Gives.lenS hE rfl st9) rfl ?_; clear hE a; intro a hE
    obtain ⟨x54, hx55, hr⟩ := bindS hr
    refine WL.vS hS hE (runs_plain rfl) (Gives.cutSL hE st9 rfl rfl hx55) rfl ?_; clear hE a; intro a hE
    refine WL.vS hS hE (runs_plain rfl) (Gives.p hE rfl) rfl ?_; clear hE a; intro a hE
    refine WL.nil ?_
    refine W.ret ?_
    refine finG (fn := Tryd.f70) (rs := [.tmp 4]) (vs := [_]) hE rfl ⟨rfl, trivial⟩ ?_
    obtain rfl := Option.some.inj hr
    exact ⟨rfl, hS⟩
  · replace hr := iteF hc53 hr
    refine W.skip ?_
    refine W.seq ?_
    refine W.region ?_
    refine WL.vS hS hE (runs_plain rfl) (Gives.p hE rfl) rfl ?_; clear hE a; intro a hE
    refine WL.vS hS hE (runs_plain rfl) (Gives.p hE rfl) rfl ?_; clear hE a; intro a hE
    refine WL.nil ?_
    refine W.ret ?_
    refine finG (fn := Tryd.f70) (rs := [.tmp 4]) (vs := [_]) hE rfl ⟨rfl, trivial⟩ ?_
    obtain rfl := Option.some.inj hr
    exact ⟨rfl, hS⟩
set_option maxHeartbeats 8000000 in
theorem StringsTrimPrefix_ok  {w : World} {s : Sg} {R : List HP} {x0 : ByteArray} {x1 : ByteArray} (hS : St w s (R))  {r : ByteArray} (hr : StringsTrimPrefix x0 x1 = some r) :
    Calls Tryd.prog 40 [.string x0, .string x1].toArray w (fun e w => e = .returned (.string r) ∧ St w s (R)) := by
  refine enter Tryd.func40 rfl rfl rfl fun a hE => ?_
  rw [StringsTrimPrefix] at hr
  refine W.seq ?_
  refine W.region ?_
  refine WL.vS hS hE (runs_plain rfl) (Gives.p hE rfl) rfl ?_; clear hE a; intro a hE
  refine WL.nil ?_
  refine W.seq ?_
  refine W.region ?_
  refine WL.vS hS hE (runs_plain rfl) (Gives.p hE rfl) rfl ?_; clear hE a; intro a hE
  refine WL.vS hS hE (runs_plain rfl) (Gives.p hE rfl) rfl ?_; clear hE a; intro a hE
  obtain ⟨q51, hq52, hr⟩ := bindS hr
  have hc_ := InternalStringsliteTrimPrefix_ok hS  hq52
  refine WL.fnq hE (hc_) (runs_plain rfl) bd70 rfl rfl rfl ?_
  clear hE hS hc_; rintro e w ⟨rfl, hS⟩; refine ⟨_, rfl, ?_⟩; clear a; intro a hE
  refine WL.vS hS hE (runs_plain rfl) (Gives.p hE rfl) rfl ?_; clear hE a; intro a hE
  refine WL.nil ?_
  refine W.ret ?_
  refine finG (fn := Tryd.f40) (rs := [.tmp 4]) (vs := [_]) hE rfl ⟨rfl, trivial⟩ ?_
  obtain rfl := Option.some.inj hr
  exact ⟨rfl, hS⟩
set_option maxHeartbeats 8000000 in
theorem LineNumber_ok  {w : World} {s : Sg} {R : List HP} {x0 : ByteArray} (hS : St w s (R)) (hTab : TabX s) {r : Int × Bool} (hr : LineNumber x0 = some r) :
    Calls Tryd.prog 69 [.string x0].toArray w (fun e w => e = .returned (.tuple #[.int .i64 r.1, .bool r.2]) ∧ St w s (R)) := by
  refine enter Tryd.func69 rfl rfl rfl fun a hE => ?_
  rw [LineNumber] at hr
  refine W.seq ?_
  refine W.region ?_
  refine WL.vS hS hE (runs_plain rfl) (Gives.p hE rfl) rfl ?_; clear hE a; intro a hE
  refine WL.vS hS hE (runs_plain rfl) (Gives.p hE rfl) rfl ?_; clear hE a; intro a hE
  refine WL.nil ?_
  refine W.seq ?_
  refine W.region ?_
  refine WL.vS hS hE (runs_plain rfl) (Gives.p hE rfl) rfl ?_; clear hE a; intro a hE
  obtain ⟨q51, hq52, hr⟩ := bindS hr
  refine WL.fnq hE (atoi_ok hS (TabG.mono (Sg.Le.refl _) hTab) hq52) (runs_plain rfl) bd83 rfl rfl rfl ?_
  clear hE hS; rintro e w ⟨ev53, rfl, h54, hS⟩; refine ⟨_, rfl, ?_⟩; clear a; intro a hE
  refine WL.vS hS hE (runs_plain rfl) (Gives.p hE rfl) rfl ?_; clear hE a; intro a hE
  refine WL.vS hS hE (runs_plain rfl) (Gives.p hE rfl) rfl ?_; clear hE a; intro a hE
  refine WL.vS hS hE (runs_plain rfl) (Gives.p hE rfl) rfl ?_; clear hE a; intro a hE
  refine WL.vS hS hE (runs_plain rfl) (Gives.p hE rfl) rfl ?_; clear hE a; intro a hE
  refine WL.vS hS hE (runs_plain rfl) (Gives.p hE rfl) rfl ?_; clear hE a; intro a hE
  refine WL.nil ?_
  refine W.seq ?_
  obtain ⟨q56, hq55, hr⟩ := bindS hr
  refine W.cut (fun a w => ∃ (q59 : Int), ∃ (q60 : Bool), (q59, q60) = q56 ∧ Rep a 26 [(2, .int .i64 q59), (3, .bool q60)] ∧ St w s (R)) ?_ ?_
  · refine W.gen fun K61 hK61 => ?_
    refine W.region ?_
    refine WL.vS hS hE (runs_plain rfl) (Gives.p hE rfl) rfl ?_; clear hE a; intro a hE
    refine WL.vS hS hE (runs_plain rfl) (Gives.p hE rfl) rfl ?_; clear hE a; intro a hE
    refine WL.vS hS hE (runs_plain rfl) (Gives.errNil hE if73 h54 rfl) rfl ?_; clear hE a; intro a hE
    refine WL.vS hS hE (runs_plain rfl) (Gives.p hE rfl) rfl ?_; clear hE a; intro a hE
    rcases Bool.eq_false_or_eq_true q51.2 with hg62 | hg62
    · replace hq55 := iteT hg62 hq55
      refine WL.vS hS hE (runs_if hE rfl rfl rfl hg62) (Gives.p hE rfl) rfl ?_; clear hE a; intro a hE
      obtain ⟨q63, hq64, hq55⟩ := bindS hq55
      refine WL.fnq hE (itoa_ok hS (TabG.mono (Sg.Le.refl _) hTab).tab hq64) (runs_if hE rfl rfl rfl hg62) bd43 rfl rfl rfl ?_
      clear hE hS; rintro e w ⟨rfl, hS⟩; refine ⟨_, rfl, ?_⟩; clear a; intro a hE
      refine WL.vS hS hE (runs_if hE rfl rfl rfl hg62) (Gives.p hE rfl) rfl ?_; clear hE a; intro a hE
      refine WL.vS hS hE (runs_if hE rfl rfl rfl hg62) (Gives.eqSt hE rfl rfl) rfl ?_; clear hE a; intro a hE
      refine WL.vS hS hE (runs_plain rfl) (Gives.pickT hE rfl hg62 rfl) rfl ?_; clear hE a; intro a hE
      refine WL.vS hS hE (runs_plain rfl) (Gives.p hE rfl) rfl ?_; clear hE a; intro a hE
      rcases Bool.eq_false_or_eq_true (seq q63 x0) with hg65 | hg65
      · replace hq55 := iteT hg65 hq55
        refine WL.vS hS hE (runs_if hE rfl rfl rfl hg65) (Gives.p hE rfl) rfl ?_; clear hE a; intro a hE
        obtain ⟨q66, hq67, hq55⟩ := bindS hq55
        have hc_ := StringsTrimPrefix_ok hS  hq67
        refine WL.fnq hE (hc_) (runs_if hE rfl rfl rfl hg65) bd40 rfl rfl rfl ?_
        clear hE hS hc_; rintro e w ⟨rfl, hS⟩; refine ⟨_, rfl, ?_⟩; clear a; intro a hE
        refine WL.vS hS hE (runs_if hE rfl rfl rfl hg65) (Gives.lenS hE rfl st9) rfl ?_; clear hE a; intro a hE
        refine WL.vS hS hE (runs_if hE rfl rfl rfl hg65) (Gives.p hE rfl) rfl ?_; clear hE a; intro a hE
        refine WL.vS hS hE (runs_plain rfl) (Gives.pickT hE rfl hg65 rfl) rfl ?_; clear hE a; intro a hE
        refine WL.vS hS hE (runs_plain rfl) (Gives.p hE rfl) rfl ?_; clear hE a; intro a hE
        refine WL.vS hS hE (runs_plain rfl) (Gives.p hE rfl) rfl ?_; clear hE a; intro a hE
        refine WL.nil ?_
        subst hK61
        exact ⟨q51.1, decide (((q66.size : Nat) : Int) ≤ 9), Option.some.inj hq55, hE.pick _ ⟨rfl, rfl, trivial⟩, hS⟩
      · replace hq55 := iteF hg65 hq55
        refine WL.no hE (runs_not hE rfl rfl rfl (by rw [hg65]; decide)) rfl ?_; clear hE a; intro a hE
        refine WL.no hE (runs_not hE rfl rfl rfl (by rw [hg65]; decide)) rfl ?_; clear hE a; intro a hE
        refine WL.no hE (runs_not hE rfl rfl rfl (by rw [hg65]; decide)) rfl ?_; clear hE a; intro a hE
        refine WL.no hE (runs_not hE rfl rfl rfl (by rw [hg65]; decide)) rfl ?_; clear hE a; intro a hE
        refine WL.vS hS hE (runs_plain rfl) (Gives.pickF hE rfl hg65 rfl) rfl ?_; clear hE a; intro a hE
        refine WL.vS hS hE (runs_plain rfl) (Gives.p hE rfl) rfl ?_; clear hE a; intro a hE
        refine WL.vS hS hE (runs_plain rfl) (Gives.p hE rfl) rfl ?_; clear hE a; intro a hE
        refine WL.nil ?_
        subst hK61
        exact ⟨q51.1, false, Option.some.inj hq55, hE.pick _ ⟨rfl, rfl, trivial⟩, hS⟩
    · replace hq55 := iteF hg62 hq55
      refine WL.no hE (runs_not hE rfl rfl rfl (by rw [hg62]; decide)) rfl ?_; clear hE a; intro a hE
      refine WL.no hE (runs_not hE rfl rfl rfl (by rw [hg62]; decide)) rfl ?_; clear hE a; intro a hE
      refine WL.no hE (runs_not hE rfl rfl rfl (by rw [hg62]; decide)) rfl ?_; clear hE a; intro a hE
      refine WL.no hE (runs_not hE rfl rfl rfl (by rw [hg62]; decide)) rfl ?_; clear hE a; intro a hE
      refine WL.vS hS hE (runs_plain rfl) (Gives.pickF hE rfl hg62 rfl) rfl ?_; clear hE a; intro a hE
      refine WL.vS hS hE (runs_plain rfl) (Gives.p hE rfl) rfl ?_; clear hE a; intro a hE
      refine WL.no hE (runs_not hE rfl rfl rfl (by decide)) rfl ?_; clear hE a; intro a hE
      refine WL.no hE (runs_not hE rfl rfl rfl (by decide)) rfl ?_; clear hE a; intro a hE
      refine WL.no hE (runs_not hE rfl rfl rfl (by decide)) rfl ?_; clear hE a; intro a hE
      refine WL.no hE (runs_not hE rfl rfl rfl (by decide)) rfl ?_; clear hE a; intro a hE
      refine WL.vS hS hE (runs_plain rfl) (Gives.pickF hE rfl rfl rfl) rfl ?_; clear hE a; intro a hE
      refine WL.vS hS hE (runs_plain rfl) (Gives.p hE rfl) rfl ?_; clear hE a; intro a hE
      refine WL.vS hS hE (runs_plain rfl) (Gives.p hE rfl) rfl ?_; clear hE a; intro a hE
      refine WL.nil ?_
      subst hK61
      exact ⟨q51.1, false, Option.some.inj hq55, hE.pick _ ⟨rfl, rfl, trivial⟩, hS⟩
  · clear hE hS a w; rintro a w ⟨q59, q60, rfl, hE, hS⟩
    dsimp only at hr
    refine W.ret ?_
    refine finG (fn := Tryd.f69) (rs := [.tmp 2, .tmp 3]) (vs := [_, _]) hE rfl ⟨rfl, rfl, trivial⟩ ?_
    obtain rfl := Option.some.inj hr
    exact ⟨rfl, hS⟩
set_option maxHeartbeats 8000000 in
theorem LineNumbers_ok  {w : World} {s : Sg} {R : List HP} {x0 : List ByteArray} {a0 : Option Addr} {c0 : Nat} (hS : St w s (R)) (hTab : TabX s) (h0 : Sl 1 RS s a0 c0 x0) {r : (List Int) × Bool} (hr : LineNumbers x0 = some r) :
    Calls Tryd.prog 39 [.slice a0 x0.length c0].toArray w (fun e w => ∃ (a0 : Option Addr) (c0 n0 : Nat) (cs0 : List Value), e = .returned (.tuple #[.slice a0 n0 c0, .bool r.2]) ∧ Ev 1 (RI .i64) s cs0 r.1 ∧ r.1.length = n0 ∧ St w s (vecC 3 1 a0 c0 n0 cs0 :: R)) := by
  refine enter Tryd.func39 rfl rfl rfl fun a hE => ?_
  rw [LineNumbers] at hr
  refine W.seq ?_
  refine W.region ?_
  refine WL.vS hS hE (runs_plain rfl) (Gives.p hE rfl) rfl ?_; clear hE a; intro a hE
  refine WL.vS hS hE (runs_plain rfl) (Gives.p hE rfl) rfl ?_; clear hE a; intro a hE
  refine WL.nil ?_
  refine W.seq ?_
  refine W.region ?_
  replace hS := hS.vecNil 3 1
  refine WL.vS hS hE (runs_plain rfl) (Gives.p hE rfl) rfl ?_; clear hE a; intro a hE
  refine WL.nil ?_
  refine W.seq ?_
  refine W.seq ?_
  refine W.region ?_
  refine WL.vS hS hE (runs_plain rfl) (Gives.p hE rfl) rfl ?_; clear hE a; intro a hE
  refine WL.vS hS hE (runs_plain rfl) (Gives.len hE rfl sl83) rfl ?_; clear hE a; intro a hE
  refine WL.vS hS hE (runs_plain rfl) (Gives.p hE rfl) rfl ?_; clear hE a; intro a hE
  refine WL.nil ?_
  obtain ⟨q53, hq52, hr⟩ := bindS hr
  refine W.cut (fun a w => ∃ (q63 : List Int), ∃ (a64 : Option Addr), ∃ (c65 : Nat), ∃ (n67 : Nat), ∃ (cs68 : List Value), (.next q63) = q53 ∧ Ev 1 (RI .i64) s cs68 q63 ∧ q63.length = n67 ∧ Rep a 28 [(4, .slice a64 n67 c65)] ∧ St w s (vecC 3 1 a64 c65 n67 cs68 :: R)) ?_ ?_
  · refine W.block ?_
    refine W.loop (fun m a w => ∃ (rest56 : List ByteArray) (k54 : Nat), ∃ (q63 : List Int), ∃ (a64 : Option Addr), ∃ (c65 : Nat), ∃ (n67 : Nat), ∃ (cs68 : List Value), rest56.length = m ∧ x0.drop k54 = rest56 ∧ LineNumbers.loop1 rest56 q63 = some q53 ∧ Ev 1 (RI .i64) s cs68 q63 ∧ q63.length = n67 ∧ Rep a 28 [(4, .slice a64 n67 c65), (9, .slice a0 x0.length c0), (10, .int .i64 ((x0).length : Int)), (11, .int .i64 ((k54 : Nat) : Int))] ∧ St w s (vecC 3 1 a64 c65 n67 cs68 :: R)) (m := x0.length) ⟨x0, 0, [], none, 0, 0, [], rfl, rfl, hq52, (Ev.nil), (rfl), hE.pick _ ⟨rfl, rfl, rfl, rfl, trivial⟩, hS⟩ ?_
    clear hE hS a w hq52; rintro m60 a w ⟨rest56, k54, q63, a64, c65, n67, cs68, rfl, hd57, hq52, h66, rfl, hE, hS⟩
    refine W.gen fun K70 hK70 => ?_
    rcases rest56 with _ | ⟨x55, rest56⟩
    · have hlt58 := drop_nil hd57
      refine W.seq ?_
      refine W.region ?_
      refine WL.vS hS hE (runs_plain rfl) (Gives.p hE rfl) rfl ?_; clear hE a; intro a hE
      refine WL.nil ?_
      refine W.seq ?_
      refine W.condF hE rfl (decide_eq_false (by omega)) ?_
      subst hK70
      refine W.exit rfl ?_
      exact ⟨q63, a64, c65, q63.length, cs68, Option.some.inj hq52, h66, rfl, hE.pick _ ⟨rfl, trivial⟩, hS⟩
    · obtain ⟨hlt58, hx59, hd57⟩ := drop_cons hd57
      rw [LineNumbers.loop1] at hq52
      refine W.seq ?_
      refine W.region ?_
      refine WL.vS hS hE (runs_plain rfl) (Gives.p hE rfl) rfl ?_; clear hE a; intro a hE
      refine WL.nil ?_
      refine W.seq ?_
      refine W.condT hE rfl (decide_eq_true (by omega)) ?_
      refine W.skip ?_
      refine W.seq ?_
      refine W.block ?_
      refine W.seq ?_
      refine W.region ?_
      obtain ⟨cs71, hl72, hR73, hat74⟩ := h0.at hx59
      subst hR73
      refine WL.vS hS hE (runs_plain rfl) (Gives.idx hE k54 rfl rfl sl83 rfl hlt58 (h0.aok hlt58)) rfl ?_; clear hE a; intro a hE
      refine WL.vS hS hE (runs_plain rfl) (Gives.load1 hE rfl (fun w h => hat74 w _ h) ty9) rfl ?_; clear hE a; intro a hE
      refine WL.vS hS hE (runs_plain rfl) (Gives.p hE rfl) rfl ?_; clear hE a; intro a hE
      refine WL.nil ?_
      refine W.seq ?_
      refine W.region ?_
      refine WL.vS hS hE (runs_plain rfl) (Gives.p hE rfl) rfl ?_; clear hE a; intro a hE
      obtain ⟨q75, hq76, hq52⟩ := bindS hq52
      have hc_ := LineNumber_ok hS (TabG.mono (Sg.Le.refl _) hTab) hq76
      refine WL.fnq hE (hc_) (runs_plain rfl) bd69 rfl rfl rfl ?_
      clear hE hS hc_; rintro e w ⟨rfl, hS⟩; refine ⟨_, rfl, ?_⟩; clear a; intro a hE
      refine WL.vS hS hE (runs_plain rfl) (Gives.p hE rfl) rfl ?_; clear hE a; intro a hE
      refine WL.vS hS hE (runs_plain rfl) (Gives.p hE rfl) rfl ?_; clear hE a; intro a hE
      refine WL.vS hS hE (runs_plain rfl) (Gives.p hE rfl) rfl ?_; clear hE a; intro a hE
      refine WL.vS hS hE (runs_plain rfl) (Gives.p hE rfl) rfl ?_; clear hE a; intro a hE
      refine WL.vS hS hE (runs_plain rfl) (Gives.p hE rfl) rfl ?_; clear hE a; intro a hE
      refine WL.nil ?_
      refine W.seq ?_
      refine W.seq ?_
      refine W.region ?_
      refine WL.vS hS hE (runs_plain rfl) (Gives.p hE rfl) rfl ?_; clear hE a; intro a hE
      refine WL.vS hS hE (runs_plain rfl) (Gives.p hE rfl) rfl ?_; clear hE a; intro a hE
      refine WL.nil ?_
      refine W.cond hE rfl (fun hc77 => ?_) (fun hc77 => ?_)
      · replace hq52 := iteT hc77 hq52
        refine W.seq ?_
        refine W.region ?_
        refine WL.vS hS hE (runs_plain rfl) (Gives.p hE rfl) rfl ?_; clear hE a; intro a hE
        refine WL.vS hS hE (runs_plain rfl) (Gives.p hE rfl) rfl ?_; clear hE a; intro a hE
        refine WL.nil ?_
        refine W.ret ?_
        subst hK70
        rw [← Option.some.inj hq52] at hr
        dsimp only at hr
        replace hS := hS.vecNil 3 1
        refine finG (fn := Tryd.f39) (rs := [.tmp 2, .tmp 3]) (vs := [_, _]) hE rfl ⟨rfl, rfl, trivial⟩ ?_
        obtain rfl := Option.some.inj hr
        replace hS := hS.dropAt 1
        exact ⟨none, 0, 0, [], rfl, (Ev.nil), (rfl), hS⟩
      · replace hq52 := iteF hc77 hq52
        refine W.skip ?_
        refine W.region ?_
        refine WL.vS hS hE (runs_plain rfl) (Gives.p hE rfl) rfl ?_; clear hE a; intro a hE
        refine WL.vS hS hE (runs_plain rfl) (Gives.p hE rfl) rfl ?_; clear hE a; intro a hE
        refine WL.lit hE hS (e := 3) (es := 1) (vs := [(0, .int .i64 q75.1)]) (cs := [.int .i64 q75.1]) (runs_plain rfl) rfl (by kernel_rfl) rfl ?_; clear hE hS a w; intro b79 a w hE hS
        obtain ⟨x80, hx81, hq52⟩ := bindS hq52
        refine WL.appD hE hS 0 (m := 1) (runs_plain rfl) rfl rfl rfl ap23 rfl h66 rfl (xs := [q75.1]) (Ev.cons (c1 := [.int .i64 q75.1]) rfl rfl (Ev.nil)) rfl rfl hx81 rfl ?_; clear hE hS a w; intro a82 c83 cs84 a w h85 hE hS
        refine WL.vS hS hE (runs_plain rfl) (Gives.p hE rfl) rfl ?_; clear hE a; intro a hE
        refine WL.nil ?_
        refine W.region ?_
        refine WL.vS hS hE (runs_plain rfl) (Gives.inc hE rfl (by have := h0.small; omega)) rfl ?_; clear hE a; intro a hE
        refine WL.vS hS hE (runs_plain rfl) (Gives.p hE rfl) rfl ?_; clear hE a; intro a hE
        refine WL.nil ?_
        subst hK70
        exact ⟨rest56.length, Nat.lt_succ_self _, rest56, k54 + 1, x80, a82, c83, x80.length, cs84, rfl, hd57, hq52, h85, (rfl), hE.pick _ ⟨rfl, rfl, rfl, rfl, trivial⟩, hS⟩
  · clear hE hS a w; rintro a w ⟨q63, a64, c65, n67, cs68, rfl, h66, rfl, hE, hS⟩
    dsimp only at hr
    refine W.seq ?_
    refine W.region ?_
    refine WL.vS hS hE (runs_plain rfl) (Gives.p hE rfl) rfl ?_; clear hE a; intro a hE
    refine WL.vS hS hE (runs_plain rfl) (Gives.p hE rfl) rfl ?_; clear hE a; intro a hE
    refine WL.vS hS hE (runs_plain rfl) (Gives.p hE rfl) rfl ?_; clear hE a; intro a hE
    refine WL.nil ?_
    refine W.ret ?_
    refine finG (fn := Tryd.f39) (rs := [.tmp 2, .tmp 3]) (vs := [_, _]) hE rfl ⟨rfl, rfl, trivial⟩ ?_
    obtain rfl := Option.some.inj hr
    exact ⟨a64, c65, q63.length, cs68, rfl, h66, rfl, hS⟩
end Go.Proofs.YtledekclojpbbaaDoor
