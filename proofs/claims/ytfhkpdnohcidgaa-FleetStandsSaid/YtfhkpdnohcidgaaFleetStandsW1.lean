/- The walks of the functions that FleetStands reaches: each call comes to what its mirror says. The conditions are those of each contract. -/
import Derived.Test.YtfhkpdnohcidgaaProg
import Derived.Test.YtfhkpdnohcidgaaFleetStandsM
import Derived.Test.YtfhkpdnohcidgaaFpAllS
import Derived.Test.YtfhkpdnohcidgaaFleetStandsS
import Derived.Test.YtfhkpdnohcidgaaFpMapS
import Derived.Test.YtfhkpdnohcidgaaFpCalm
import Derived.Test.YtfhkpdnohcidgaaFpOrd
import Derived.Test.YtfhkpdnohcidgaaFpRow
namespace Go.Proofs.Ytfhkpdnohcidgaa
open Go Go.Fp
def keyFleetAbsence : KeyS FleetAbsence where
  ls := fun a => [.i .i64 a.Driver, .i .i64 a.Day]
  ks := [.i .i64, .i .i64]
  kinds := by intro a; rfl
  same := by intro a b; cases a; cases b; rw [Bool.eq_iff_iff]; simp [eqs, Leaf.same]
  law := by intro a b h; simpa using h
  refl := by simp
theorem ap101 : apOk Try.prog 101 4 1 = true := by kernel_rfl
theorem ap25 : apOk Try.prog 25 44 1 = true := by kernel_rfl
theorem ap44 : apOk Try.prog 44 3 1 = true := by kernel_rfl
theorem ar131 : arOk Try.prog 131 6 = true := by kernel_rfl
theorem ar166 : arOk Try.prog 166 7 = true := by kernel_rfl
theorem bd12 : bodied Try.prog 12 = true := by kernel_rfl
theorem bd123 : bodied Try.prog 123 = true := by kernel_rfl
theorem bd124 : bodied Try.prog 124 = true := by kernel_rfl
theorem bd126 : bodied Try.prog 126 = true := by kernel_rfl
theorem bd127 : bodied Try.prog 127 = true := by kernel_rfl
theorem bd128 : bodied Try.prog 128 = true := by kernel_rfl
theorem bd13 : bodied Try.prog 13 = true := by kernel_rfl
theorem bd147 : bodied Try.prog 147 = true := by kernel_rfl
theorem bd157 : bodied Try.prog 157 = true := by kernel_rfl
theorem bd158 : bodied Try.prog 158 = true := by kernel_rfl
theorem bd24 : bodied Try.prog 24 = true := by kernel_rfl
theorem bd25 : bodied Try.prog 25 = true := by kernel_rfl
theorem bd30 : bodied Try.prog 30 = true := by kernel_rfl
theorem bd33 : bodied Try.prog 33 = true := by kernel_rfl
theorem bd34 : bodied Try.prog 34 = true := by kernel_rfl
theorem bd35 : bodied Try.prog 35 = true := by kernel_rfl
theorem bd36 : bodied Try.prog 36 = true := by kernel_rfl
theorem bd37 : bodied Try.prog 37 = true := by kernel_rfl
theorem bd40 : bodied Try.prog 40 = true := by kernel_rfl
theorem bd41 : bodied Try.prog 41 = true := by kernel_rfl
theorem bd42 : bodied Try.prog 42 = true := by kernel_rfl
theorem bd43 : bodied Try.prog 43 = true := by kernel_rfl
theorem bd44 : bodied Try.prog 44 = true := by kernel_rfl
theorem bd45 : bodied Try.prog 45 = true := by kernel_rfl
theorem bd46 : bodied Try.prog 46 = true := by kernel_rfl
theorem bd48 : bodied Try.prog 48 = true := by kernel_rfl
theorem bd49 : bodied Try.prog 49 = true := by kernel_rfl
theorem bd52 : bodied Try.prog 52 = true := by kernel_rfl
theorem bd53 : bodied Try.prog 53 = true := by kernel_rfl
theorem bd54 : bodied Try.prog 54 = true := by kernel_rfl
theorem bd71 : bodied Try.prog 71 = true := by kernel_rfl
theorem bd72 : bodied Try.prog 72 = true := by kernel_rfl
theorem bd79 : bodied Try.prog 79 = true := by kernel_rfl
theorem bd87 : bodied Try.prog 87 = true := by kernel_rfl
theorem bd88 : bodied Try.prog 88 = true := by kernel_rfl
theorem bd89 : bodied Try.prog 89 = true := by kernel_rfl
theorem bd90 : bodied Try.prog 90 = true := by kernel_rfl
theorem bd91 : bodied Try.prog 91 = true := by kernel_rfl
theorem bd92 : bodied Try.prog 92 = true := by kernel_rfl
theorem bd93 : bodied Try.prog 93 = true := by kernel_rfl
theorem bd94 : bodied Try.prog 94 = true := by kernel_rfl
theorem bd95 : bodied Try.prog 95 = true := by kernel_rfl
theorem bd96 : bodied Try.prog 96 = true := by kernel_rfl
theorem bd97 : bodied Try.prog 97 = true := by kernel_rfl
theorem bd98 : bodied Try.prog 98 = true := by kernel_rfl
theorem fl123_0 : fldOk Try.prog 123 0 0 = true := by kernel_rfl
theorem fl123_1 : fldOk Try.prog 123 1 1 = true := by kernel_rfl
theorem fl126_0 : fldOk Try.prog 126 0 0 = true := by kernel_rfl
theorem fl126_1 : fldOk Try.prog 126 1 1 = true := by kernel_rfl
theorem fl126_2 : fldOk Try.prog 126 2 2 = true := by kernel_rfl
theorem fl24_0 : fldOk Try.prog 24 0 0 = true := by kernel_rfl
theorem fl24_1 : fldOk Try.prog 24 1 1 = true := by kernel_rfl
theorem fl24_2 : fldOk Try.prog 24 2 2 = true := by kernel_rfl
theorem fl24_3 : fldOk Try.prog 24 3 3 = true := by kernel_rfl
theorem fl24_4 : fldOk Try.prog 24 4 4 = true := by kernel_rfl
theorem fl24_5 : fldOk Try.prog 24 5 5 = true := by kernel_rfl
theorem fl24_6 : fldOk Try.prog 24 6 6 = true := by kernel_rfl
theorem fl78_0 : fldOk Try.prog 78 0 0 = true := by kernel_rfl
theorem fl78_1 : fldOk Try.prog 78 1 1 = true := by kernel_rfl
theorem fl78_2 : fldOk Try.prog 78 2 2 = true := by kernel_rfl
theorem fl78_3 : fldOk Try.prog 78 3 3 = true := by kernel_rfl
theorem fl78_4 : fldOk Try.prog 78 4 4 = true := by kernel_rfl
theorem fl78_5 : fldOk Try.prog 78 5 5 = true := by kernel_rfl
theorem isl25 : isSl Try.prog 25 = true := by kernel_rfl
theorem isl44 : isSl Try.prog 44 = true := by kernel_rfl
theorem mixed : Try.prog.follows .mixedOrders = true := by kernel_rfl
theorem mp121 : mpOkS Try.prog keyFleetAbsence.ks 121 123 4 = true := by kernel_rfl
theorem mp124 : mpOk Try.prog keyI.ok 124 3 3 = true := by kernel_rfl
theorem se123 : stEqB Try.prog 123 [.i .i64, .i .i64] = true := by kernel_rfl
theorem sl101 : slOk Try.prog 101 4 1 = true := by kernel_rfl
theorem sl22 : slOk Try.prog 22 126 3 = true := by kernel_rfl
theorem sl25 : slOk Try.prog 25 44 1 = true := by kernel_rfl
theorem sl32 : slOk Try.prog 32 78 6 = true := by kernel_rfl
theorem sl44 : slOk Try.prog 44 3 1 = true := by kernel_rfl
theorem sl59 : slOk Try.prog 59 123 2 = true := by kernel_rfl
theorem ty121 : tyOk Try.prog 121 false 1 = true := by kernel_rfl
theorem ty123 : tyOk Try.prog 123 true 2 = true := by kernel_rfl
theorem ty124 : tyOk Try.prog 124 false 1 = true := by kernel_rfl
theorem ty126 : tyOk Try.prog 126 true 3 = true := by kernel_rfl
theorem ty130 : tyOk Try.prog 130 false 1 = true := by kernel_rfl
theorem ty166 : tyOk Try.prog 166 true 7 = true := by kernel_rfl
theorem ty22 : tyOk Try.prog 22 false 1 = true := by kernel_rfl
theorem ty24 : tyOk Try.prog 24 true 7 = true := by kernel_rfl
theorem ty25 : tyOk Try.prog 25 false 1 = true := by kernel_rfl
theorem ty3 : tyOk Try.prog 3 false 1 = true := by kernel_rfl
theorem ty4 : tyOk Try.prog 4 false 1 = true := by kernel_rfl
theorem ty44 : tyOk Try.prog 44 false 1 = true := by kernel_rfl
theorem ty59 : tyOk Try.prog 59 false 1 = true := by kernel_rfl
theorem ty66 : tyOk Try.prog 66 false 1 = true := by kernel_rfl
theorem ty78 : tyOk Try.prog 78 true 6 = true := by kernel_rfl
theorem zm3 : (Try.prog.info? 3).bind (fun i => i.zero) = some ((Value.int .i64) 0) := by kernel_rfl
theorem zm4 : (Try.prog.info? 4).bind (fun i => i.zero) = some (Value.bool false) := by kernel_rfl
theorem zr121 : (Try.prog.info? 121).bind (fun i => i.zero.map fun z => z.cells.toList) = some [.map none] := by kernel_rfl
theorem zr123 : (Try.prog.info? 123).bind (fun i => i.zero.map fun z => z.cells.toList) = some [.int .i64 0, .int .i64 0] := by kernel_rfl
theorem zr124 : (Try.prog.info? 124).bind (fun i => i.zero.map fun z => z.cells.toList) = some [.map none] := by kernel_rfl
theorem zr126 : (Try.prog.info? 126).bind (fun i => i.zero.map fun z => z.cells.toList) = some [.int .i64 0, .int .i64 0, .int .i64 0] := by kernel_rfl
theorem zr130 : (Try.prog.info? 130).bind (fun i => i.zero.map fun z => z.cells.toList) = some [.nilFunc] := by kernel_rfl
theorem zr166 : (Try.prog.info? 166).bind (fun i => i.zero.map fun z => z.cells.toList) = some [.int .i64 0, .int .i64 0, .int .i64 0, .int .i64 0, .int .i64 0, .int .i64 0, .int .i64 0] := by kernel_rfl
theorem zr25 : (Try.prog.info? 25).bind (fun i => i.zero.map fun z => z.cells.toList) = some [.slice none 0 0] := by kernel_rfl
theorem zr3 : (Try.prog.info? 3).bind (fun i => i.zero.map fun z => z.cells.toList) = some [.int .i64 0] := by kernel_rfl
theorem zr4 : (Try.prog.info? 4).bind (fun i => i.zero.map fun z => z.cells.toList) = some [.bool false] := by kernel_rfl
theorem zr44 : (Try.prog.info? 44).bind (fun i => i.zero.map fun z => z.cells.toList) = some [.slice none 0 0] := by kernel_rfl
theorem zr66 : (Try.prog.info? 66).bind (fun i => i.zero.map fun z => z.cells.toList) = some [.nilFunc] := by kernel_rfl
theorem zr78 : (Try.prog.info? 78).bind (fun i => i.zero.map fun z => z.cells.toList) = some [.int .i64 0, .int .i64 0, .int .i64 0, .int .i64 0, .int .i64 0, .int .i64 0] := by kernel_rfl
theorem itRow_ok {w : World} {u s : Sg} {R : List HP} {a a1 a2 : Option Addr} {c c1 c2 k : Nat} {l : List (List Int)} {x o : List Int} (hS : St w s R) (hu : u.Le s) (hb : Sl 1 (RF u) s a c (partS k l)) (ho : Sl 1 (RI .i64) s a2 c2 o)
    (hx : l[k]? = some x) (hat : s.At (ab a) (ao a + k * 1) [.slice a1 x.length c1]) (hrow : SlF u s a1 c1 x) (hp : Parted l) (hd : ∀ x ∈ l, ∀ i ∈ o, i ∉ x) (hn : ∀ x ∈ l, x.length < 4294967296) :
    Calls Try.prog 88 [.slice a1 x.length c1].toArray w (fun e w => ∃ (t : Sg), e = .returned (.tuple #[]) ∧ u.Le t ∧ Sl 1 (RF u) t a c (partS (k + 1) l) ∧ Sl 1 (RI .i64) t a2 c2 o ∧ St w t R) := by
  have hm := List.mem_of_getElem? hx
  by_cases hz : x = []
  · subst hz
    refine (Try.slices_Sort_int_none a1 c1 w).mono ?_
    rintro e w' ⟨rfl, rfl⟩
    refine ⟨s, rfl, hu, ?_, ho, hS⟩
    rw [← partS_set hx]
    have e : (partS k l).set k (isort []) = partS k l := by
      apply List.ext_getElem?
      intro j
      rw [List.getElem?_set]
      split
      · rename_i h; subst h
        rw [partS_at hx, if_pos (by rw [partS_length]; exact (List.getElem?_eq_some_iff.1 hx).1)]
        simp [isort]
      · rfl
    rw [e]; exact hb
  · obtain ⟨b, o', rfl⟩ : aok a1 := hrow.sl.aok (k := 0) (List.length_pos_iff.2 hz)
    obtain ⟨h1, h2, h3⟩ := hS.rowBack hu hrow
    have hc := Try.slices_Sort_int b o' c1 x w h1 h2 (by have := hn x hm; omega)
    refine hc.mono ?_
    rintro e w' ⟨rfl, q, os, rfl⟩
    obtain ⟨t, h4, h5⟩ := h3 os q
    refine ⟨t, rfl, h5.le, ?_, h5.other ho (hd x hm), h4⟩
    rw [← partS_set hx]
    exact h5.rows hb (partS_at hx) hrow (by simpa using hat) (hp.part k)
theorem itSort_ok {w : World} {s : Sg} {R : List HP} {a : Option Addr} {c n : Nat} {cs : List Value} {l r : List Int} (hS : St w s (vecC 3 1 a c n cs :: R)) (h : Ev 1 (RI .i64) s cs l) (hn : l.length = n) (hr : srt l = some r) :
    Calls Try.prog 88 [.slice a n c].toArray w (fun e w => ∃ (cs0 : List Value), e = .returned (.tuple #[]) ∧ Ev 1 (RI .i64) s cs0 r ∧ r.length = n ∧ St w s (vecC 3 1 a c n cs0 :: R)) := by
  obtain ⟨h1, rfl⟩ := srt_some hr
  rcases Nat.eq_zero_or_pos n with hz | hz
  · subst hz
    have : l = [] := List.eq_nil_of_length_eq_zero hn
    subst this
    refine (Try.slices_Sort_int_none a c w).mono ?_
    rintro e w' ⟨rfl, rfl⟩
    exact ⟨cs, rfl, by simpa [isort] using h, by simp [isort], hS⟩
  · obtain ⟨b, o, rfl⟩ := hS.vecAok 0 rfl hz
    have hb : b < w.heap.size := by
      rcases hS.vec 0 rfl with ⟨_, ⟨h0, _⟩ | ⟨b', o', cur, e1, e2, _⟩⟩
      · cases h0
      · cases e1
        rcases Nat.lt_or_ge b w.heap.size with hl | hg
        · exact hl
        · rw [Array.getElem?_eq_none hg] at e2; cases e2
    have hc := Try.slices_Sort_int b o c l w (hS.holds h) hb (by omega)
    rw [hn] at hc
    refine hc.mono ?_
    rintro e w' ⟨rfl, q, os, rfl⟩
    exact ⟨_, rfl, Ev.ofMap (isort l), by rw [isort_length, hn], hS.putRow (r := isort l) (by rw [isort_length, hn])⟩
set_option maxHeartbeats 8000000 in
theorem Fleetwithin_ok  {w : World} {s : Sg} {R : List HP} {x0 : Int} {x1 : Int} {x2 : Int} (hS : St w s (R))  {r : Bool} (hr : Fleetwithin x0 x1 x2 = r) :
    Calls Try.prog 37 [.int .i64 x0, .int .i64 x1, .int .i64 x2].toArray w (fun e w => e = .returned (.bool r) ∧ St w s (R)) := by
  refine enter Try.func37 rfl rfl rfl fun a hE => ?_
  rw [Fleetwithin] at hr
  refine W.seq ?_
  refine W.region ?_
  refine WL.vS hS hE (runs_plain rfl) (Gives.p hE rfl) rfl ?_; clear hE a; intro a hE
  refine WL.nil ?_
  refine W.seq ?_
  obtain ⟨q52, hq51, hr⟩ := bndS hr
  refine W.cut (fun a w => ∃ (q55 : Bool), q55 = q52 ∧ Rep a 15 [(6, .bool q55)] ∧ St w s (R)) ?_ ?_
  · refine W.gen fun K56 hK56 => ?_
    refine W.region ?_
    refine WL.vS hS hE (runs_plain rfl) (Gives.p hE rfl) rfl ?_; clear hE a; intro a hE
    refine WL.vS hS hE (runs_plain rfl) (Gives.p hE rfl) rfl ?_; clear hE a; intro a hE
    refine WL.vS hS hE (runs_plain rfl) (Gives.p hE rfl) rfl ?_; clear hE a; intro a hE
    refine WL.vS hS hE (runs_plain rfl) (Gives.p hE rfl) rfl ?_; clear hE a; intro a hE
    rcases Bool.eq_false_or_eq_true (decide (x0 ≥ x1)) with hg57 | hg57
    · replace hq51 := iteT hg57 hq51
      refine WL.vS hS hE (runs_if hE rfl rfl rfl hg57) (Gives.p hE rfl) rfl ?_; clear hE a; intro a hE
      refine WL.vS hS hE (runs_if hE rfl rfl rfl hg57) (Gives.p hE rfl) rfl ?_; clear hE a; intro a hE
      refine WL.vS hS hE (runs_if hE rfl rfl rfl hg57) (Gives.p hE rfl) rfl ?_; clear hE a; intro a hE
      refine WL.vS hS hE (runs_plain rfl) (Gives.pickT hE rfl hg57 rfl) rfl ?_; clear hE a; intro a hE
      refine WL.vS hS hE (runs_plain rfl) (Gives.p hE rfl) rfl ?_; clear hE a; intro a hE
      refine WL.nil ?_
      subst hK56
      exact ⟨decide (x0 ≤ x2), hq51, hE.pick _ ⟨rfl, trivial⟩, hS⟩
    · replace hq51 := iteF hg57 hq51
      refine WL.no hE (runs_not hE rfl rfl rfl (by rw [hg57]; decide)) rfl ?_; clear hE a; intro a hE
      refine WL.no hE (runs_not hE rfl rfl rfl (by rw [hg57]; decide)) rfl ?_; clear hE a; intro a hE
      refine WL.no hE (runs_not hE rfl rfl rfl (by rw [hg57]; decide)) rfl ?_; clear hE a; intro a hE
      refine WL.vS hS hE (runs_plain rfl) (Gives.pickF hE rfl hg57 rfl) rfl ?_; clear hE a; intro a hE
      refine WL.vS hS hE (runs_plain rfl) (Gives.p hE rfl) rfl ?_; clear hE a; intro a hE
      refine WL.nil ?_
      subst hK56
      exact ⟨false, hq51, hE.pick _ ⟨rfl, trivial⟩, hS⟩
  · clear hE hS a w; rintro a w ⟨q55, rfl, hE, hS⟩
    refine W.ret ?_
    refine finG (fn := Try.f37) (rs := [.tmp 6]) (vs := [_]) hE rfl ⟨rfl, trivial⟩ ?_
    subst hr
    exact ⟨rfl, hS⟩
set_option maxHeartbeats 8000000 in
theorem FleetCheckShifts_ok  {w : World} {s : Sg} {R : List HP} {x0 : List FleetShift} {a0 : Option Addr} {c0 : Nat} (hS : St w s (R)) (h0 : Sl 3 RFleetShift s a0 c0 x0) {r : Int} (hr : FleetCheckShifts x0 = r) :
    Calls Try.prog 35 [.slice a0 x0.length c0].toArray w (fun e w => e = .returned (.int .i64 r) ∧ St w s (R)) := by
  refine enter Try.func35 rfl rfl rfl fun a hE => ?_
  rw [FleetCheckShifts] at hr
  refine W.seq ?_
  refine W.region ?_
  refine WL.vS hS hE (runs_plain rfl) (Gives.p hE rfl) rfl ?_; clear hE a; intro a hE
  refine WL.nil ?_
  refine W.seq ?_
  refine W.seq ?_
  refine W.region ?_
  refine WL.vS hS hE (runs_plain rfl) (Gives.p hE rfl) rfl ?_; clear hE a; intro a hE
  refine WL.vS hS hE (runs_plain rfl) (Gives.len hE rfl sl22) rfl ?_; clear hE a; intro a hE
  refine WL.vS hS hE (runs_plain rfl) (Gives.p hE rfl) rfl ?_; clear hE a; intro a hE
  refine WL.nil ?_
  refine W.cond hE rfl (fun hc51 => ?_) (fun hc51 => ?_)
  · replace hr := iteT hc51 hr
    refine W.seq ?_
    refine W.region ?_
    refine WL.vS hS hE (runs_plain rfl) (Gives.p hE rfl) rfl ?_; clear hE a; intro a hE
    refine WL.nil ?_
    refine W.ret ?_
    refine finG (fn := Try.f35) (rs := [.tmp 2]) (vs := [_]) hE rfl ⟨rfl, trivial⟩ ?_
    subst hr
    exact ⟨rfl, hS⟩
  · replace hr := iteF hc51 hr
    refine W.skip ?_
    refine W.seq ?_
    refine W.seq ?_
    refine W.region ?_
    refine WL.vS hS hE (runs_plain rfl) (Gives.p hE rfl) rfl ?_; clear hE a; intro a hE
    refine WL.vS hS hE (runs_plain rfl) (Gives.len hE rfl sl22) rfl ?_; clear hE a; intro a hE
    refine WL.vS hS hE (runs_plain rfl) (Gives.p hE rfl) rfl ?_; clear hE a; intro a hE
    refine WL.nil ?_
    obtain ⟨q53, hq52, hr⟩ := bndS hr
    refine W.cut (fun a w => (.next ()) = q53 ∧ Rep a 38 [] ∧ St w s (R)) ?_ ?_
    · refine W.block ?_
      refine W.loop (fun m a w => ∃ (rest56 : List FleetShift) (k54 : Nat), rest56.length = m ∧ x0.drop k54 = rest56 ∧ FleetCheckShifts.loop1 rest56 = q53 ∧ Rep a 38 [(8, .slice a0 x0.length c0), (9, .int .i64 ((x0).length : Int)), (10, .int .i64 ((k54 : Nat) : Int))] ∧ St w s (R)) (m := x0.length) ⟨x0, 0, rfl, rfl, hq52, hE.pick _ ⟨rfl, rfl, rfl, trivial⟩, hS⟩ ?_
      clear hE hS a w hq52; rintro m60 a w ⟨rest56, k54, rfl, hd57, hq52, hE, hS⟩
      refine W.gen fun K63 hK63 => ?_
      rcases rest56 with _ | ⟨x55, rest56⟩
      · have hlt58 := drop_nil hd57
        refine W.seq ?_
        refine W.region ?_
        refine WL.vS hS hE (runs_plain rfl) (Gives.p hE rfl) rfl ?_; clear hE a; intro a hE
        refine WL.nil ?_
        refine W.seq ?_
        refine W.condF hE rfl (decide_eq_false (by omega)) ?_
        subst hK63
        refine W.exit rfl ?_
        exact ⟨hq52, hE.pick _ trivial, hS⟩
      · obtain ⟨hlt58, hx59, hd57⟩ := drop_cons hd57
        rw [FleetCheckShifts.loop1] at hq52
        refine W.seq ?_
        refine W.region ?_
        refine WL.vS hS hE (runs_plain rfl) (Gives.p hE rfl) rfl ?_; clear hE a; intro a hE
        refine WL.nil ?_
        refine W.seq ?_
        refine W.condT hE rfl (decide_eq_true (by omega)) ?_
        refine W.skip ?_
        refine W.seq ?_
        refine W.block ?_
        refine W.seq ?_
        refine W.region ?_
        obtain ⟨cs64, hl65, hR66, hat67⟩ := h0.at hx59
        subst hR66
        refine WL.vS hS hE (runs_plain rfl) (Gives.idx hE k54 rfl rfl sl22 rfl hlt58 (h0.aok hlt58)) rfl ?_; clear hE a; intro a hE
        refine WL.vS hS hE (runs_plain rfl) (Gives.loadA hE rfl (fun w h => hat67 w _ h) ty126) rfl ?_; clear hE a; intro a hE
        refine WL.alloc hE hS (runs_plain rfl) zr126 rfl ?_; clear hE hS a w; intro b68 a w hE hS
        refine WL.storeI hE hS 0 rfl (FleetShift.cells x55) (runs_plain rfl) rfl rfl rfl ty126 rfl rfl rfl rfl ?_; clear hE hS a w; intro a w hE hS
        refine WL.nil ?_
        refine W.block ?_
        refine W.seq ?_
        obtain ⟨q70, hq69, hq52⟩ := bndS hq52
        refine W.cut (fun a w => ∃ (q73 : Bool), q73 = q70 ∧ Rep a 38 [(4, .pointer (some ⟨b68, 0, none⟩)), (8, .slice a0 x0.length c0), (9, .int .i64 ((x0).length : Int)), (10, .int .i64 ((k54 : Nat) : Int)), (14, .bool q73)] ∧ St w s (pt b68 (.cells (FleetShift.cells x55).toArray 126 (0, 0)) :: R)) ?_ ?_
        · refine W.gen fun K74 hK74 => ?_
          refine W.region ?_
          refine WL.vS hS hE (runs_plain rfl) (Gives.fld hE rfl fl126_0) rfl ?_; clear hE a; intro a hE
          refine WL.vS hS hE (runs_plain rfl) (Gives.loadB hE 0 rfl rfl rfl ty3) rfl ?_; clear hE a; intro a hE
          refine WL.fnq hE (Fleetwithin_ok hS  rfl (r := Fleetwithin x55.Day 0 6)) (runs_plain rfl) bd37 rfl rfl rfl ?_
          clear hE hS; rintro e w ⟨rfl, hS⟩; refine ⟨_, rfl, ?_⟩; clear a; intro a hE
          refine WL.vS hS hE (runs_plain rfl) (Gives.p hE rfl) rfl ?_; clear hE a; intro a hE
          refine WL.vS hS hE (runs_plain rfl) (Gives.p hE rfl) rfl ?_; clear hE a; intro a hE
          rcases Bool.eq_false_or_eq_true (!(Fleetwithin x55.Day 0 6)) with hg75 | hg75
          · replace hq69 := iteT hg75 hq69
            refine WL.no hE (runs_not hE rfl rfl rfl (by rw [hg75]; decide)) rfl ?_; clear hE a; intro a hE
            refine WL.no hE (runs_not hE rfl rfl rfl (by rw [hg75]; decide)) rfl ?_; clear hE a; intro a hE
            refine WL.no hE (runs_not hE rfl rfl rfl (by rw [hg75]; decide)) rfl ?_; clear hE a; intro a hE
            refine WL.no hE (runs_not hE rfl rfl rfl (by rw [hg75]; decide)) rfl ?_; clear hE a; intro a hE
            refine WL.vS hS hE (runs_plain rfl) (Gives.pickT hE rfl hg75 rfl) rfl ?_; clear hE a; intro a hE
            refine WL.vS hS hE (runs_plain rfl) (Gives.p hE rfl) rfl ?_; clear hE a; intro a hE
            refine WL.no hE (runs_not hE rfl rfl rfl (by decide)) rfl ?_; clear hE a; intro a hE
            refine WL.no hE (runs_not hE rfl rfl rfl (by decide)) rfl ?_; clear hE a; intro a hE
            refine WL.no hE (runs_not hE rfl rfl rfl (by decide)) rfl ?_; clear hE a; intro a hE
            refine WL.no hE (runs_not hE rfl rfl rfl (by decide)) rfl ?_; clear hE a; intro a hE
            refine WL.vS hS hE (runs_plain rfl) (Gives.pickT hE rfl rfl rfl) rfl ?_; clear hE a; intro a hE
            refine WL.vS hS hE (runs_plain rfl) (Gives.p hE rfl) rfl ?_; clear hE a; intro a hE
            refine WL.nil ?_
            subst hK74
            exact ⟨true, hq69, hE.pick _ ⟨rfl, rfl, rfl, rfl, rfl, trivial⟩, hS⟩
          · replace hq69 := iteF hg75 hq69
            refine WL.vS hS hE (runs_if hE rfl rfl rfl hg75) (Gives.fld hE rfl fl126_1) rfl ?_; clear hE a; intro a hE
            refine WL.vS hS hE (runs_if hE rfl rfl rfl hg75) (Gives.loadB hE 0 rfl rfl rfl ty3) rfl ?_; clear hE a; intro a hE
            refine WL.fnq hE (Fleetwithin_ok hS  rfl (r := Fleetwithin x55.Start 0 28800)) (runs_if hE rfl rfl rfl hg75) bd37 rfl rfl rfl ?_
            clear hE hS; rintro e w ⟨rfl, hS⟩; refine ⟨_, rfl, ?_⟩; clear a; intro a hE
            refine WL.vS hS hE (runs_if hE rfl rfl rfl hg75) (Gives.p hE rfl) rfl ?_; clear hE a; intro a hE
            refine WL.vS hS hE (runs_plain rfl) (Gives.pickF hE rfl hg75 rfl) rfl ?_; clear hE a; intro a hE
            refine WL.vS hS hE (runs_plain rfl) (Gives.p hE rfl) rfl ?_; clear hE a; intro a hE
            rcases Bool.eq_false_or_eq_true (!(Fleetwithin x55.Start 0 28800)) with hg76 | hg76
            · replace hq69 := iteT hg76 hq69
              refine WL.no hE (runs_not hE rfl rfl rfl (by rw [hg76]; decide)) rfl ?_; clear hE a; intro a hE
              refine WL.no hE (runs_not hE rfl rfl rfl (by rw [hg76]; decide)) rfl ?_; clear hE a; intro a hE
              refine WL.no hE (runs_not hE rfl rfl rfl (by rw [hg76]; decide)) rfl ?_; clear hE a; intro a hE
              refine WL.no hE (runs_not hE rfl rfl rfl (by rw [hg76]; decide)) rfl ?_; clear hE a; intro a hE
              refine WL.vS hS hE (runs_plain rfl) (Gives.pickT hE rfl hg76 rfl) rfl ?_; clear hE a; intro a hE
              refine WL.vS hS hE (runs_plain rfl) (Gives.p hE rfl) rfl ?_; clear hE a; intro a hE
              refine WL.nil ?_
              subst hK74
              exact ⟨true, hq69, hE.pick _ ⟨rfl, rfl, rfl, rfl, rfl, trivial⟩, hS⟩
            · replace hq69 := iteF hg76 hq69
              refine WL.vS hS hE (runs_if hE rfl rfl rfl hg76) (Gives.fld hE rfl fl126_2) rfl ?_; clear hE a; intro a hE
              refine WL.vS hS hE (runs_if hE rfl rfl rfl hg76) (Gives.loadB hE 0 rfl rfl rfl ty3) rfl ?_; clear hE a; intro a hE
              refine WL.fnq hE (Fleetwithin_ok hS  rfl (r := Fleetwithin x55.End 0 28800)) (runs_if hE rfl rfl rfl hg76) bd37 rfl rfl rfl ?_
              clear hE hS; rintro e w ⟨rfl, hS⟩; refine ⟨_, rfl, ?_⟩; clear a; intro a hE
              refine WL.vS hS hE (runs_if hE rfl rfl rfl hg76) (Gives.p hE rfl) rfl ?_; clear hE a; intro a hE
              refine WL.vS hS hE (runs_plain rfl) (Gives.pickF hE rfl hg76 rfl) rfl ?_; clear hE a; intro a hE
              refine WL.vS hS hE (runs_plain rfl) (Gives.p hE rfl) rfl ?_; clear hE a; intro a hE
              refine WL.nil ?_
              subst hK74
              exact ⟨!(Fleetwithin x55.End 0 28800), hq69, hE.pick _ ⟨rfl, rfl, rfl, rfl, rfl, trivial⟩, hS⟩
        · clear hE hS a w; rintro a w ⟨q73, rfl, hE, hS⟩
          refine W.cond hE rfl (fun hc77 => ?_) (fun hc77 => ?_)
          · replace hq52 := iteT hc77 hq52
            refine W.seq ?_
            refine W.region ?_
            refine WL.vS hS hE (runs_plain rfl) (Gives.p hE rfl) rfl ?_; clear hE a; intro a hE
            refine WL.nil ?_
            refine W.ret ?_
            subst hK63
            rw [← hq52] at hr
            dsimp only at hr
            refine finG (fn := Try.f35) (rs := [.tmp 2]) (vs := [_]) hE rfl ⟨rfl, trivial⟩ ?_
            subst hr
            replace hS := hS.tail
            exact ⟨rfl, hS⟩
          · replace hq52 := iteF hc77 hq52
            refine W.seq ?_
            refine W.region ?_
            refine WL.vS hS hE (runs_plain rfl) (Gives.fld hE rfl fl126_2) rfl ?_; clear hE a; intro a hE
            refine WL.vS hS hE (runs_plain rfl) (Gives.loadB hE 0 rfl rfl rfl ty3) rfl ?_; clear hE a; intro a hE
            refine WL.vS hS hE (runs_plain rfl) (Gives.fld hE rfl fl126_1) rfl ?_; clear hE a; intro a hE
            refine WL.vS hS hE (runs_plain rfl) (Gives.loadB hE 0 rfl rfl rfl ty3) rfl ?_; clear hE a; intro a hE
            refine WL.vS hS hE (runs_plain rfl) (Gives.p hE rfl) rfl ?_; clear hE a; intro a hE
            refine WL.vS hS hE (runs_plain rfl) (Gives.p hE rfl) rfl ?_; clear hE a; intro a hE
            refine WL.nil ?_
            refine W.cond hE rfl (fun hc78 => ?_) (fun hc78 => ?_)
            · replace hq52 := iteT hc78 hq52
              refine W.seq ?_
              refine W.region ?_
              refine WL.vS hS hE (runs_plain rfl) (Gives.p hE rfl) rfl ?_; clear hE a; intro a hE
              refine WL.nil ?_
              refine W.ret ?_
              subst hK63
              rw [← hq52] at hr
              dsimp only at hr
              refine finG (fn := Try.f35) (rs := [.tmp 2]) (vs := [_]) hE rfl ⟨rfl, trivial⟩ ?_
              subst hr
              replace hS := hS.tail
              exact ⟨rfl, hS⟩
            · replace hq52 := iteF hc78 hq52
              refine W.skip ?_
              refine W.region ?_
              refine WL.vS hS hE (runs_plain rfl) (Gives.inc hE rfl (by have := h0.small; omega)) rfl ?_; clear hE a; intro a hE
              refine WL.vS hS hE (runs_plain rfl) (Gives.p hE rfl) rfl ?_; clear hE a; intro a hE
              refine WL.nil ?_
              replace hS := hS.tail
              subst hK63
              exact ⟨rest56.length, Nat.lt_succ_self _, rest56, k54 + 1, rfl, hd57, hq52, hE.pick _ ⟨rfl, rfl, rfl, trivial⟩, hS⟩
    · clear hE hS a w; rintro a w ⟨rfl, hE, hS⟩
      dsimp only at hr
      refine W.seq ?_
      refine W.region ?_
      refine WL.vS hS hE (runs_plain rfl) (Gives.p hE rfl) rfl ?_; clear hE a; intro a hE
      refine WL.nil ?_
      refine W.ret ?_
      refine finG (fn := Try.f35) (rs := [.tmp 2]) (vs := [_]) hE rfl ⟨rfl, trivial⟩ ?_
      subst hr
      exact ⟨rfl, hS⟩
set_option maxHeartbeats 8000000 in
theorem FleetCheckLimits_ok  {w : World} {s : Sg} {R : List HP} {x0 : FleetLimits} (hS : St w s (R))  {r : Int} (hr : FleetCheckLimits x0 = r) :
    Calls Try.prog 36 [.agg (FleetLimits.cells x0).toArray].toArray w (fun e w => e = .returned (.int .i64 r) ∧ St w s (R)) := by
  refine enter Try.func36 rfl rfl rfl fun a hE => ?_
  rw [FleetCheckLimits] at hr
  refine W.seq ?_
  refine W.region ?_
  refine WL.box hE hS (runs_plain rfl) rfl rfl rfl ?_; clear hE hS a w; intro b51 a w hE hS
  refine WL.vS hS hE (runs_plain rfl) (Gives.p hE rfl) rfl ?_; clear hE a; intro a hE
  refine WL.nil ?_
  refine W.seq ?_
  refine W.seq ?_
  refine W.region ?_
  refine WL.vS hS hE (runs_plain rfl) (Gives.fld hE rfl fl24_0) rfl ?_; clear hE a; intro a hE
  refine WL.vS hS hE (runs_plain rfl) (Gives.loadB hE 0 rfl rfl rfl ty3) rfl ?_; clear hE a; intro a hE
  refine WL.vS hS hE (runs_plain rfl) (Gives.fld hE rfl fl24_1) rfl ?_; clear hE a; intro a hE
  refine WL.vS hS hE (runs_plain rfl) (Gives.loadB hE 0 rfl rfl rfl ty3) rfl ?_; clear hE a; intro a hE
  refine WL.vS hS hE (runs_plain rfl) (Gives.fld hE rfl fl24_2) rfl ?_; clear hE a; intro a hE
  refine WL.vS hS hE (runs_plain rfl) (Gives.loadB hE 0 rfl rfl rfl ty3) rfl ?_; clear hE a; intro a hE
  refine WL.vS hS hE (runs_plain rfl) (Gives.fld hE rfl fl24_3) rfl ?_; clear hE a; intro a hE
  refine WL.vS hS hE (runs_plain rfl) (Gives.loadB hE 0 rfl rfl rfl ty3) rfl ?_; clear hE a; intro a hE
  refine WL.vS hS hE (runs_plain rfl) (Gives.fld hE rfl fl24_4) rfl ?_; clear hE a; intro a hE
  refine WL.vS hS hE (runs_plain rfl) (Gives.loadB hE 0 rfl rfl rfl ty3) rfl ?_; clear hE a; intro a hE
  refine WL.vS hS hE (runs_plain rfl) (Gives.fld hE rfl fl24_5) rfl ?_; clear hE a; intro a hE
  refine WL.vS hS hE (runs_plain rfl) (Gives.loadB hE 0 rfl rfl rfl ty3) rfl ?_; clear hE a; intro a hE
  refine WL.vS hS hE (runs_plain rfl) (Gives.build hE (vs := [(0, .int .i64 x0.Change), (1, .int .i64 x0.Long), (2, .int .i64 x0.Work), (3, .int .i64 x0.After), (4, .int .i64 x0.Break), (5, .int .i64 x0.Rest)]) [.int .i64 x0.Change, .int .i64 x0.Long, .int .i64 x0.Work, .int .i64 x0.After, .int .i64 x0.Break, .int .i64 x0.Rest] rfl (by kernel_rfl)) rfl ?_; clear hE a; intro a hE
  refine WL.vS hS hE (runs_plain rfl) (Gives.p hE rfl) rfl ?_; clear hE a; intro a hE
  refine WL.nil ?_
  obtain ⟨q53, hq52, hr⟩ := bndS hr
  refine W.cut (fun a w => (.next ()) = q53 ∧ Rep a 29 [(1, .pointer (some ⟨b51, 0, none⟩))] ∧ St w s (pt b51 (.cells (FleetLimits.cells x0).toArray 24 (0, 0)) :: R)) ?_ ?_
  · refine W.block ?_
    refine W.loop (fun m a w => ∃ (rest56 : List Int) (k54 : Nat), rest56.length = m ∧ [x0.Change, x0.Long, x0.Work, x0.After, x0.Break, x0.Rest].drop k54 = rest56 ∧ FleetCheckLimits.loop1 rest56 = q53 ∧ Rep a 29 [(1, .pointer (some ⟨b51, 0, none⟩)), (17, .agg [.int .i64 x0.Change, .int .i64 x0.Long, .int .i64 x0.Work, .int .i64 x0.After, .int .i64 x0.Break, .int .i64 x0.Rest].toArray), (18, .int .i64 ((k54 : Nat) : Int))] ∧ St w s (pt b51 (.cells (FleetLimits.cells x0).toArray 24 (0, 0)) :: R)) (m := [x0.Change, x0.Long, x0.Work, x0.After, x0.Break, x0.Rest].length) ⟨[x0.Change, x0.Long, x0.Work, x0.After, x0.Break, x0.Rest], 0, rfl, rfl, hq52, hE.pick _ ⟨rfl, rfl, rfl, trivial⟩, hS⟩ ?_
    clear hE hS a w hq52; rintro m60 a w ⟨rest56, k54, rfl, hd57, hq52, hE, hS⟩
    refine W.gen fun K63 hK63 => ?_
    rcases rest56 with _ | ⟨x55, rest56⟩
    · have hlt58 : 6 ≤ k54 := drop_nil hd57
      refine W.seq ?_
      refine W.region ?_
      refine WL.vS hS hE (runs_plain rfl) (Gives.p hE rfl) rfl ?_; clear hE a; intro a hE
      refine WL.nil ?_
      refine W.seq ?_
      refine W.condF hE rfl (decide_eq_false (by omega)) ?_
      subst hK63
      refine W.exit rfl ?_
      exact ⟨hq52, hE.pick _ ⟨rfl, trivial⟩, hS⟩
    · obtain ⟨hlt58, hx59, hd57⟩ := drop_cons hd57
      replace hlt58 : k54 < 6 := hlt58
      rw [FleetCheckLimits.loop1] at hq52
      refine W.seq ?_
      refine W.region ?_
      refine WL.vS hS hE (runs_plain rfl) (Gives.p hE rfl) rfl ?_; clear hE a; intro a hE
      refine WL.nil ?_
      refine W.seq ?_
      refine W.condT hE rfl (decide_eq_true (by omega)) ?_
      refine W.skip ?_
      refine W.seq ?_
      refine W.block ?_
      refine W.seq ?_
      refine W.region ?_
      refine WL.vS hS hE (runs_plain rfl) (Gives.indexM hE (f := (Value.int .i64)) (l := [x0.Change, x0.Long, x0.Work, x0.After, x0.Break, x0.Rest]) (k := k54) ar131 rfl rfl rfl rfl hx59) rfl ?_; clear hE a; intro a hE
      refine WL.vS hS hE (runs_plain rfl) (Gives.p hE rfl) rfl ?_; clear hE a; intro a hE
      refine WL.nil ?_
      refine W.seq ?_
      refine W.region ?_
      refine WL.vS hS hE (runs_plain rfl) (Gives.p hE rfl) rfl ?_; clear hE a; intro a hE
      refine WL.fnq hE (Fleetwithin_ok hS  rfl (r := Fleetwithin x55 0 86400)) (runs_plain rfl) bd37 rfl rfl rfl ?_
      clear hE hS; rintro e w ⟨rfl, hS⟩; refine ⟨_, rfl, ?_⟩; clear a; intro a hE
      refine WL.vS hS hE (runs_plain rfl) (Gives.p hE rfl) rfl ?_; clear hE a; intro a hE
      refine WL.nil ?_
      refine W.cond hE rfl (fun hc64 => ?_) (fun hc64 => ?_)
      · replace hq52 := iteT hc64 hq52
        refine W.seq ?_
        refine W.region ?_
        refine WL.vS hS hE (runs_plain rfl) (Gives.p hE rfl) rfl ?_; clear hE a; intro a hE
        refine WL.nil ?_
        refine W.ret ?_
        subst hK63
        rw [← hq52] at hr
        dsimp only at hr
        refine finG (fn := Try.f36) (rs := [.tmp 2]) (vs := [_]) hE rfl ⟨rfl, trivial⟩ ?_
        subst hr
        replace hS := hS.tail
        exact ⟨rfl, hS⟩
      · replace hq52 := iteF hc64 hq52
        refine W.skip ?_
        refine W.region ?_
        refine WL.vS hS hE (runs_plain rfl) (Gives.inc hE rfl (by omega)) rfl ?_; clear hE a; intro a hE
        refine WL.vS hS hE (runs_plain rfl) (Gives.p hE rfl) rfl ?_; clear hE a; intro a hE
        refine WL.nil ?_
        subst hK63
        exact ⟨rest56.length, Nat.lt_succ_self _, rest56, k54 + 1, rfl, hd57, hq52, hE.pick _ ⟨rfl, rfl, rfl, trivial⟩, hS⟩
  · clear hE hS a w; rintro a w ⟨rfl, hE, hS⟩
    dsimp only at hr
    refine W.seq ?_
    refine W.seq ?_
    refine W.region ?_
    refine WL.vS hS hE (runs_plain rfl) (Gives.fld hE rfl fl24_6) rfl ?_; clear hE a; intro a hE
    refine WL.vS hS hE (runs_plain rfl) (Gives.loadB hE 0 rfl rfl rfl ty3) rfl ?_; clear hE a; intro a hE
    refine WL.fnq hE (Fleetwithin_ok hS  rfl (r := Fleetwithin x0.Row 1 7)) (runs_plain rfl) bd37 rfl rfl rfl ?_
    clear hE hS; rintro e w ⟨rfl, hS⟩; refine ⟨_, rfl, ?_⟩; clear a; intro a hE
    refine WL.vS hS hE (runs_plain rfl) (Gives.p hE rfl) rfl ?_; clear hE a; intro a hE
    refine WL.nil ?_
    refine W.cond hE rfl (fun hc65 => ?_) (fun hc65 => ?_)
    · replace hr := iteT hc65 hr
      refine W.seq ?_
      refine W.region ?_
      refine WL.vS hS hE (runs_plain rfl) (Gives.p hE rfl) rfl ?_; clear hE a; intro a hE
      refine WL.nil ?_
      refine W.ret ?_
      refine finG (fn := Try.f36) (rs := [.tmp 2]) (vs := [_]) hE rfl ⟨rfl, trivial⟩ ?_
      subst hr
      replace hS := hS.tail
      exact ⟨rfl, hS⟩
    · replace hr := iteF hc65 hr
      refine W.skip ?_
      refine W.seq ?_
      refine W.region ?_
      refine WL.vS hS hE (runs_plain rfl) (Gives.p hE rfl) rfl ?_; clear hE a; intro a hE
      refine WL.nil ?_
      refine W.ret ?_
      refine finG (fn := Try.f36) (rs := [.tmp 2]) (vs := [_]) hE rfl ⟨rfl, trivial⟩ ?_
      subst hr
      replace hS := hS.tail
      exact ⟨rfl, hS⟩
set_option maxHeartbeats 8000000 in
theorem FleetcheckRoster_ok  {w : World} {s : Sg} {R : List HP} {x0 : List FleetShift} {a0 : Option Addr} {c0 : Nat} {x1 : List (List Int)} {a1 : Option Addr} {c1 : Nat} (hS : St w s (R)) (_h0 : Sl 3 RFleetShift s a0 c0 x0) (h1 : Sl 1 (RL 1 (RI .i64)) s a1 c1 x1) {r : Int} (hr : FleetcheckRoster x0 x1 = r) :
    Calls Try.prog 123 [.slice a0 x0.length c0, .slice a1 x1.length c1].toArray w (fun e w => e = .returned (.int .i64 r) ∧ St w s (R)) := by
  refine enter Try.func123 rfl rfl rfl fun a hE => ?_
  rw [FleetcheckRoster] at hr
  refine W.seq ?_
  refine W.region ?_
  refine WL.vS hS hE (runs_plain rfl) (Gives.p hE rfl) rfl ?_; clear hE a; intro a hE
  refine WL.nil ?_
  refine W.seq ?_
  refine W.seq ?_
  refine W.region ?_
  refine WL.vS hS hE (runs_plain rfl) (Gives.p hE rfl) rfl ?_; clear hE a; intro a hE
  refine WL.vS hS hE (runs_plain rfl) (Gives.len hE rfl sl25) rfl ?_; clear hE a; intro a hE
  refine WL.vS hS hE (runs_plain rfl) (Gives.p hE rfl) rfl ?_; clear hE a; intro a hE
  refine WL.nil ?_
  refine W.cond hE rfl (fun hc51 => ?_) (fun hc51 => ?_)
  · replace hr := iteT hc51 hr
    refine W.seq ?_
    refine W.region ?_
    refine WL.vS hS hE (runs_plain rfl) (Gives.p hE rfl) rfl ?_; clear hE a; intro a hE
    refine WL.nil ?_
    refine W.ret ?_
    refine finG (fn := Try.f123) (rs := [.tmp 4]) (vs := [_]) hE rfl ⟨rfl, trivial⟩ ?_
    subst hr
    exact ⟨rfl, hS⟩
  · replace hr := iteF hc51 hr
    refine W.skip ?_
    refine W.seq ?_
    refine W.seq ?_
    refine W.region ?_
    refine WL.vS hS hE (runs_plain rfl) (Gives.p hE rfl) rfl ?_; clear hE a; intro a hE
    refine WL.vS hS hE (runs_plain rfl) (Gives.len hE rfl sl25) rfl ?_; clear hE a; intro a hE
    refine WL.vS hS hE (runs_plain rfl) (Gives.p hE rfl) rfl ?_; clear hE a; intro a hE
    refine WL.nil ?_
    obtain ⟨q53, hq52, hr⟩ := bndS hr
    refine W.cut (fun a w => (.next ()) = q53 ∧ Rep a 32 [] ∧ St w s (R)) ?_ ?_
    · refine W.block ?_
      refine W.loop (fun m a w => ∃ (rest56 : List (List Int)) (k54 : Nat), rest56.length = m ∧ x1.drop k54 = rest56 ∧ FleetcheckRoster.loop1 x0 rest56 = q53 ∧ Rep a 32 [(0, .slice a0 x0.length c0), (12, .slice a1 x1.length c1), (13, .int .i64 ((x1).length : Int)), (14, .int .i64 ((k54 : Nat) : Int))] ∧ St w s (R)) (m := x1.length) ⟨x1, 0, rfl, rfl, hq52, hE.pick _ ⟨rfl, rfl, rfl, rfl, trivial⟩, hS⟩ ?_
      clear hE hS a w hq52; rintro m60 a w ⟨rest56, k54, rfl, hd57, hq52, hE, hS⟩
      refine W.gen fun K63 hK63 => ?_
      rcases rest56 with _ | ⟨x55, rest56⟩
      · have hlt58 := drop_nil hd57
        refine W.seq ?_
        refine W.region ?_
        refine WL.vS hS hE (runs_plain rfl) (Gives.p hE rfl) rfl ?_; clear hE a; intro a hE
        refine WL.nil ?_
        refine W.seq ?_
        refine W.condF hE rfl (decide_eq_false (by omega)) ?_
        subst hK63
        refine W.exit rfl ?_
        exact ⟨hq52, hE.pick _ trivial, hS⟩
      · obtain ⟨hlt58, hx59, hd57⟩ := drop_cons hd57
        rw [FleetcheckRoster.loop1] at hq52
        refine W.seq ?_
        refine W.region ?_
        refine WL.vS hS hE (runs_plain rfl) (Gives.p hE rfl) rfl ?_; clear hE a; intro a hE
        refine WL.nil ?_
        refine W.seq ?_
        refine W.condT hE rfl (decide_eq_true (by omega)) ?_
        refine W.skip ?_
        refine W.seq ?_
        refine W.block ?_
        refine W.seq ?_
        refine W.region ?_
        obtain ⟨cs64, hl65, hR66, hat67⟩ := h1.at hx59
        obtain ⟨a68, c69, rfl, h70⟩ := hR66
        refine WL.vS hS hE (runs_plain rfl) (Gives.idx hE k54 rfl rfl sl25 rfl hlt58 (h1.aok hlt58)) rfl ?_; clear hE a; intro a hE
        refine WL.vS hS hE (runs_plain rfl) (Gives.load1 hE rfl (fun w h => hat67 w _ h) ty44) rfl ?_; clear hE a; intro a hE
        refine WL.vS hS hE (runs_plain rfl) (Gives.p hE rfl) rfl ?_; clear hE a; intro a hE
        refine WL.nil ?_
        refine W.seq ?_
        refine W.region ?_
        refine WL.vS hS hE (runs_plain rfl) (Gives.p hE rfl) rfl ?_; clear hE a; intro a hE
        refine WL.vS hS hE (runs_plain rfl) (Gives.len hE rfl sl44) rfl ?_; clear hE a; intro a hE
        refine WL.vS hS hE (runs_plain rfl) (Gives.p hE rfl) rfl ?_; clear hE a; intro a hE
        refine WL.nil ?_
        obtain ⟨q72, hq71, hq52⟩ := bndS hq52
        refine W.cut (fun a w => (.next ()) = q72 ∧ Rep a 32 [(0, .slice a0 x0.length c0), (12, .slice a1 x1.length c1), (13, .int .i64 ((x1).length : Int)), (14, .int .i64 ((k54 : Nat) : Int))] ∧ St w s (R)) ?_ ?_
        · refine W.block ?_
          refine W.loop (fun m a w => ∃ (rest75 : List Int) (k73 : Nat), rest75.length = m ∧ x55.drop k73 = rest75 ∧ FleetcheckRoster.loop2 x0 rest75 = q72 ∧ Rep a 32 [(0, .slice a0 x0.length c0), (12, .slice a1 x1.length c1), (13, .int .i64 ((x1).length : Int)), (14, .int .i64 ((k54 : Nat) : Int)), (18, .slice a68 x55.length c69), (19, .int .i64 ((x55).length : Int)), (20, .int .i64 ((k73 : Nat) : Int))] ∧ St w s (R)) (m := x55.length) ⟨x55, 0, rfl, rfl, hq71, hE.pick _ ⟨rfl, rfl, rfl, rfl, rfl, rfl, rfl, trivial⟩, hS⟩ ?_
          clear hE hS a w hq71; rintro m79 a w ⟨rest75, k73, rfl, hd76, hq71, hE, hS⟩
          refine W.gen fun K82 hK82 => ?_
          rcases rest75 with _ | ⟨x74, rest75⟩
          · have hlt77 := drop_nil hd76
            refine W.seq ?_
            refine W.region ?_
            refine WL.vS hS hE (runs_plain rfl) (Gives.p hE rfl) rfl ?_; clear hE a; intro a hE
            refine WL.nil ?_
            refine W.seq ?_
            refine W.condF hE rfl (decide_eq_false (by omega)) ?_
            subst hK82
            refine W.exit rfl ?_
            exact ⟨hq71, hE.pick _ ⟨rfl, rfl, rfl, rfl, trivial⟩, hS⟩
          · obtain ⟨hlt77, hx78, hd76⟩ := drop_cons hd76
            rw [FleetcheckRoster.loop2] at hq71
            refine W.seq ?_
            refine W.region ?_
            refine WL.vS hS hE (runs_plain rfl) (Gives.p hE rfl) rfl ?_; clear hE a; intro a hE
            refine WL.nil ?_
            refine W.seq ?_
            refine W.condT hE rfl (decide_eq_true (by omega)) ?_
            refine W.skip ?_
            refine W.seq ?_
            refine W.block ?_
            refine W.seq ?_
            refine W.region ?_
            obtain ⟨cs83, hl84, hR85, hat86⟩ := h70.at hx78
            subst hR85
            refine WL.vS hS hE (runs_plain rfl) (Gives.idx hE k73 rfl rfl sl44 rfl hlt77 (h70.aok hlt77)) rfl ?_; clear hE a; intro a hE
            refine WL.vS hS hE (runs_plain rfl) (Gives.load1 hE rfl (fun w h => hat86 w _ h) ty3) rfl ?_; clear hE a; intro a hE
            refine WL.vS hS hE (runs_plain rfl) (Gives.p hE rfl) rfl ?_; clear hE a; intro a hE
            refine WL.nil ?_
            refine W.seq ?_
            refine W.region ?_
            refine WL.vS hS hE (runs_plain rfl) (Gives.p hE rfl) rfl ?_; clear hE a; intro a hE
            refine WL.vS hS hE (runs_plain rfl) (Gives.p hE rfl) rfl ?_; clear hE a; intro a hE
            refine WL.vS hS hE (runs_plain rfl) (Gives.len hE rfl sl22) rfl ?_; clear hE a; intro a hE
            refine WL.vS hS hE (runs_plain rfl) (Gives.p hE rfl) rfl ?_; clear hE a; intro a hE
            refine WL.fnq hE (Fleetwithin_ok hS  rfl (r := Fleetwithin x74 0 (w64 (((x0).length : Int) - 1)))) (runs_plain rfl) bd37 rfl rfl rfl ?_
            clear hE hS; rintro e w ⟨rfl, hS⟩; refine ⟨_, rfl, ?_⟩; clear a; intro a hE
            refine WL.vS hS hE (runs_plain rfl) (Gives.p hE rfl) rfl ?_; clear hE a; intro a hE
            refine WL.nil ?_
            refine W.cond hE rfl (fun hc87 => ?_) (fun hc87 => ?_)
            · replace hq71 := iteT hc87 hq71
              refine W.seq ?_
              refine W.region ?_
              refine WL.vS hS hE (runs_plain rfl) (Gives.p hE rfl) rfl ?_; clear hE a; intro a hE
              refine WL.nil ?_
              refine W.ret ?_
              subst hK82
              subst hK63
              rw [← hq71] at hq52
              dsimp only at hq52
              rw [← hq52] at hr
              dsimp only at hr
              refine finG (fn := Try.f123) (rs := [.tmp 4]) (vs := [_]) hE rfl ⟨rfl, trivial⟩ ?_
              subst hr
              exact ⟨rfl, hS⟩
            · replace hq71 := iteF hc87 hq71
              refine W.skip ?_
              refine W.region ?_
              refine WL.vS hS hE (runs_plain rfl) (Gives.inc hE rfl (by have := h70.small; omega)) rfl ?_; clear hE a; intro a hE
              refine WL.vS hS hE (runs_plain rfl) (Gives.p hE rfl) rfl ?_; clear hE a; intro a hE
              refine WL.nil ?_
              subst hK82
              exact ⟨rest75.length, Nat.lt_succ_self _, rest75, k73 + 1, rfl, hd76, hq71, hE.pick _ ⟨rfl, rfl, rfl, rfl, rfl, rfl, rfl, trivial⟩, hS⟩
        · clear hE hS a w; rintro a w ⟨rfl, hE, hS⟩
          dsimp only at hq52
          refine W.region ?_
          refine WL.vS hS hE (runs_plain rfl) (Gives.inc hE rfl (by have := h1.small; omega)) rfl ?_; clear hE a; intro a hE
          refine WL.vS hS hE (runs_plain rfl) (Gives.p hE rfl) rfl ?_; clear hE a; intro a hE
          refine WL.nil ?_
          subst hK63
          exact ⟨rest56.length, Nat.lt_succ_self _, rest56, k54 + 1, rfl, hd57, hq52, hE.pick _ ⟨rfl, rfl, rfl, rfl, trivial⟩, hS⟩
    · clear hE hS a w; rintro a w ⟨rfl, hE, hS⟩
      dsimp only at hr
      refine W.seq ?_
      refine W.region ?_
      refine WL.vS hS hE (runs_plain rfl) (Gives.p hE rfl) rfl ?_; clear hE a; intro a hE
      refine WL.nil ?_
      refine W.ret ?_
      refine finG (fn := Try.f123) (rs := [.tmp 4]) (vs := [_]) hE rfl ⟨rfl, trivial⟩ ?_
      subst hr
      exact ⟨rfl, hS⟩
set_option maxHeartbeats 8000000 in
theorem FleetdriverBreaks_ok  {w : World} {s : Sg} {R : List HP} {x0 : List FleetShift} {a0 : Option Addr} {c0 : Nat} {x1 : List Int} {a1 : Option Addr} {c1 : Nat} {x2 : FleetLimits} (hS : St w s (R)) (h0 : Sl 3 RFleetShift s a0 c0 x0) (h1 : Sl 1 (RI .i64) s a1 c1 x1) {r : Bool × Bool × Bool} (hr : FleetdriverBreaks x0 x1 x2 = some r) :
    Calls Try.prog 94 [.slice a0 x0.length c0, .slice a1 x1.length c1, .agg (FleetLimits.cells x2).toArray].toArray w (fun e w => e = .returned (.tuple #[.bool r.1, .bool r.2.1, .bool r.2.2]) ∧ St w s (R)) := by
  refine enter Try.func94 rfl rfl rfl fun a hE => ?_
  rw [FleetdriverBreaks] at hr
  refine W.seq ?_
  refine W.region ?_
  refine WL.box hE hS (runs_plain rfl) rfl rfl rfl ?_; clear hE hS a w; intro b51 a w hE hS
  refine WL.vS hS hE (runs_plain rfl) (Gives.p hE rfl) rfl ?_; clear hE a; intro a hE
  refine WL.vS hS hE (runs_plain rfl) (Gives.p hE rfl) rfl ?_; clear hE a; intro a hE
  refine WL.vS hS hE (runs_plain rfl) (Gives.p hE rfl) rfl ?_; clear hE a; intro a hE
  refine WL.nil ?_
  refine W.seq ?_
  refine W.region ?_
  refine WL.vS hS hE (runs_plain rfl) (Gives.build hE (vs := []) [.int .i64 0, .int .i64 0, .int .i64 0, .int .i64 0, .int .i64 0, .int .i64 0, .int .i64 0] rfl (by kernel_rfl)) rfl ?_; clear hE a; intro a hE
  refine WL.alloc hE hS (runs_plain rfl) zr166 rfl ?_; clear hE hS a w; intro b52 a w hE hS
  replace hS := hS.ptVec (es := 1) (m := 7) rfl (by decide)
  have h53 : Ev 1 (RI .i64) s [.int .i64 0, .int .i64 0, .int .i64 0, .int .i64 0, .int .i64 0, .int .i64 0, .int .i64 0] [0, 0, 0, 0, 0, 0, 0] := (Ev.cons (c1 := [.int .i64 0]) rfl rfl (Ev.cons (c1 := [.int .i64 0]) rfl rfl (Ev.cons (c1 := [.int .i64 0]) rfl rfl (Ev.cons (c1 := [.int .i64 0]) rfl rfl (Ev.cons (c1 := [.int .i64 0]) rfl rfl (Ev.cons (c1 := [.int .i64 0]) rfl rfl (Ev.cons (c1 := [.int .i64 0]) rfl rfl (Ev.nil))))))))
  have h55 : Ev 1 (RI .i64) s [.int .i64 0, .int .i64 0, .int .i64 0, .int .i64 0, .int .i64 0, .int .i64 0, .int .i64 0] [0, 0, 0, 0, 0, 0, 0] := (Ev.cons (c1 := [.int .i64 0]) rfl rfl (Ev.cons (c1 := [.int .i64 0]) rfl rfl (Ev.cons (c1 := [.int .i64 0]) rfl rfl (Ev.cons (c1 := [.int .i64 0]) rfl rfl (Ev.cons (c1 := [.int .i64 0]) rfl rfl (Ev.cons (c1 := [.int .i64 0]) rfl rfl (Ev.cons (c1 := [.int .i64 0]) rfl rfl (Ev.nil))))))))
  have hn56 : ([0, 0, 0, 0, 0, 0, 0]).length = 7 := rfl
  refine WL.storeArr hE hS 0 rfl (runs_plain rfl) rfl rfl rfl ty166 (by decide) (by first | rfl | (rw [h55.ints]; simp [List.all_map, Function.comp_def, Value.oneCell'])) h55 hn56 rfl ?_; clear hE hS a w; intro a w hE hS
  refine WL.nil ?_
  refine W.seq ?_
  refine W.seq ?_
  refine W.region ?_
  refine WL.vS hS hE (runs_plain rfl) (Gives.p hE rfl) rfl ?_; clear hE a; intro a hE
  refine WL.vS hS hE (runs_plain rfl) (Gives.len hE rfl sl44) rfl ?_; clear hE a; intro a hE
  refine WL.vS hS hE (runs_plain rfl) (Gives.p hE rfl) rfl ?_; clear hE a; intro a hE
  refine WL.nil ?_
  obtain ⟨q58, hq57, hr⟩ := bindS hr
  refine W.cut (fun a w => ∃ (q68 : Bool), ∃ (q69 : List Int), ∃ (cs73 : List Value), (q68, q69) = q58 ∧ Ev 1 (RI .i64) s cs73 q69 ∧ q69.length = 7 ∧ Rep a 111 [(5, .pointer (some ⟨b51, 0, none⟩)), (6, .bool false), (7, .bool q68), (8, .bool false), (9, .pointer (some ⟨b52, 0, none⟩))] ∧ St w s (vecC 166 1 (some ⟨b52, 0, none⟩) 7 7 cs73 :: pt b51 (.cells (FleetLimits.cells x2).toArray 24 (0, 0)) :: R)) ?_ ?_
  · refine W.block ?_
    refine W.loop (fun m a w => ∃ (rest61 : List Int) (k59 : Nat), ∃ (q68 : Bool), ∃ (q69 : List Int), ∃ (cs73 : List Value), rest61.length = m ∧ x1.drop k59 = rest61 ∧ FleetdriverBreaks.loop1 x0 x1 x2 rest61 k59 q68 q69 = some q58 ∧ Ev 1 (RI .i64) s cs73 q69 ∧ q69.length = 7 ∧ Rep a 111 [(0, .slice a0 x0.length c0), (1, .slice a1 x1.length c1), (5, .pointer (some ⟨b51, 0, none⟩)), (6, .bool false), (7, .bool q68), (8, .bool false), (9, .pointer (some ⟨b52, 0, none⟩)), (20, .slice a1 x1.length c1), (21, .int .i64 ((x1).length : Int)), (22, .int .i64 ((k59 : Nat) : Int))] ∧ St w s (vecC 166 1 (some ⟨b52, 0, none⟩) 7 7 cs73 :: pt b51 (.cells (FleetLimits.cells x2).toArray 24 (0, 0)) :: R)) (m := x1.length) ⟨x1, 0, false, [0, 0, 0, 0, 0, 0, 0], [.int .i64 0, .int .i64 0, .int .i64 0, .int .i64 0, .int .i64 0, .int .i64 0, .int .i64 0], rfl, rfl, hq57, h55, hn56, hE.pick _ ⟨rfl, rfl, rfl, rfl, rfl, rfl, rfl, rfl, rfl, rfl, trivial⟩, hS⟩ ?_
    clear hE hS a w hq57; rintro m65 a w ⟨rest61, k59, q68, q69, cs73, rfl, hd62, hq57, h72, hn74, hE, hS⟩
    refine W.gen fun K75 hK75 => ?_
    rcases rest61 with _ | ⟨x60, rest61⟩
    · have hlt63 := drop_nil hd62
      refine W.seq ?_
      refine W.region ?_
      refine WL.vS hS hE (runs_plain rfl) (Gives.p hE rfl) rfl ?_; clear hE a; intro a hE
      refine WL.nil ?_
      refine W.seq ?_
      refine W.condF hE rfl (decide_eq_false (by omega)) ?_
      subst hK75
      refine W.exit rfl ?_
      exact ⟨q68, q69, cs73, Option.some.inj hq57, h72, hn74, hE.pick _ ⟨rfl, rfl, rfl, rfl, rfl, trivial⟩, hS⟩
    · obtain ⟨hlt63, hx64, hd62⟩ := drop_cons hd62
      rw [FleetdriverBreaks.loop1] at hq57
      refine W.seq ?_
      refine W.region ?_
      refine WL.vS hS hE (runs_plain rfl) (Gives.p hE rfl) rfl ?_; clear hE a; intro a hE
      refine WL.nil ?_
      refine W.seq ?_
      refine W.condT hE rfl (decide_eq_true (by omega)) ?_
      refine W.skip ?_
      refine W.seq ?_
      refine W.block ?_
      refine W.seq ?_
      refine W.region ?_
      refine WL.vS hS hE (runs_plain rfl) (Gives.p hE rfl) rfl ?_; clear hE a; intro a hE
      obtain ⟨cs76, hl77, hR78, hat79⟩ := h1.at hx64
      subst hR78
      refine WL.vS hS hE (runs_plain rfl) (Gives.idx hE k59 rfl rfl sl44 rfl hlt63 (h1.aok hlt63)) rfl ?_; clear hE a; intro a hE
      refine WL.vS hS hE (runs_plain rfl) (Gives.load1 hE rfl (fun w h => hat79 w _ h) ty3) rfl ?_; clear hE a; intro a hE
      refine WL.vS hS hE (runs_plain rfl) (Gives.p hE rfl) rfl ?_; clear hE a; intro a hE
      refine WL.vS hS hE (runs_plain rfl) (Gives.p hE rfl) rfl ?_; clear hE a; intro a hE
      refine WL.nil ?_
      refine W.seq ?_
      refine W.region ?_
      refine WL.vS hS hE (runs_plain rfl) (Gives.p hE rfl) rfl ?_; clear hE a; intro a hE
      refine WL.vS hS hE (runs_plain rfl) (Gives.p hE rfl) rfl ?_; clear hE a; intro a hE
      obtain ⟨x80, hx81, hq57⟩ := bindS hq57
      obtain ⟨hi82, hlt83, hy84⟩ := gx_some hx81
      obtain ⟨cs85, hl86, hR87, hat88⟩ := h0.at hy84
      subst hR87
      refine WL.vS hS hE (runs_plain rfl) (Gives.idx hE (x60).toNat rfl rfl sl22 hi82 hlt83 (h0.aok hlt83)) rfl ?_; clear hE a; intro a hE
      refine WL.vS hS hE (runs_plain rfl) (Gives.fld hE rfl fl126_0) rfl ?_; clear hE a; intro a hE
      refine WL.vS hS hE (runs_plain rfl) (Gives.load1 hE rfl (fun w h => (hat88 w _ h).one rfl) ty3) rfl ?_; clear hE a; intro a hE
      obtain ⟨x89, hx90, hq57⟩ := bindS hq57
      obtain ⟨hi91, hlt92, hy93⟩ := gx_some hx90
      obtain ⟨vs94, hl95, hR96, hd97, hget98⟩ := h72.at hy93
      subst hR96
      refine WL.vS hS hE (runs_plain rfl) (Gives.idxA hE ((x80.Day).toNat) rfl rfl ar166 hi91 (by have := hn74; omega) (hS.vecAok 0 rfl (by have := hn74; omega : (x80.Day).toNat < 7))) rfl ?_; clear hE a; intro a hE
      refine WL.vS hS hE (runs_plain rfl) (Gives.load1 hE rfl (fun w h => St.vecSees h 0 rfl ((x80.Day).toNat * 1) _ hget98) ty3) rfl ?_; clear hE a; intro a hE
      refine WL.vS hS hE (runs_plain rfl) (Gives.p hE rfl) rfl ?_; clear hE a; intro a hE
      obtain ⟨_, hx100, hq57⟩ := bindS hq57
      obtain ⟨h101, h102⟩ := ix_some hx100
      refine WL.vS hS hE (runs_plain rfl) (Gives.idxA hE ((x80.Day).toNat) rfl rfl ar166 h101 (by have := hn74; omega) (hS.vecAok 0 rfl (by have := hn74; omega : (x80.Day).toNat < 7))) rfl ?_; clear hE a; intro a hE
      obtain ⟨x104, hx105, hq57⟩ := bindS hq57
      refine WL.setD hE hS 0 rfl (runs_plain rfl) rfl rfl (vs := [.int .i64 (w64 (x89 + 1))]) rfl ty3 rfl rfl rfl h72 hn74 (sx_some hx105).1 hx105 rfl rfl ?_; clear hE hS a w; intro cs106 a w h107 hn108 hE hS
      refine WL.nil ?_
      refine W.seq ?_
      refine W.region ?_
      refine WL.vS hS hE (runs_plain rfl) (Gives.p hE rfl) rfl ?_; clear hE a; intro a hE
      refine WL.vS hS hE (runs_plain rfl) (Gives.p hE rfl) rfl ?_; clear hE a; intro a hE
      obtain ⟨x109, hx110, hq57⟩ := bindS hq57
      obtain ⟨a111, c112, heq113, h114⟩ := h1.cut hx110
      obtain ⟨h115, h116, h117, _⟩ := cutl_some hx110
      refine WL.vS hS hE (runs_plain rfl) (Gives.slH hE sl44 rfl rfl (by omega) (by have := h1.len; omega) heq113) rfl ?_; clear hE a; intro a hE
      refine WL.vS hS hE (runs_plain rfl) (Gives.len hE rfl sl44) rfl ?_; clear hE a; intro a hE
      refine WL.vS hS hE (runs_plain rfl) (Gives.p hE rfl) rfl ?_; clear hE a; intro a hE
      refine WL.nil ?_
      obtain ⟨q119, hq118, hq57⟩ := bindS hq57
      refine W.cut (fun a w => ∃ (q129 : Bool), q129 = q119 ∧ Rep a 111 [(0, .slice a0 x0.length c0), (1, .slice a1 x1.length c1), (5, .pointer (some ⟨b51, 0, none⟩)), (6, .bool false), (7, .bool q129), (8, .bool false), (9, .pointer (some ⟨b52, 0, none⟩)), (20, .slice a1 x1.length c1), (21, .int .i64 ((x1).length : Int)), (22, .int .i64 ((k59 : Nat) : Int))] ∧ St w s (vecC 166 1 (some ⟨b52, 0, none⟩) 7 7 cs106 :: pt b51 (.cells (FleetLimits.cells x2).toArray 24 (0, 0)) :: R)) ?_ ?_
      · refine W.block ?_
        refine W.loop (fun m a w => ∃ (rest122 : List Int) (k120 : Nat), ∃ (q129 : Bool), rest122.length = m ∧ x109.drop k120 = rest122 ∧ FleetdriverBreaks.loop2 x0 x2 x60 rest122 q129 = some q119 ∧ Rep a 111 [(0, .slice a0 x0.length c0), (1, .slice a1 x1.length c1), (5, .pointer (some ⟨b51, 0, none⟩)), (6, .bool false), (7, .bool q129), (8, .bool false), (9, .pointer (some ⟨b52, 0, none⟩)), (11, .int .i64 x60), (20, .slice a1 x1.length c1), (21, .int .i64 ((x1).length : Int)), (22, .int .i64 ((k59 : Nat) : Int)), (38, .slice a111 x109.length c112), (39, .int .i64 ((x109).length : Int)), (40, .int .i64 ((k120 : Nat) : Int))] ∧ St w s (vecC 166 1 (some ⟨b52, 0, none⟩) 7 7 cs106 :: pt b51 (.cells (FleetLimits.cells x2).toArray 24 (0, 0)) :: R)) (m := x109.length) ⟨x109, 0, q68, rfl, rfl, hq118, hE.pick _ ⟨rfl, rfl, rfl, rfl, rfl, rfl, rfl, rfl, rfl, rfl, rfl, rfl, rfl, rfl, trivial⟩, hS⟩ ?_
        clear hE hS a w hq118; rintro m126 a w ⟨rest122, k120, q129, rfl, hd123, hq118, hE, hS⟩
        refine W.gen fun K130 hK130 => ?_
        rcases rest122 with _ | ⟨x121, rest122⟩
        · have hlt124 := drop_nil hd123
          refine W.seq ?_
          refine W.region ?_
          refine WL.vS hS hE (runs_plain rfl) (Gives.p hE rfl) rfl ?_; clear hE a; intro a hE
          refine WL.nil ?_
          refine W.seq ?_
          refine W.condF hE rfl (decide_eq_false (by omega)) ?_
          subst hK130
          refine W.exit rfl ?_
          exact ⟨q129, Option.some.inj hq118, hE.pick _ ⟨rfl, rfl, rfl, rfl, rfl, rfl, rfl, rfl, rfl, rfl, trivial⟩, hS⟩
        · obtain ⟨hlt124, hx125, hd123⟩ := drop_cons hd123
          rw [FleetdriverBreaks.loop2] at hq118
          refine W.seq ?_
          refine W.region ?_
          refine WL.vS hS hE (runs_plain rfl) (Gives.p hE rfl) rfl ?_; clear hE a; intro a hE
          refine WL.nil ?_
          refine W.seq ?_
          refine W.condT hE rfl (decide_eq_true (by omega)) ?_
          refine W.skip ?_
          refine W.seq ?_
          refine W.block ?_
          refine W.seq ?_
          refine W.region ?_
          obtain ⟨cs131, hl132, hR133, hat134⟩ := h114.at hx125
          subst hR133
          refine WL.vS hS hE (runs_plain rfl) (Gives.idx hE k120 rfl rfl sl44 rfl hlt124 (h114.aok hlt124)) rfl ?_; clear hE a; intro a hE
          refine WL.vS hS hE (runs_plain rfl) (Gives.load1 hE rfl (fun w h => hat134 w _ h) ty3) rfl ?_; clear hE a; intro a hE
          refine WL.vS hS hE (runs_plain rfl) (Gives.p hE rfl) rfl ?_; clear hE a; intro a hE
          refine WL.nil ?_
          refine W.seq ?_
          refine W.gen fun K135 hK135 => ?_
          refine W.regionE (sel (fun w => St w s (vecC 166 1 (some ⟨b52, 0, none⟩) 7 7 cs106 :: pt b51 (.cells (FleetLimits.cells x2).toArray 24 (0, 0)) :: R)) (fun w => St w s (vecC 166 1 (some ⟨b52, 0, none⟩) 7 7 cs106 :: pt b51 (.cells (FleetLimits.cells x2).toArray 24 (0, 0)) :: R))) (fun b i => cond b ([0, 1, 2, 3, 4, 5, 6, 7, 8, 9, 10, 11].contains i) ([0, 1, 2, 3, 4, 5, 6, 7, 8, 9, 10, 11].contains i)) mixed ?_
          replace hS := hS.drew
          refine Rg.takeP (i := 0) hE rfl (by kernel_rfl) (runs_plain rfl) (Gives.p hE rfl) rfl (tw_sel (fun _ => hS) (fun _ => hS)) ?_; clear hE a; intro a hE
          refine Rg.takeP (i := 1) hE rfl (by kernel_rfl) (runs_plain rfl) (Gives.p hE rfl) rfl (tw_sel (fun _ => hS) (fun _ => hS)) ?_; clear hE a; intro a hE
          obtain ⟨x136, hx137, hq118⟩ := bindS hq118
          obtain ⟨hi138, hlt139, hy140⟩ := gx_some hx137
          obtain ⟨cs141, hl142, hR143, hat144⟩ := h0.at hy140
          subst hR143
          refine Rg.takeP (i := 2) hE rfl (by kernel_rfl) (runs_plain rfl) (Gives.idx hE (x60).toNat rfl rfl sl22 hi138 hlt139 (h0.aok hlt139)) rfl (tw_sel (fun _ => hS) (fun _ => hS)) ?_; clear hE a; intro a hE
          have hT := tw_sel (A := fun w => St w s (vecC 166 1 (some ⟨b52, 0, none⟩) 7 7 cs106 :: pt b51 (.cells (FleetLimits.cells x2).toArray 24 (0, 0)) :: R)) (B := fun w => St w s (vecC 166 1 (some ⟨b52, 0, none⟩) 7 7 cs106 :: pt b51 (.cells (FleetLimits.cells x2).toArray 24 (0, 0)) :: R)) (w := _) (x := true) (y := true) (fun _ => hS) (fun _ => hS)
          have hF := hS; replace hS := hS
          refine Rg.take (i := 3) true rfl hE rfl (by kernel_rfl) (runs_plain rfl) (Gives.loadA hE rfl (fun w h => hat144 w _ h) ty126) rfl hT ?_; clear hE a; intro a hE
          replace hS := hF; clear hF hT
          refine Rg.takeP (i := 4) hE rfl (by kernel_rfl) (runs_plain rfl) (Gives.p hE rfl) rfl (tw_sel (fun _ => hS) (fun _ => hS)) ?_; clear hE a; intro a hE
          refine Rg.takeP (i := 5) hE rfl (by kernel_rfl) (runs_plain rfl) (Gives.p hE rfl) rfl (tw_sel (fun _ => hS) (fun _ => hS)) ?_; clear hE a; intro a hE
          obtain ⟨x145, hx146, hq118⟩ := bindS hq118
          obtain ⟨hi147, hlt148, hy149⟩ := gx_some hx146
          obtain ⟨cs150, hl151, hR152, hat153⟩ := h0.at hy149
          subst hR152
          refine Rg.takeP (i := 6) hE rfl (by kernel_rfl) (runs_plain rfl) (Gives.idx hE (x121).toNat rfl rfl sl22 hi147 hlt148 (h0.aok hlt148)) rfl (tw_sel (fun _ => hS) (fun _ => hS)) ?_; clear hE a; intro a hE
          have hT := tw_sel (A := fun w => St w s (vecC 166 1 (some ⟨b52, 0, none⟩) 7 7 cs106 :: pt b51 (.cells (FleetLimits.cells x2).toArray 24 (0, 0)) :: R)) (B := fun w => St w s (vecC 166 1 (some ⟨b52, 0, none⟩) 7 7 cs106 :: pt b51 (.cells (FleetLimits.cells x2).toArray 24 (0, 0)) :: R)) (w := _) (x := true) (y := true) (fun _ => hS) (fun _ => hS)
          have hF := hS; replace hS := hS
          refine Rg.take (i := 7) true rfl hE rfl (by kernel_rfl) (runs_plain rfl) (Gives.loadA hE rfl (fun w h => hat153 w _ h) ty126) rfl hT ?_; clear hE a; intro a hE
          replace hS := hF; clear hF hT
          suffices key : ∀ b154 b155 (a : Act) (w : World), Sl 3 RFleetShift s a0 c0 x0 → Sl 1 (RI .i64) s a1 c1 x1 → Sl 1 (RI .i64) s a111 c112 x109 → Ev 1 (RI .i64) s cs106 x104 → (x104).length = 7 → Rep a 111 [(0, .slice a0 x0.length c0), (1, .slice a1 x1.length c1), (5, .pointer (some ⟨b51, 0, none⟩)), (6, .bool false), (7, .bool q129), (8, .bool false), (9, .pointer (some ⟨b52, 0, none⟩)), (11, .int .i64 x60), (14, .pointer (some ⟨b154, 0, none⟩)), (15, .pointer (some ⟨b155, 0, none⟩)), (20, .slice a1 x1.length c1), (21, .int .i64 ((x1).length : Int)), (22, .int .i64 ((k59 : Nat) : Int)), (38, .slice a111 x109.length c112), (39, .int .i64 ((x109).length : Int)), (40, .int .i64 ((k120 : Nat) : Int))] → St w s (pt b155 (.cells (FleetShift.cells x145).toArray 126 (0, 0)) :: pt b154 (.cells (FleetShift.cells x136).toArray 126 (0, 0)) :: vecC 166 1 (some ⟨b52, 0, none⟩) 7 7 cs106 :: pt b51 (.cells (FleetLimits.cells x2).toArray 24 (0, 0)) :: R) → K135.nor a w by
            refine Rg.many 8 [9] (by kernel_rfl) ⟨?_, ?_, trivial⟩
            · refine Br.mk (i := 8) true true rfl (by kernel_rfl) (by kernel_rfl) ?_
              refine WL.alloc hE hS (runs_plain rfl) zr126 rfl ?_; clear hE hS a w; intro b154 a w hE hS
              refine WL.nil ?_
              refine ⟨⟨fun _ => (hS.tail), fun _ => (hS.tail)⟩, ?_⟩
              refine Rg.one (i := 9) true true rfl (by kernel_rfl) (by kernel_rfl) (by kernel_rfl) ?_
              refine WL.alloc hE hS (runs_plain rfl) zr126 rfl ?_; clear hE hS a w; intro b155 a w hE hS
              refine WL.nil ?_
              refine ⟨⟨fun _ => ((hS.tail).tail), fun _ => ((hS.tail).tail)⟩, ?_⟩
              refine Rg.one (i := 10) true true rfl (by kernel_rfl) (by kernel_rfl) (by kernel_rfl) ?_
              refine WL.storeI hE hS 1 rfl (FleetShift.cells x136) (runs_plain rfl) rfl rfl rfl ty126 rfl rfl rfl rfl ?_; clear hE hS a w; intro a w hE hS
              refine WL.nil ?_
              refine ⟨⟨fun _ => ((hS.tail).tail), fun _ => ((hS.tail).tail)⟩, ?_⟩
              refine Rg.one (i := 11) true true rfl (by kernel_rfl) (by kernel_rfl) (by kernel_rfl) ?_
              refine WL.storeI hE hS 0 rfl (FleetShift.cells x145) (runs_plain rfl) rfl rfl rfl ty126 rfl rfl rfl rfl ?_; clear hE hS a w; intro a w hE hS
              refine WL.nil ?_
              refine ⟨⟨fun _ => ((hS.tail).tail), fun _ => ((hS.tail).tail)⟩, ?_⟩
              refine Rg.done (by kernel_rfl) ?_
              exact key _ _ _ _ h0 h1 h114 h107 hn108 (hE.pick _ ⟨rfl, rfl, rfl, rfl, rfl, rfl, rfl, rfl, rfl, rfl, rfl, rfl, rfl, rfl, rfl, rfl, trivial⟩) hS
            · refine Br.mk (i := 9) true true rfl (by kernel_rfl) (by kernel_rfl) ?_
              refine WL.alloc hE hS (runs_plain rfl) zr126 rfl ?_; clear hE hS a w; intro b155 a w hE hS
              refine WL.nil ?_
              refine ⟨⟨fun _ => (hS.tail), fun _ => (hS.tail)⟩, ?_⟩
              refine Rg.one (i := 8) true true rfl (by kernel_rfl) (by kernel_rfl) (by kernel_rfl) ?_
              refine WL.alloc hE hS (runs_plain rfl) zr126 rfl ?_; clear hE hS a w; intro b154 a w hE hS
              refine WL.nil ?_
              refine ⟨⟨fun _ => ((hS.tail).tail), fun _ => ((hS.tail).tail)⟩, ?_⟩
              refine Rg.one (i := 10) true true rfl (by kernel_rfl) (by kernel_rfl) (by kernel_rfl) ?_
              refine WL.storeI hE hS 0 rfl (FleetShift.cells x136) (runs_plain rfl) rfl rfl rfl ty126 rfl rfl rfl rfl ?_; clear hE hS a w; intro a w hE hS
              refine WL.nil ?_
              refine ⟨⟨fun _ => ((hS.tail).tail), fun _ => ((hS.tail).tail)⟩, ?_⟩
              refine Rg.one (i := 11) true true rfl (by kernel_rfl) (by kernel_rfl) (by kernel_rfl) ?_
              refine WL.storeI hE hS 1 rfl (FleetShift.cells x145) (runs_plain rfl) rfl rfl rfl ty126 rfl rfl rfl rfl ?_; clear hE hS a w; intro a w hE hS
              refine WL.nil ?_
              refine ⟨⟨fun _ => ((hS.tail).tail), fun _ => ((hS.tail).tail)⟩, ?_⟩
              refine Rg.done (by kernel_rfl) ?_
              replace hS := hS.front 3 rfl
              replace hS := hS.front 3 rfl
              replace hS := hS.front 2 rfl
              replace hS := hS.front 3 rfl
              exact key _ _ _ _ h0 h1 h114 h107 hn108 (hE.pick _ ⟨rfl, rfl, rfl, rfl, rfl, rfl, rfl, rfl, rfl, rfl, rfl, rfl, rfl, rfl, rfl, rfl, trivial⟩) hS
          clear hE hS a w; intro b154 b155 a w h0 h1 h114 h107 hn108 hE hS
          subst hK135
          refine W.seq ?_
          refine W.seq ?_
          refine W.region ?_
          refine WL.vS hS hE (runs_plain rfl) (Gives.fld hE rfl fl126_0) rfl ?_; clear hE a; intro a hE
          refine WL.vS hS hE (runs_plain rfl) (Gives.loadB hE 1 rfl rfl rfl ty3) rfl ?_; clear hE a; intro a hE
          refine WL.vS hS hE (runs_plain rfl) (Gives.fld hE rfl fl126_0) rfl ?_; clear hE a; intro a hE
          refine WL.vS hS hE (runs_plain rfl) (Gives.loadB hE 0 rfl rfl rfl ty3) rfl ?_; clear hE a; intro a hE
          refine WL.vS hS hE (runs_plain rfl) (Gives.p hE rfl) rfl ?_; clear hE a; intro a hE
          refine WL.nil ?_
          obtain ⟨q158, hq157, hq118⟩ := bndS hq118
          refine W.cut (fun a w => ∃ (q161 : Int), ∃ (q162 : Int), ∃ (q163 : Int), ∃ (q164 : Int), ∃ (q165 : Int), ∃ (q166 : Int), (q161, q162, q163, q164, q165, q166) = q158 ∧ Rep a 111 [(0, .slice a0 x0.length c0), (1, .slice a1 x1.length c1), (5, .pointer (some ⟨b51, 0, none⟩)), (6, .bool false), (7, .bool q129), (8, .bool false), (9, .pointer (some ⟨b52, 0, none⟩)), (11, .int .i64 x60), (14, .pointer (some ⟨b154, 0, none⟩)), (15, .pointer (some ⟨b155, 0, none⟩)), (20, .slice a1 x1.length c1), (21, .int .i64 ((x1).length : Int)), (22, .int .i64 ((k59 : Nat) : Int)), (38, .slice a111 x109.length c112), (39, .int .i64 ((x109).length : Int)), (40, .int .i64 ((k120 : Nat) : Int))] ∧ St w s (pt b155 (.cells #[.int .i64 q164, .int .i64 q165, .int .i64 q166] 126 (0, 0)) :: pt b154 (.cells #[.int .i64 q161, .int .i64 q162, .int .i64 q163] 126 (0, 0)) :: vecC 166 1 (some ⟨b52, 0, none⟩) 7 7 cs106 :: pt b51 (.cells (FleetLimits.cells x2).toArray 24 (0, 0)) :: R)) ?_ ?_
          · refine W.gen fun K167 hK167 => ?_
            refine W.cond hE rfl (fun hc168 => ?_) (fun hc168 => ?_)
            · replace hq157 := iteT hc168 hq157
              refine W.region ?_
              refine WL.vS hS hE (runs_plain rfl) (Gives.loadBA hE 0 rfl rfl ty126) rfl ?_; clear hE a; intro a hE
              refine WL.vS hS hE (runs_plain rfl) (Gives.loadBA hE 1 rfl rfl ty126) rfl ?_; clear hE a; intro a hE
              refine WL.storeI hE hS 1 rfl (FleetShift.cells x145) (runs_plain rfl) rfl rfl rfl ty126 rfl rfl rfl rfl ?_; clear hE hS a w; intro a w hE hS
              refine WL.storeI hE hS 0 rfl (FleetShift.cells x136) (runs_plain rfl) rfl rfl rfl ty126 rfl rfl rfl rfl ?_; clear hE hS a w; intro a w hE hS
              refine WL.nil ?_
              subst hK167
              exact ⟨x145.Day, x145.Start, x145.End, x136.Day, x136.Start, x136.End, hq157, hE.pick _ ⟨rfl, rfl, rfl, rfl, rfl, rfl, rfl, rfl, rfl, rfl, rfl, rfl, rfl, rfl, rfl, rfl, trivial⟩, hS⟩
            · replace hq157 := iteF hc168 hq157
              refine W.skip ?_
              subst hK167
              exact ⟨x136.Day, x136.Start, x136.End, x145.Day, x145.Start, x145.End, hq157, hE.pick _ ⟨rfl, rfl, rfl, rfl, rfl, rfl, rfl, rfl, rfl, rfl, rfl, rfl, rfl, rfl, rfl, rfl, trivial⟩, hS⟩
          · clear hE hS a w; rintro a w ⟨q161, q162, q163, q164, q165, q166, rfl, hE, hS⟩
            dsimp only at hq118
            obtain ⟨q170, hq169, hq118⟩ := bndS hq118
            refine W.cut (fun a w => ∃ (q173 : Bool), q173 = q170 ∧ Rep a 111 [(0, .slice a0 x0.length c0), (1, .slice a1 x1.length c1), (5, .pointer (some ⟨b51, 0, none⟩)), (6, .bool false), (7, .bool q173), (8, .bool false), (9, .pointer (some ⟨b52, 0, none⟩)), (11, .int .i64 x60), (20, .slice a1 x1.length c1), (21, .int .i64 ((x1).length : Int)), (22, .int .i64 ((k59 : Nat) : Int)), (38, .slice a111 x109.length c112), (39, .int .i64 ((x109).length : Int)), (40, .int .i64 ((k120 : Nat) : Int))] ∧ St w s (pt b155 (.cells #[.int .i64 q164, .int .i64 q165, .int .i64 q166] 126 (0, 0)) :: pt b154 (.cells #[.int .i64 q161, .int .i64 q162, .int .i64 q163] 126 (0, 0)) :: vecC 166 1 (some ⟨b52, 0, none⟩) 7 7 cs106 :: pt b51 (.cells (FleetLimits.cells x2).toArray 24 (0, 0)) :: R)) ?_ ?_
            · refine W.gen fun K174 hK174 => ?_
              refine W.region ?_
              refine WL.vS hS hE (runs_plain rfl) (Gives.p hE rfl) rfl ?_; clear hE a; intro a hE
              refine WL.vS hS hE (runs_plain rfl) (Gives.p hE rfl) rfl ?_; clear hE a; intro a hE
              rcases Bool.eq_false_or_eq_true q129 with hg175 | hg175
              · replace hq169 := iteT hg175 hq169
                refine WL.no hE (runs_not hE rfl rfl rfl (by rw [hg175]; decide)) rfl ?_; clear hE a; intro a hE
                refine WL.no hE (runs_not hE rfl rfl rfl (by rw [hg175]; decide)) rfl ?_; clear hE a; intro a hE
                refine WL.no hE (runs_not hE rfl rfl rfl (by rw [hg175]; decide)) rfl ?_; clear hE a; intro a hE
                refine WL.no hE (runs_not hE rfl rfl rfl (by rw [hg175]; decide)) rfl ?_; clear hE a; intro a hE
                refine WL.no hE (runs_not hE rfl rfl rfl (by rw [hg175]; decide)) rfl ?_; clear hE a; intro a hE
                refine WL.no hE (runs_not hE rfl rfl rfl (by rw [hg175]; decide)) rfl ?_; clear hE a; intro a hE
                refine WL.no hE (runs_undef hE rfl rfl rfl) rfl ?_; clear hE a; intro a hE
                refine WL.no hE (runs_undef hE rfl rfl rfl) rfl ?_; clear hE a; intro a hE
                refine WL.no hE (runs_undef hE rfl rfl rfl) rfl ?_; clear hE a; intro a hE
                refine WL.no hE (runs_undef hE rfl rfl rfl) rfl ?_; clear hE a; intro a hE
                refine WL.no hE (runs_undef hE rfl rfl rfl) rfl ?_; clear hE a; intro a hE
                refine WL.no hE (runs_undef hE rfl rfl rfl) rfl ?_; clear hE a; intro a hE
                refine WL.no hE (runs_undef hE rfl rfl rfl) rfl ?_; clear hE a; intro a hE
                refine WL.no hE (runs_undef hE rfl rfl rfl) rfl ?_; clear hE a; intro a hE
                refine WL.no hE (runs_undef hE rfl rfl rfl) rfl ?_; clear hE a; intro a hE
                refine WL.no hE (runs_undef hE rfl rfl rfl) rfl ?_; clear hE a; intro a hE
                refine WL.no hE (runs_undef hE rfl rfl rfl) rfl ?_; clear hE a; intro a hE
                refine WL.no hE (runs_undef hE rfl rfl rfl) rfl ?_; clear hE a; intro a hE
                refine WL.no hE (runs_undef hE rfl rfl rfl) rfl ?_; clear hE a; intro a hE
                refine WL.no hE (runs_undef hE rfl rfl rfl) rfl ?_; clear hE a; intro a hE
                refine WL.no hE (runs_undef hE rfl rfl rfl) rfl ?_; clear hE a; intro a hE
                refine WL.no hE (runs_undef hE rfl rfl rfl) rfl ?_; clear hE a; intro a hE
                refine WL.no hE (runs_not hE rfl rfl rfl (by rw [hg175]; decide)) rfl ?_; clear hE a; intro a hE
                refine WL.vS hS hE (runs_plain rfl) (Gives.pickT hE rfl hg175 rfl) rfl ?_; clear hE a; intro a hE
                refine WL.vS hS hE (runs_plain rfl) (Gives.p hE rfl) rfl ?_; clear hE a; intro a hE
                refine WL.nil ?_
                subst hK174
                exact ⟨true, hq169, hE.pick _ ⟨rfl, rfl, rfl, rfl, rfl, rfl, rfl, rfl, rfl, rfl, rfl, rfl, rfl, rfl, trivial⟩, hS⟩
              · replace hq169 := iteF hg175 hq169
                refine WL.vS hS hE (runs_if hE rfl rfl rfl hg175) (Gives.fld hE rfl fl126_0) rfl ?_; clear hE a; intro a hE
                refine WL.vS hS hE (runs_if hE rfl rfl rfl hg175) (Gives.loadB hE 1 rfl rfl rfl ty3) rfl ?_; clear hE a; intro a hE
                refine WL.vS hS hE (runs_if hE rfl rfl rfl hg175) (Gives.fld hE rfl fl126_0) rfl ?_; clear hE a; intro a hE
                refine WL.vS hS hE (runs_if hE rfl rfl rfl hg175) (Gives.loadB hE 0 rfl rfl rfl ty3) rfl ?_; clear hE a; intro a hE
                refine WL.vS hS hE (runs_if hE rfl rfl rfl hg175) (Gives.p hE rfl) rfl ?_; clear hE a; intro a hE
                refine WL.vS hS hE (runs_if hE rfl rfl rfl hg175) (Gives.p hE rfl) rfl ?_; clear hE a; intro a hE
                rcases Bool.eq_false_or_eq_true (q161 != q164) with hg176 | hg176
                · replace hq169 := iteT hg176 hq169
                  refine WL.vS hS hE (runs_if hE rfl rfl rfl hg176) (Gives.fld hE rfl fl126_0) rfl ?_; clear hE a; intro a hE
                  refine WL.vS hS hE (runs_if hE rfl rfl rfl hg176) (Gives.loadB hE 0 rfl rfl rfl ty3) rfl ?_; clear hE a; intro a hE
                  refine WL.vS hS hE (runs_if hE rfl rfl rfl hg176) (Gives.p hE rfl) rfl ?_; clear hE a; intro a hE
                  refine WL.vS hS hE (runs_if hE rfl rfl rfl hg176) (Gives.fld hE rfl fl126_1) rfl ?_; clear hE a; intro a hE
                  refine WL.vS hS hE (runs_if hE rfl rfl rfl hg176) (Gives.loadB hE 0 rfl rfl rfl ty3) rfl ?_; clear hE a; intro a hE
                  refine WL.vS hS hE (runs_if hE rfl rfl rfl hg176) (Gives.p hE rfl) rfl ?_; clear hE a; intro a hE
                  refine WL.vS hS hE (runs_if hE rfl rfl rfl hg176) (Gives.fld hE rfl fl126_0) rfl ?_; clear hE a; intro a hE
                  refine WL.vS hS hE (runs_if hE rfl rfl rfl hg176) (Gives.loadB hE 1 rfl rfl rfl ty3) rfl ?_; clear hE a; intro a hE
                  refine WL.vS hS hE (runs_if hE rfl rfl rfl hg176) (Gives.p hE rfl) rfl ?_; clear hE a; intro a hE
                  refine WL.vS hS hE (runs_if hE rfl rfl rfl hg176) (Gives.p hE rfl) rfl ?_; clear hE a; intro a hE
                  refine WL.vS hS hE (runs_if hE rfl rfl rfl hg176) (Gives.fld hE rfl fl126_2) rfl ?_; clear hE a; intro a hE
                  refine WL.vS hS hE (runs_if hE rfl rfl rfl hg176) (Gives.loadB hE 1 rfl rfl rfl ty3) rfl ?_; clear hE a; intro a hE
                  refine WL.vS hS hE (runs_if hE rfl rfl rfl hg176) (Gives.p hE rfl) rfl ?_; clear hE a; intro a hE
                  refine WL.vS hS hE (runs_if hE rfl rfl rfl hg176) (Gives.fld hE rfl fl24_5) rfl ?_; clear hE a; intro a hE
                  refine WL.vS hS hE (runs_if hE rfl rfl rfl hg176) (Gives.loadB hE 3 rfl rfl rfl ty3) rfl ?_; clear hE a; intro a hE
                  refine WL.vS hS hE (runs_if hE rfl rfl rfl hg176) (Gives.p hE rfl) rfl ?_; clear hE a; intro a hE
                  refine WL.vS hS hE (runs_if hE rfl rfl rfl hg175) (Gives.pickT hE rfl hg176 rfl) rfl ?_; clear hE a; intro a hE
                  refine WL.vS hS hE (runs_plain rfl) (Gives.pickF hE rfl hg175 rfl) rfl ?_; clear hE a; intro a hE
                  refine WL.vS hS hE (runs_plain rfl) (Gives.p hE rfl) rfl ?_; clear hE a; intro a hE
                  refine WL.nil ?_
                  subst hK174
                  exact ⟨decide ((w64 ((w64 ((w64 ((w64 (q164 * 86400)) + q165)) - (w64 (q161 * 86400)))) - q163)) < x2.Rest), hq169, hE.pick _ ⟨rfl, rfl, rfl, rfl, rfl, rfl, rfl, rfl, rfl, rfl, rfl, rfl, rfl, rfl, trivial⟩, hS⟩
                · replace hq169 := iteF hg176 hq169
                  refine WL.no hE (runs_not hE rfl rfl rfl (by rw [hg176]; decide)) rfl ?_; clear hE a; intro a hE
                  refine WL.no hE (runs_not hE rfl rfl rfl (by rw [hg176]; decide)) rfl ?_; clear hE a; intro a hE
                  refine WL.no hE (runs_not hE rfl rfl rfl (by rw [hg176]; decide)) rfl ?_; clear hE a; intro a hE
                  refine WL.no hE (runs_not hE rfl rfl rfl (by rw [hg176]; decide)) rfl ?_; clear hE a; intro a hE
                  refine WL.no hE (runs_not hE rfl rfl rfl (by rw [hg176]; decide)) rfl ?_; clear hE a; intro a hE
                  refine WL.no hE (runs_not hE rfl rfl rfl (by rw [hg176]; decide)) rfl ?_; clear hE a; intro a hE
                  refine WL.no hE (runs_not hE rfl rfl rfl (by rw [hg176]; decide)) rfl ?_; clear hE a; intro a hE
                  refine WL.no hE (runs_not hE rfl rfl rfl (by rw [hg176]; decide)) rfl ?_; clear hE a; intro a hE
                  refine WL.no hE (runs_not hE rfl rfl rfl (by rw [hg176]; decide)) rfl ?_; clear hE a; intro a hE
                  refine WL.no hE (runs_not hE rfl rfl rfl (by rw [hg176]; decide)) rfl ?_; clear hE a; intro a hE
                  refine WL.no hE (runs_not hE rfl rfl rfl (by rw [hg176]; decide)) rfl ?_; clear hE a; intro a hE
                  refine WL.no hE (runs_not hE rfl rfl rfl (by rw [hg176]; decide)) rfl ?_; clear hE a; intro a hE
                  refine WL.no hE (runs_not hE rfl rfl rfl (by rw [hg176]; decide)) rfl ?_; clear hE a; intro a hE
                  refine WL.no hE (runs_not hE rfl rfl rfl (by rw [hg176]; decide)) rfl ?_; clear hE a; intro a hE
                  refine WL.no hE (runs_not hE rfl rfl rfl (by rw [hg176]; decide)) rfl ?_; clear hE a; intro a hE
                  refine WL.no hE (runs_not hE rfl rfl rfl (by rw [hg176]; decide)) rfl ?_; clear hE a; intro a hE
                  refine WL.vS hS hE (runs_if hE rfl rfl rfl hg175) (Gives.pickF hE rfl hg176 rfl) rfl ?_; clear hE a; intro a hE
                  refine WL.vS hS hE (runs_plain rfl) (Gives.pickF hE rfl hg175 rfl) rfl ?_; clear hE a; intro a hE
                  refine WL.vS hS hE (runs_plain rfl) (Gives.p hE rfl) rfl ?_; clear hE a; intro a hE
                  refine WL.nil ?_
                  subst hK174
                  exact ⟨false, hq169, hE.pick _ ⟨rfl, rfl, rfl, rfl, rfl, rfl, rfl, rfl, rfl, rfl, rfl, rfl, rfl, rfl, trivial⟩, hS⟩
            · clear hE hS a w; rintro a w ⟨q173, rfl, hE, hS⟩
              refine W.region ?_
              refine WL.vS hS hE (runs_plain rfl) (Gives.inc hE rfl (by have := h114.small; omega)) rfl ?_; clear hE a; intro a hE
              refine WL.vS hS hE (runs_plain rfl) (Gives.p hE rfl) rfl ?_; clear hE a; intro a hE
              refine WL.nil ?_
              replace hS := hS.tail
              replace hS := hS.tail
              subst hK130
              exact ⟨rest122.length, Nat.lt_succ_self _, rest122, k120 + 1, q173, rfl, hd123, hq118, hE.pick _ ⟨rfl, rfl, rfl, rfl, rfl, rfl, rfl, rfl, rfl, rfl, rfl, rfl, rfl, rfl, trivial⟩, hS⟩
      · clear hE hS a w; rintro a w ⟨q129, rfl, hE, hS⟩
        refine W.region ?_
        refine WL.vS hS hE (runs_plain rfl) (Gives.inc hE rfl (by have := h1.small; omega)) rfl ?_; clear hE a; intro a hE
        refine WL.vS hS hE (runs_plain rfl) (Gives.p hE rfl) rfl ?_; clear hE a; intro a hE
        refine WL.nil ?_
        subst hK75
        exact ⟨rest61.length, Nat.lt_succ_self _, rest61, k59 + 1, q129, x104, cs106, rfl, hd62, hq57, h107, hn108, hE.pick _ ⟨rfl, rfl, rfl, rfl, rfl, rfl, rfl, rfl, rfl, rfl, trivial⟩, hS⟩
  · clear hE hS a w; rintro a w ⟨q68, q69, cs73, rfl, h72, hn74, hE, hS⟩
    dsimp only at hr
    refine W.seq ?_
    refine W.region ?_
    refine WL.vS hS hE (runs_plain rfl) (Gives.p hE rfl) rfl ?_; clear hE a; intro a hE
    refine WL.nil ?_
    refine W.seq ?_
    refine W.seq ?_
    refine W.region ?_
    refine WL.vS hS hE (runs_plain rfl) (Gives.loadArr hE 0 rfl rfl (by decide) ty166) rfl ?_; clear hE a; intro a hE
    refine WL.vS hS hE (runs_plain rfl) (Gives.p hE rfl) rfl ?_; clear hE a; intro a hE
    refine WL.nil ?_
    replace hS := hS.tail
    obtain ⟨q178, hq177, hr⟩ := bndS hr
    refine W.cut (fun a w => ∃ (q188 : Bool), ∃ (q189 : Bool), ∃ (q190 : Int), (q188, q189, q190) = q178 ∧ Rep a 111 [(6, .bool q188), (7, .bool q68), (8, .bool q189)] ∧ St w s (pt b51 (.cells (FleetLimits.cells x2).toArray 24 (0, 0)) :: R)) ?_ ?_
    · refine W.block ?_
      refine W.loop (fun m a w => ∃ (rest181 : List Int) (k179 : Nat), ∃ (q188 : Bool), ∃ (q189 : Bool), ∃ (q190 : Int), rest181.length = m ∧ q69.drop k179 = rest181 ∧ FleetdriverBreaks.loop3 x2 rest181 q188 q189 q190 = q178 ∧ Rep a 111 [(5, .pointer (some ⟨b51, 0, none⟩)), (6, .bool q188), (7, .bool q68), (8, .bool q189), (16, .int .i64 q190), (87, .agg cs73.toArray), (88, .int .i64 ((k179 : Nat) : Int))] ∧ St w s (pt b51 (.cells (FleetLimits.cells x2).toArray 24 (0, 0)) :: R)) (m := q69.length) ⟨q69, 0, false, false, 0, rfl, rfl, hq177, hE.pick _ ⟨rfl, rfl, rfl, rfl, rfl, rfl, rfl, trivial⟩, hS⟩ ?_
      clear hE hS a w hq177; rintro m185 a w ⟨rest181, k179, q188, q189, q190, rfl, hd182, hq177, hE, hS⟩
      refine W.gen fun K191 hK191 => ?_
      rcases rest181 with _ | ⟨x180, rest181⟩
      · have hlt183 : 7 ≤ k179 := (by have h1 := drop_nil hd182; have h2 := hn74; omega)
        refine W.seq ?_
        refine W.region ?_
        refine WL.vS hS hE (runs_plain rfl) (Gives.p hE rfl) rfl ?_; clear hE a; intro a hE
        refine WL.nil ?_
        refine W.seq ?_
        refine W.condF hE rfl (decide_eq_false (by omega)) ?_
        subst hK191
        refine W.exit rfl ?_
        exact ⟨q188, q189, q190, hq177, hE.pick _ ⟨rfl, rfl, rfl, trivial⟩, hS⟩
      · obtain ⟨hlt183, hx184, hd182⟩ := drop_cons hd182
        replace hlt183 : k179 < 7 := (by have h1 := hlt183; have h2 := hn74; omega)
        rw [FleetdriverBreaks.loop3] at hq177
        refine W.seq ?_
        refine W.region ?_
        refine WL.vS hS hE (runs_plain rfl) (Gives.p hE rfl) rfl ?_; clear hE a; intro a hE
        refine WL.nil ?_
        refine W.seq ?_
        refine W.condT hE rfl (decide_eq_true (by omega)) ?_
        refine W.skip ?_
        refine W.seq ?_
        refine W.block ?_
        refine W.seq ?_
        refine W.region ?_
        refine WL.vS hS hE (runs_plain rfl) (Gives.indexM hE (f := (Value.int .i64)) (l := q69) (k := k179) ar166 rfl rfl h72.ints hn74 hx184) rfl ?_; clear hE a; intro a hE
        refine WL.vS hS hE (runs_plain rfl) (Gives.p hE rfl) rfl ?_; clear hE a; intro a hE
        refine WL.nil ?_
        refine W.seq ?_
        obtain ⟨q193, hq192, hq177⟩ := bndS hq177
        refine W.cut (fun a w => ∃ (q196 : Bool), q196 = q193 ∧ Rep a 111 [(5, .pointer (some ⟨b51, 0, none⟩)), (6, .bool q196), (7, .bool q68), (8, .bool q189), (16, .int .i64 q190), (18, .int .i64 x180), (87, .agg cs73.toArray), (88, .int .i64 ((k179 : Nat) : Int))] ∧ St w s (pt b51 (.cells (FleetLimits.cells x2).toArray 24 (0, 0)) :: R)) ?_ ?_
        · refine W.gen fun K197 hK197 => ?_
          refine W.region ?_
          refine WL.vS hS hE (runs_plain rfl) (Gives.p hE rfl) rfl ?_; clear hE a; intro a hE
          refine WL.vS hS hE (runs_plain rfl) (Gives.p hE rfl) rfl ?_; clear hE a; intro a hE
          rcases Bool.eq_false_or_eq_true q188 with hg198 | hg198
          · replace hq192 := iteT hg198 hq192
            refine WL.no hE (runs_not hE rfl rfl rfl (by rw [hg198]; decide)) rfl ?_; clear hE a; intro a hE
            refine WL.no hE (runs_not hE rfl rfl rfl (by rw [hg198]; decide)) rfl ?_; clear hE a; intro a hE
            refine WL.vS hS hE (runs_plain rfl) (Gives.pickT hE rfl hg198 rfl) rfl ?_; clear hE a; intro a hE
            refine WL.vS hS hE (runs_plain rfl) (Gives.p hE rfl) rfl ?_; clear hE a; intro a hE
            refine WL.nil ?_
            subst hK197
            exact ⟨true, hq192, hE.pick _ ⟨rfl, rfl, rfl, rfl, rfl, rfl, rfl, rfl, trivial⟩, hS⟩
          · replace hq192 := iteF hg198 hq192
            refine WL.vS hS hE (runs_if hE rfl rfl rfl hg198) (Gives.p hE rfl) rfl ?_; clear hE a; intro a hE
            refine WL.vS hS hE (runs_if hE rfl rfl rfl hg198) (Gives.p hE rfl) rfl ?_; clear hE a; intro a hE
            refine WL.vS hS hE (runs_plain rfl) (Gives.pickF hE rfl hg198 rfl) rfl ?_; clear hE a; intro a hE
            refine WL.vS hS hE (runs_plain rfl) (Gives.p hE rfl) rfl ?_; clear hE a; intro a hE
            refine WL.nil ?_
            subst hK197
            exact ⟨decide (x180 > 1), hq192, hE.pick _ ⟨rfl, rfl, rfl, rfl, rfl, rfl, rfl, rfl, trivial⟩, hS⟩
        · clear hE hS a w; rintro a w ⟨q196, rfl, hE, hS⟩
          refine W.seq ?_
          refine W.seq ?_
          refine W.region ?_
          refine WL.vS hS hE (runs_plain rfl) (Gives.p hE rfl) rfl ?_; clear hE a; intro a hE
          refine WL.vS hS hE (runs_plain rfl) (Gives.p hE rfl) rfl ?_; clear hE a; intro a hE
          refine WL.nil ?_
          refine W.cond hE rfl (fun hc199 => ?_) (fun hc199 => ?_)
          · replace hq177 := iteT hc199 hq177
            refine W.seq ?_
            refine W.region ?_
            refine WL.vS hS hE (runs_plain rfl) (Gives.p hE rfl) rfl ?_; clear hE a; intro a hE
            refine WL.nil ?_
            refine W.exit rfl ?_
            refine W.region ?_
            refine WL.vS hS hE (runs_plain rfl) (Gives.inc hE rfl (by omega)) rfl ?_; clear hE a; intro a hE
            refine WL.vS hS hE (runs_plain rfl) (Gives.p hE rfl) rfl ?_; clear hE a; intro a hE
            refine WL.nil ?_
            subst hK191
            exact ⟨rest181.length, Nat.lt_succ_self _, rest181, k179 + 1, q196, q189, 0, rfl, hd182, hq177, hE.pick _ ⟨rfl, rfl, rfl, rfl, rfl, rfl, rfl, trivial⟩, hS⟩
          · replace hq177 := iteF hc199 hq177
            refine W.skip ?_
            refine W.seq ?_
            refine W.region ?_
            refine WL.vS hS hE (runs_plain rfl) (Gives.p hE rfl) rfl ?_; clear hE a; intro a hE
            refine WL.vS hS hE (runs_plain rfl) (Gives.p hE rfl) rfl ?_; clear hE a; intro a hE
            refine WL.vS hS hE (runs_plain rfl) (Gives.p hE rfl) rfl ?_; clear hE a; intro a hE
            refine WL.nil ?_
            obtain ⟨q201, hq200, hq177⟩ := bndS hq177
            refine W.cut (fun a w => ∃ (q204 : Bool), q204 = q201 ∧ Rep a 111 [(5, .pointer (some ⟨b51, 0, none⟩)), (6, .bool q196), (7, .bool q68), (8, .bool q204), (16, .int .i64 (w64 (q190 + 1))), (87, .agg cs73.toArray), (88, .int .i64 ((k179 : Nat) : Int))] ∧ St w s (pt b51 (.cells (FleetLimits.cells x2).toArray 24 (0, 0)) :: R)) ?_ ?_
            · refine W.gen fun K205 hK205 => ?_
              refine W.region ?_
              refine WL.vS hS hE (runs_plain rfl) (Gives.p hE rfl) rfl ?_; clear hE a; intro a hE
              refine WL.vS hS hE (runs_plain rfl) (Gives.p hE rfl) rfl ?_; clear hE a; intro a hE
              rcases Bool.eq_false_or_eq_true q189 with hg206 | hg206
              · replace hq200 := iteT hg206 hq200
                refine WL.no hE (runs_not hE rfl rfl rfl (by rw [hg206]; decide)) rfl ?_; clear hE a; intro a hE
                refine WL.no hE (runs_not hE rfl rfl rfl (by rw [hg206]; decide)) rfl ?_; clear hE a; intro a hE
                refine WL.no hE (runs_not hE rfl rfl rfl (by rw [hg206]; decide)) rfl ?_; clear hE a; intro a hE
                refine WL.no hE (runs_not hE rfl rfl rfl (by rw [hg206]; decide)) rfl ?_; clear hE a; intro a hE
                refine WL.vS hS hE (runs_plain rfl) (Gives.pickT hE rfl hg206 rfl) rfl ?_; clear hE a; intro a hE
                refine WL.vS hS hE (runs_plain rfl) (Gives.p hE rfl) rfl ?_; clear hE a; intro a hE
                refine WL.nil ?_
                subst hK205
                exact ⟨true, hq200, hE.pick _ ⟨rfl, rfl, rfl, rfl, rfl, rfl, rfl, trivial⟩, hS⟩
              · replace hq200 := iteF hg206 hq200
                refine WL.vS hS hE (runs_if hE rfl rfl rfl hg206) (Gives.p hE rfl) rfl ?_; clear hE a; intro a hE
                refine WL.vS hS hE (runs_if hE rfl rfl rfl hg206) (Gives.fld hE rfl fl24_6) rfl ?_; clear hE a; intro a hE
                refine WL.vS hS hE (runs_if hE rfl rfl rfl hg206) (Gives.loadB hE 0 rfl rfl rfl ty3) rfl ?_; clear hE a; intro a hE
                refine WL.vS hS hE (runs_if hE rfl rfl rfl hg206) (Gives.p hE rfl) rfl ?_; clear hE a; intro a hE
                refine WL.vS hS hE (runs_plain rfl) (Gives.pickF hE rfl hg206 rfl) rfl ?_; clear hE a; intro a hE
                refine WL.vS hS hE (runs_plain rfl) (Gives.p hE rfl) rfl ?_; clear hE a; intro a hE
                refine WL.nil ?_
                subst hK205
                exact ⟨decide ((w64 (q190 + 1)) > x2.Row), hq200, hE.pick _ ⟨rfl, rfl, rfl, rfl, rfl, rfl, rfl, trivial⟩, hS⟩
            · clear hE hS a w; rintro a w ⟨q204, rfl, hE, hS⟩
              refine W.region ?_
              refine WL.vS hS hE (runs_plain rfl) (Gives.inc hE rfl (by omega)) rfl ?_; clear hE a; intro a hE
              refine WL.vS hS hE (runs_plain rfl) (Gives.p hE rfl) rfl ?_; clear hE a; intro a hE
              refine WL.nil ?_
              subst hK191
              exact ⟨rest181.length, Nat.lt_succ_self _, rest181, k179 + 1, q196, q204, (w64 (q190 + 1)), rfl, hd182, hq177, hE.pick _ ⟨rfl, rfl, rfl, rfl, rfl, rfl, rfl, trivial⟩, hS⟩
    · clear hE hS a w; rintro a w ⟨q188, q189, q190, rfl, hE, hS⟩
      dsimp only at hr
      refine W.seq ?_
      refine W.region ?_
      refine WL.vS hS hE (runs_plain rfl) (Gives.p hE rfl) rfl ?_; clear hE a; intro a hE
      refine WL.vS hS hE (runs_plain rfl) (Gives.p hE rfl) rfl ?_; clear hE a; intro a hE
      refine WL.vS hS hE (runs_plain rfl) (Gives.p hE rfl) rfl ?_; clear hE a; intro a hE
      refine WL.vS hS hE (runs_plain rfl) (Gives.p hE rfl) rfl ?_; clear hE a; intro a hE
      refine WL.vS hS hE (runs_plain rfl) (Gives.p hE rfl) rfl ?_; clear hE a; intro a hE
      refine WL.vS hS hE (runs_plain rfl) (Gives.p hE rfl) rfl ?_; clear hE a; intro a hE
      refine WL.nil ?_
      refine W.ret ?_
      refine finG (fn := Try.f94) (rs := [.tmp 6, .tmp 7, .tmp 8]) (vs := [_, _, _]) hE rfl ⟨rfl, rfl, rfl, trivial⟩ ?_
      obtain rfl := Option.some.inj hr
      replace hS := hS.tail
      exact ⟨rfl, hS⟩
set_option maxHeartbeats 8000000 in
theorem FleetjudgeRoster_1_ok  {w : World} {s : Sg} {R : List HP} {x0 : Int} (hS : St w s (R))  {r : Bool} (hr : FleetjudgeRoster_1 x0 = r) :
    Calls Try.prog 147 [.int .i64 x0].toArray w (fun e w => e = .returned (.bool r) ∧ St w s (R)) := by
  refine enter Try.func147 rfl rfl rfl fun a hE => ?_
  rw [FleetjudgeRoster_1] at hr
  refine W.seq ?_
  refine W.region ?_
  refine WL.vS hS hE (runs_plain rfl) (Gives.p hE rfl) rfl ?_; clear hE a; intro a hE
  refine WL.nil ?_
  refine W.seq ?_
  refine W.region ?_
  refine WL.vS hS hE (runs_plain rfl) (Gives.p hE rfl) rfl ?_; clear hE a; intro a hE
  refine WL.vS hS hE (runs_plain rfl) (Gives.p hE rfl) rfl ?_; clear hE a; intro a hE
  refine WL.vS hS hE (runs_plain rfl) (Gives.p hE rfl) rfl ?_; clear hE a; intro a hE
  refine WL.nil ?_
  refine W.ret ?_
  refine finG (fn := Try.f147) (rs := [.tmp 2]) (vs := [_]) hE rfl ⟨rfl, trivial⟩ ?_
  subst hr
  exact ⟨rfl, hS⟩
set_option maxHeartbeats 8000000 in
theorem SlicesIndexFuncLint_v1_ok  {w : World} {s : Sg} {R : List HP} {x0 : List Int} {a0 : Option Addr} {c0 : Nat} (hS : St w s (R)) (h0 : Sl 1 (RI .i64) s a0 c0 x0) {r : Int} (hr : SlicesIndexFuncLint_v1 x0 = r) :
    Calls Try.prog 72 [.slice a0 x0.length c0, .func (.func 147) #[] #[]].toArray w (fun e w => e = .returned (.int .i64 r) ∧ St w s (R)) := by
  refine enter Try.func72 rfl rfl rfl fun a hE => ?_
  rw [SlicesIndexFuncLint_v1] at hr
  refine W.seq ?_
  refine W.region ?_
  refine WL.vS hS hE (runs_plain rfl) (Gives.p hE rfl) rfl ?_; clear hE a; intro a hE
  refine WL.nil ?_
  refine W.seq ?_
  refine W.seq ?_
  refine W.region ?_
  refine WL.vS hS hE (runs_plain rfl) (Gives.p hE rfl) rfl ?_; clear hE a; intro a hE
  refine WL.vS hS hE (runs_plain rfl) (Gives.len hE rfl sl44) rfl ?_; clear hE a; intro a hE
  refine WL.vS hS hE (runs_plain rfl) (Gives.p hE rfl) rfl ?_; clear hE a; intro a hE
  refine WL.nil ?_
  obtain ⟨q52, hq51, hr⟩ := bndS hr
  refine W.cut (fun a w => (.next ()) = q52 ∧ Rep a 19 [] ∧ St w s (R)) ?_ ?_
  · refine W.block ?_
    refine W.loop (fun m a w => ∃ (rest55 : List Int) (k53 : Nat), rest55.length = m ∧ x0.drop k53 = rest55 ∧ SlicesIndexFuncLint_v1.loop1 rest55 k53 = q52 ∧ Rep a 19 [(0, .slice a0 x0.length c0), (1, .func (.func 147) #[] #[]), (7, .int .i64 ((x0).length : Int)), (8, .int .i64 ((k53 : Nat) : Int))] ∧ St w s (R)) (m := x0.length) ⟨x0, 0, rfl, rfl, hq51, hE.pick _ ⟨rfl, rfl, rfl, rfl, trivial⟩, hS⟩ ?_
    clear hE hS a w hq51; rintro m59 a w ⟨rest55, k53, rfl, hd56, hq51, hE, hS⟩
    refine W.gen fun K62 hK62 => ?_
    rcases rest55 with _ | ⟨x54, rest55⟩
    · have hlt57 := drop_nil hd56
      refine W.seq ?_
      refine W.region ?_
      refine WL.vS hS hE (runs_plain rfl) (Gives.p hE rfl) rfl ?_; clear hE a; intro a hE
      refine WL.nil ?_
      refine W.seq ?_
      refine W.condF hE rfl (decide_eq_false (by omega)) ?_
      subst hK62
      refine W.exit rfl ?_
      exact ⟨hq51, hE.pick _ trivial, hS⟩
    · obtain ⟨hlt57, hx58, hd56⟩ := drop_cons hd56
      rw [SlicesIndexFuncLint_v1.loop1] at hq51
      refine W.seq ?_
      refine W.region ?_
      refine WL.vS hS hE (runs_plain rfl) (Gives.p hE rfl) rfl ?_; clear hE a; intro a hE
      refine WL.nil ?_
      refine W.seq ?_
      refine W.condT hE rfl (decide_eq_true (by omega)) ?_
      refine W.skip ?_
      refine W.seq ?_
      refine W.block ?_
      refine W.seq ?_
      refine W.region ?_
      refine WL.vS hS hE (runs_plain rfl) (Gives.p hE rfl) rfl ?_; clear hE a; intro a hE
      refine WL.vS hS hE (runs_plain rfl) (Gives.p hE rfl) rfl ?_; clear hE a; intro a hE
      refine WL.nil ?_
      refine W.seq ?_
      refine W.region ?_
      refine WL.vS hS hE (runs_plain rfl) (Gives.p hE rfl) rfl ?_; clear hE a; intro a hE
      refine WL.vS hS hE (runs_plain rfl) (Gives.p hE rfl) rfl ?_; clear hE a; intro a hE
      refine WL.vS hS hE (runs_plain rfl) (Gives.p hE rfl) rfl ?_; clear hE a; intro a hE
      obtain ⟨cs63, hl64, hR65, hat66⟩ := h0.at hx58
      subst hR65
      refine WL.vS hS hE (runs_plain rfl) (Gives.idx hE k53 rfl rfl sl44 rfl hlt57 (h0.aok hlt57)) rfl ?_; clear hE a; intro a hE
      refine WL.vS hS hE (runs_plain rfl) (Gives.load1 hE rfl (fun w h => hat66 w _ h) ty3) rfl ?_; clear hE a; intro a hE
      refine WL.fnw hE (FleetjudgeRoster_1_ok hS  rfl (r := FleetjudgeRoster_1 x54)) rfl (runs_plain rfl) bd147 rfl rfl rfl ?_
      clear hE hS; rintro e w ⟨rfl, hS⟩; refine ⟨_, rfl, ?_⟩; clear a; intro a hE
      refine WL.nil ?_
      refine W.cond hE rfl (fun hc67 => ?_) (fun hc67 => ?_)
      · replace hq51 := iteT hc67 hq51
        refine W.seq ?_
        refine W.region ?_
        refine WL.vS hS hE (runs_plain rfl) (Gives.p hE rfl) rfl ?_; clear hE a; intro a hE
        refine WL.vS hS hE (runs_plain rfl) (Gives.p hE rfl) rfl ?_; clear hE a; intro a hE
        refine WL.nil ?_
        refine W.ret ?_
        subst hK62
        rw [← hq51] at hr
        dsimp only at hr
        refine finG (fn := Try.f72) (rs := [.tmp 4]) (vs := [_]) hE rfl ⟨rfl, trivial⟩ ?_
        subst hr
        exact ⟨rfl, hS⟩
      · replace hq51 := iteF hc67 hq51
        refine W.skip ?_
        refine W.region ?_
        refine WL.vS hS hE (runs_plain rfl) (Gives.inc hE rfl (by have := h0.small; omega)) rfl ?_; clear hE a; intro a hE
        refine WL.vS hS hE (runs_plain rfl) (Gives.p hE rfl) rfl ?_; clear hE a; intro a hE
        refine WL.nil ?_
        subst hK62
        exact ⟨rest55.length, Nat.lt_succ_self _, rest55, k53 + 1, rfl, hd56, hq51, hE.pick _ ⟨rfl, rfl, rfl, rfl, trivial⟩, hS⟩
  · clear hE hS a w; rintro a w ⟨rfl, hE, hS⟩
    dsimp only at hr
    refine W.seq ?_
    refine W.region ?_
    refine WL.vS hS hE (runs_plain rfl) (Gives.p hE rfl) rfl ?_; clear hE a; intro a hE
    refine WL.nil ?_
    refine W.ret ?_
    refine finG (fn := Try.f72) (rs := [.tmp 4]) (vs := [_]) hE rfl ⟨rfl, trivial⟩ ?_
    subst hr
    exact ⟨rfl, hS⟩
set_option maxHeartbeats 8000000 in
theorem SlicesContainsFuncLint_v1_ok  {w : World} {s : Sg} {R : List HP} {x0 : List Int} {a0 : Option Addr} {c0 : Nat} (hS : St w s (R)) (h0 : Sl 1 (RI .i64) s a0 c0 x0) {r : Bool} (hr : SlicesContainsFuncLint_v1 x0 = r) :
    Calls Try.prog 25 [.slice a0 x0.length c0, .func (.func 147) #[] #[]].toArray w (fun e w => e = .returned (.bool r) ∧ St w s (R)) := by
  refine enter Try.func25 rfl rfl rfl fun a hE => ?_
  rw [SlicesContainsFuncLint_v1] at hr
  refine W.seq ?_
  refine W.region ?_
  refine WL.vS hS hE (runs_plain rfl) (Gives.p hE rfl) rfl ?_; clear hE a; intro a hE
  refine WL.nil ?_
  refine W.seq ?_
  refine W.region ?_
  refine WL.vS hS hE (runs_plain rfl) (Gives.p hE rfl) rfl ?_; clear hE a; intro a hE
  refine WL.vS hS hE (runs_plain rfl) (Gives.p hE rfl) rfl ?_; clear hE a; intro a hE
  refine WL.fnq hE (SlicesIndexFuncLint_v1_ok hS h0 rfl (r := SlicesIndexFuncLint_v1 x0)) (runs_plain rfl) bd72 rfl rfl rfl ?_
  clear hE hS; rintro e w ⟨rfl, hS⟩; refine ⟨_, rfl, ?_⟩; clear a; intro a hE
  refine WL.vS hS hE (runs_plain rfl) (Gives.p hE rfl) rfl ?_; clear hE a; intro a hE
  refine WL.vS hS hE (runs_plain rfl) (Gives.p hE rfl) rfl ?_; clear hE a; intro a hE
  refine WL.nil ?_
  refine W.ret ?_
  refine finG (fn := Try.f25) (rs := [.tmp 4]) (vs := [_]) hE rfl ⟨rfl, trivial⟩ ?_
  subst hr
  exact ⟨rfl, hS⟩
set_option maxHeartbeats 8000000 in
theorem FleetjudgeRoster_ok  {w : World} {s : Sg} {R : List HP} {x0 : List FleetShift} {a0 : Option Addr} {c0 : Nat} {x1 : List (List Int)} {a1 : Option Addr} {c1 : Nat} {x2 : FleetLimits} (hS : St w s (R)) (h0 : Sl 3 RFleetShift s a0 c0 x0) (h1 : Sl 1 (RL 1 (RI .i64)) s a1 c1 x1) {r : Int} (hr : FleetjudgeRoster x0 x1 x2 = some r) :
    Calls Try.prog 124 [.slice a0 x0.length c0, .slice a1 x1.length c1, .agg (FleetLimits.cells x2).toArray].toArray w (fun e w => e = .returned (.int .i64 r) ∧ St w s (R)) := by
  refine enter Try.func124 rfl rfl rfl fun a hE => ?_
  rw [FleetjudgeRoster] at hr
  refine W.seq ?_
  refine W.region ?_
  refine WL.box hE hS (runs_plain rfl) rfl rfl rfl ?_; clear hE hS a w; intro b51 a w hE hS
  refine WL.vS hS hE (runs_plain rfl) (Gives.p hE rfl) rfl ?_; clear hE a; intro a hE
  refine WL.nil ?_
  refine W.seq ?_
  refine W.region ?_
  refine WL.vS hS hE (runs_plain rfl) (Gives.p hE rfl) rfl ?_; clear hE a; intro a hE
  refine WL.vS hS hE (runs_plain rfl) (Gives.len hE rfl sl22) rfl ?_; clear hE a; intro a hE
  obtain ⟨x52, hx53, hr⟩ := bindS hr
  refine WL.mkD (Rr := RI .i64) hE hS (runs_plain rfl) rfl rfl ap44 zr3 rfl hx53 rfl ?_; clear hE hS a w; intro b54 cs55 a w h56 hE hS
  refine WL.vS hS hE (runs_plain rfl) (Gives.p hE rfl) rfl ?_; clear hE a; intro a hE
  refine WL.nil ?_
  refine W.seq ?_
  refine W.region ?_
  refine WL.vS hS hE (runs_plain rfl) (Gives.p hE rfl) rfl ?_; clear hE a; intro a hE
  refine WL.vS hS hE (runs_plain rfl) (Gives.p hE rfl) rfl ?_; clear hE a; intro a hE
  refine WL.vS hS hE (runs_plain rfl) (Gives.p hE rfl) rfl ?_; clear hE a; intro a hE
  refine WL.nil ?_
  refine W.seq ?_
  refine W.seq ?_
  refine W.region ?_
  refine WL.vS hS hE (runs_plain rfl) (Gives.p hE rfl) rfl ?_; clear hE a; intro a hE
  refine WL.vS hS hE (runs_plain rfl) (Gives.len hE rfl sl25) rfl ?_; clear hE a; intro a hE
  refine WL.vS hS hE (runs_plain rfl) (Gives.p hE rfl) rfl ?_; clear hE a; intro a hE
  refine WL.nil ?_
  obtain ⟨q59, hq58, hr⟩ := bindS hr
  refine W.cut (fun a w => ∃ (q69 : Bool), ∃ (q70 : Bool), ∃ (q71 : Bool), ∃ (q72 : List Int), ∃ (cs76 : List Value), (q69, q70, q71, q72) = q59 ∧ Ev 1 (RI .i64) s cs76 q72 ∧ q72.length = x52.length ∧ Rep a 70 [(7, .slice (some ⟨b54, 0, none⟩) x52.length x52.length), (8, .bool q69), (9, .bool q70), (10, .bool q71)] ∧ St w s (vecC 3 1 (some ⟨b54, 0, none⟩) x52.length x52.length cs76 :: pt b51 (.cells (FleetLimits.cells x2).toArray 24 (0, 0)) :: R)) ?_ ?_
  · refine W.block ?_
    refine W.loop (fun m a w => ∃ (rest62 : List (List Int)) (k60 : Nat), ∃ (q69 : Bool), ∃ (q70 : Bool), ∃ (q71 : Bool), ∃ (q72 : List Int), ∃ (cs76 : List Value), rest62.length = m ∧ x1.drop k60 = rest62 ∧ FleetjudgeRoster.loop1 x0 x2 rest62 q69 q70 q71 q72 = some q59 ∧ Ev 1 (RI .i64) s cs76 q72 ∧ q72.length = x52.length ∧ Rep a 70 [(0, .slice a0 x0.length c0), (5, .pointer (some ⟨b51, 0, none⟩)), (7, .slice (some ⟨b54, 0, none⟩) x52.length x52.length), (8, .bool q69), (9, .bool q70), (10, .bool q71), (21, .slice a1 x1.length c1), (22, .int .i64 ((x1).length : Int)), (23, .int .i64 ((k60 : Nat) : Int))] ∧ St w s (vecC 3 1 (some ⟨b54, 0, none⟩) x52.length x52.length cs76 :: pt b51 (.cells (FleetLimits.cells x2).toArray 24 (0, 0)) :: R)) (m := x1.length) ⟨x1, 0, false, false, false, x52, cs55, rfl, rfl, hq58, h56, (rfl), hE.pick _ ⟨rfl, rfl, rfl, rfl, rfl, rfl, rfl, rfl, rfl, trivial⟩, hS⟩ ?_
    clear hE hS a w hq58; rintro m66 a w ⟨rest62, k60, q69, q70, q71, q72, cs76, rfl, hd63, hq58, h75, hn77, hE, hS⟩
    refine W.gen fun K78 hK78 => ?_
    rcases rest62 with _ | ⟨x61, rest62⟩
    · have hlt64 := drop_nil hd63
      refine W.seq ?_
      refine W.region ?_
      refine WL.vS hS hE (runs_plain rfl) (Gives.p hE rfl) rfl ?_; clear hE a; intro a hE
      refine WL.nil ?_
      refine W.seq ?_
      refine W.condF hE rfl (decide_eq_false (by omega)) ?_
      subst hK78
      refine W.exit rfl ?_
      exact ⟨q69, q70, q71, q72, cs76, Option.some.inj hq58, h75, hn77, hE.pick _ ⟨rfl, rfl, rfl, rfl, trivial⟩, hS⟩
    · obtain ⟨hlt64, hx65, hd63⟩ := drop_cons hd63
      rw [FleetjudgeRoster.loop1] at hq58
      refine W.seq ?_
      refine W.region ?_
      refine WL.vS hS hE (runs_plain rfl) (Gives.p hE rfl) rfl ?_; clear hE a; intro a hE
      refine WL.nil ?_
      refine W.seq ?_
      refine W.condT hE rfl (decide_eq_true (by omega)) ?_
      refine W.skip ?_
      refine W.seq ?_
      refine W.block ?_
      refine W.seq ?_
      refine W.region ?_
      obtain ⟨cs79, hl80, hR81, hat82⟩ := h1.at hx65
      obtain ⟨a83, c84, rfl, h85⟩ := hR81
      refine WL.vS hS hE (runs_plain rfl) (Gives.idx hE k60 rfl rfl sl25 rfl hlt64 (h1.aok hlt64)) rfl ?_; clear hE a; intro a hE
      refine WL.vS hS hE (runs_plain rfl) (Gives.load1 hE rfl (fun w h => hat82 w _ h) ty44) rfl ?_; clear hE a; intro a hE
      refine WL.vS hS hE (runs_plain rfl) (Gives.p hE rfl) rfl ?_; clear hE a; intro a hE
      refine WL.nil ?_
      refine W.seq ?_
      refine W.seq ?_
      refine W.region ?_
      refine WL.vS hS hE (runs_plain rfl) (Gives.p hE rfl) rfl ?_; clear hE a; intro a hE
      refine WL.vS hS hE (runs_plain rfl) (Gives.len hE rfl sl44) rfl ?_; clear hE a; intro a hE
      refine WL.vS hS hE (runs_plain rfl) (Gives.p hE rfl) rfl ?_; clear hE a; intro a hE
      refine WL.nil ?_
      obtain ⟨q87, hq86, hq58⟩ := bindS hq58
      refine W.cut (fun a w => ∃ (q97 : List Int), ∃ (cs101 : List Value), q97 = q87 ∧ Ev 1 (RI .i64) s cs101 q97 ∧ q97.length = x52.length ∧ Rep a 70 [(0, .slice a0 x0.length c0), (5, .pointer (some ⟨b51, 0, none⟩)), (7, .slice (some ⟨b54, 0, none⟩) x52.length x52.length), (8, .bool q69), (9, .bool q70), (10, .bool q71), (12, .slice a83 x61.length c84), (21, .slice a1 x1.length c1), (22, .int .i64 ((x1).length : Int)), (23, .int .i64 ((k60 : Nat) : Int))] ∧ St w s (vecC 3 1 (some ⟨b54, 0, none⟩) x52.length x52.length cs101 :: pt b51 (.cells (FleetLimits.cells x2).toArray 24 (0, 0)) :: R)) ?_ ?_
      · refine W.block ?_
        refine W.loop (fun m a w => ∃ (rest90 : List Int) (k88 : Nat), ∃ (q97 : List Int), ∃ (cs101 : List Value), rest90.length = m ∧ x61.drop k88 = rest90 ∧ FleetjudgeRoster.loop2 rest90 q97 = some q87 ∧ Ev 1 (RI .i64) s cs101 q97 ∧ q97.length = x52.length ∧ Rep a 70 [(0, .slice a0 x0.length c0), (5, .pointer (some ⟨b51, 0, none⟩)), (7, .slice (some ⟨b54, 0, none⟩) x52.length x52.length), (8, .bool q69), (9, .bool q70), (10, .bool q71), (12, .slice a83 x61.length c84), (21, .slice a1 x1.length c1), (22, .int .i64 ((x1).length : Int)), (23, .int .i64 ((k60 : Nat) : Int)), (27, .slice a83 x61.length c84), (28, .int .i64 ((x61).length : Int)), (29, .int .i64 ((k88 : Nat) : Int))] ∧ St w s (vecC 3 1 (some ⟨b54, 0, none⟩) x52.length x52.length cs101 :: pt b51 (.cells (FleetLimits.cells x2).toArray 24 (0, 0)) :: R)) (m := x61.length) ⟨x61, 0, q72, cs76, rfl, rfl, hq86, h75, hn77, hE.pick _ ⟨rfl, rfl, rfl, rfl, rfl, rfl, rfl, rfl, rfl, rfl, rfl, rfl, rfl, trivial⟩, hS⟩ ?_
        clear hE hS a w hq86; rintro m94 a w ⟨rest90, k88, q97, cs101, rfl, hd91, hq86, h100, hn102, hE, hS⟩
        refine W.gen fun K103 hK103 => ?_
        rcases rest90 with _ | ⟨x89, rest90⟩
        · have hlt92 := drop_nil hd91
          refine W.seq ?_
          refine W.region ?_
          refine WL.vS hS hE (runs_plain rfl) (Gives.p hE rfl) rfl ?_; clear hE a; intro a hE
          refine WL.nil ?_
          refine W.seq ?_
          refine W.condF hE rfl (decide_eq_false (by omega)) ?_
          subst hK103
          refine W.exit rfl ?_
          exact ⟨q97, cs101, Option.some.inj hq86, h100, hn102, hE.pick _ ⟨rfl, rfl, rfl, rfl, rfl, rfl, rfl, rfl, rfl, rfl, trivial⟩, hS⟩
        · obtain ⟨hlt92, hx93, hd91⟩ := drop_cons hd91
          rw [FleetjudgeRoster.loop2] at hq86
          refine W.seq ?_
          refine W.region ?_
          refine WL.vS hS hE (runs_plain rfl) (Gives.p hE rfl) rfl ?_; clear hE a; intro a hE
          refine WL.nil ?_
          refine W.seq ?_
          refine W.condT hE rfl (decide_eq_true (by omega)) ?_
          refine W.skip ?_
          refine W.seq ?_
          refine W.block ?_
          refine W.seq ?_
          refine W.region ?_
          obtain ⟨cs104, hl105, hR106, hat107⟩ := h85.at hx93
          subst hR106
          refine WL.vS hS hE (runs_plain rfl) (Gives.idx hE k88 rfl rfl sl44 rfl hlt92 (h85.aok hlt92)) rfl ?_; clear hE a; intro a hE
          refine WL.vS hS hE (runs_plain rfl) (Gives.load1 hE rfl (fun w h => hat107 w _ h) ty3) rfl ?_; clear hE a; intro a hE
          refine WL.vS hS hE (runs_plain rfl) (Gives.p hE rfl) rfl ?_; clear hE a; intro a hE
          refine WL.nil ?_
          refine W.region ?_
          refine WL.vS hS hE (runs_plain rfl) (Gives.p hE rfl) rfl ?_; clear hE a; intro a hE
          refine WL.vS hS hE (runs_plain rfl) (Gives.p hE rfl) rfl ?_; clear hE a; intro a hE
          obtain ⟨x108, hx109, hq86⟩ := bindS hq86
          obtain ⟨hi110, hlt111, hy112⟩ := gx_some hx109
          obtain ⟨vs113, hl114, hR115, hd116, hget117⟩ := h100.at hy112
          subst hR115
          refine WL.vS hS hE (runs_plain rfl) (Gives.idx hE ((x89).toNat) rfl rfl sl44 hi110 (by have := hn102; omega) (hS.vecAok 0 rfl (by have := hn102; omega : (x89).toNat < x52.length))) rfl ?_; clear hE a; intro a hE
          refine WL.vS hS hE (runs_plain rfl) (Gives.load1 hE rfl (fun w h => St.vecSees h 0 rfl ((x89).toNat * 1) _ hget117) ty3) rfl ?_; clear hE a; intro a hE
          refine WL.vS hS hE (runs_plain rfl) (Gives.p hE rfl) rfl ?_; clear hE a; intro a hE
          obtain ⟨_, hx119, hq86⟩ := bindS hq86
          obtain ⟨h120, h121⟩ := ix_some hx119
          refine WL.vS hS hE (runs_plain rfl) (Gives.idx hE ((x89).toNat) rfl rfl sl44 h120 (by have := hn102; omega) (hS.vecAok 0 rfl (by have := hn102; omega : (x89).toNat < x52.length))) rfl ?_; clear hE a; intro a hE
          obtain ⟨x123, hx124, hq86⟩ := bindS hq86
          refine WL.setD hE hS 0 rfl (runs_plain rfl) rfl rfl (vs := [.int .i64 (w64 (x108 + 1))]) rfl ty3 rfl rfl rfl h100 hn102 (sx_some hx124).1 hx124 rfl rfl ?_; clear hE hS a w; intro cs125 a w h126 hn127 hE hS
          refine WL.nil ?_
          refine W.region ?_
          refine WL.vS hS hE (runs_plain rfl) (Gives.inc hE rfl (by have := h85.small; omega)) rfl ?_; clear hE a; intro a hE
          refine WL.vS hS hE (runs_plain rfl) (Gives.p hE rfl) rfl ?_; clear hE a; intro a hE
          refine WL.nil ?_
          subst hK103
          exact ⟨rest90.length, Nat.lt_succ_self _, rest90, k88 + 1, x123, cs125, rfl, hd91, hq86, h126, hn127, hE.pick _ ⟨rfl, rfl, rfl, rfl, rfl, rfl, rfl, rfl, rfl, rfl, rfl, rfl, rfl, trivial⟩, hS⟩
      · clear hE hS a w; rintro a w ⟨q97, cs101, rfl, h100, hn102, hE, hS⟩
        refine W.seq ?_
        refine W.region ?_
        refine WL.vS hS hE (runs_plain rfl) (Gives.p hE rfl) rfl ?_; clear hE a; intro a hE
        refine WL.vS hS hE (runs_plain rfl) (Gives.p hE rfl) rfl ?_; clear hE a; intro a hE
        refine WL.vS hS hE (runs_plain rfl) (Gives.loadBA hE 1 rfl rfl ty24) rfl ?_; clear hE a; intro a hE
        obtain ⟨q128, hq129, hq58⟩ := bindS hq58
        have hc_ := FleetdriverBreaks_ok hS h0 h85 hq129
        refine WL.fnq hE (hc_) (runs_plain rfl) bd94 rfl rfl rfl ?_
        clear hE hS hc_; rintro e w ⟨rfl, hS⟩; refine ⟨_, rfl, ?_⟩; clear a; intro a hE
        refine WL.vS hS hE (runs_plain rfl) (Gives.p hE rfl) rfl ?_; clear hE a; intro a hE
        refine WL.vS hS hE (runs_plain rfl) (Gives.p hE rfl) rfl ?_; clear hE a; intro a hE
        refine WL.vS hS hE (runs_plain rfl) (Gives.p hE rfl) rfl ?_; clear hE a; intro a hE
        refine WL.vS hS hE (runs_plain rfl) (Gives.p hE rfl) rfl ?_; clear hE a; intro a hE
        refine WL.vS hS hE (runs_plain rfl) (Gives.p hE rfl) rfl ?_; clear hE a; intro a hE
        refine WL.vS hS hE (runs_plain rfl) (Gives.p hE rfl) rfl ?_; clear hE a; intro a hE
        refine WL.vS hS hE (runs_plain rfl) (Gives.p hE rfl) rfl ?_; clear hE a; intro a hE
        refine WL.nil ?_
        obtain ⟨q131, hq130, hq58⟩ := bndS hq58
        refine W.cut (fun a w => ∃ (q134 : Bool), ∃ (q135 : Bool), ∃ (q136 : Bool), (q134, q135, q136) = q131 ∧ Rep a 70 [(0, .slice a0 x0.length c0), (5, .pointer (some ⟨b51, 0, none⟩)), (7, .slice (some ⟨b54, 0, none⟩) x52.length x52.length), (8, .bool q134), (9, .bool q135), (10, .bool q136), (21, .slice a1 x1.length c1), (22, .int .i64 ((x1).length : Int)), (23, .int .i64 ((k60 : Nat) : Int))] ∧ St w s (vecC 3 1 (some ⟨b54, 0, none⟩) x52.length x52.length cs101 :: pt b51 (.cells (FleetLimits.cells x2).toArray 24 (0, 0)) :: R)) ?_ ?_
        · refine W.gen fun K137 hK137 => ?_
          refine W.region ?_
          refine WL.vS hS hE (runs_plain rfl) (Gives.p hE rfl) rfl ?_; clear hE a; intro a hE
          refine WL.vS hS hE (runs_plain rfl) (Gives.p hE rfl) rfl ?_; clear hE a; intro a hE
          rcases Bool.eq_false_or_eq_true q69 with hg138 | hg138
          · replace hq130 := iteT hg138 hq130
            refine WL.no hE (runs_not hE rfl rfl rfl (by rw [hg138]; decide)) rfl ?_; clear hE a; intro a hE
            refine WL.vS hS hE (runs_plain rfl) (Gives.pickT hE rfl hg138 rfl) rfl ?_; clear hE a; intro a hE
            refine WL.vS hS hE (runs_plain rfl) (Gives.p hE rfl) rfl ?_; clear hE a; intro a hE
            refine WL.vS hS hE (runs_plain rfl) (Gives.p hE rfl) rfl ?_; clear hE a; intro a hE
            rcases Bool.eq_false_or_eq_true q70 with hg139 | hg139
            · replace hq130 := iteT hg139 hq130
              refine WL.no hE (runs_not hE rfl rfl rfl (by rw [hg139]; decide)) rfl ?_; clear hE a; intro a hE
              refine WL.vS hS hE (runs_plain rfl) (Gives.pickT hE rfl hg139 rfl) rfl ?_; clear hE a; intro a hE
              refine WL.vS hS hE (runs_plain rfl) (Gives.p hE rfl) rfl ?_; clear hE a; intro a hE
              refine WL.vS hS hE (runs_plain rfl) (Gives.p hE rfl) rfl ?_; clear hE a; intro a hE
              rcases Bool.eq_false_or_eq_true q71 with hg140 | hg140
              · replace hq130 := iteT hg140 hq130
                refine WL.no hE (runs_not hE rfl rfl rfl (by rw [hg140]; decide)) rfl ?_; clear hE a; intro a hE
                refine WL.vS hS hE (runs_plain rfl) (Gives.pickT hE rfl hg140 rfl) rfl ?_; clear hE a; intro a hE
                refine WL.vS hS hE (runs_plain rfl) (Gives.p hE rfl) rfl ?_; clear hE a; intro a hE
                refine WL.vS hS hE (runs_plain rfl) (Gives.p hE rfl) rfl ?_; clear hE a; intro a hE
                refine WL.vS hS hE (runs_plain rfl) (Gives.p hE rfl) rfl ?_; clear hE a; intro a hE
                refine WL.nil ?_
                subst hK137
                exact ⟨true, true, true, hq130, hE.pick _ ⟨rfl, rfl, rfl, rfl, rfl, rfl, rfl, rfl, rfl, trivial⟩, hS⟩
              · replace hq130 := iteF hg140 hq130
                refine WL.vS hS hE (runs_if hE rfl rfl rfl hg140) (Gives.p hE rfl) rfl ?_; clear hE a; intro a hE
                refine WL.vS hS hE (runs_plain rfl) (Gives.pickF hE rfl hg140 rfl) rfl ?_; clear hE a; intro a hE
                refine WL.vS hS hE (runs_plain rfl) (Gives.p hE rfl) rfl ?_; clear hE a; intro a hE
                refine WL.vS hS hE (runs_plain rfl) (Gives.p hE rfl) rfl ?_; clear hE a; intro a hE
                refine WL.vS hS hE (runs_plain rfl) (Gives.p hE rfl) rfl ?_; clear hE a; intro a hE
                refine WL.nil ?_
                subst hK137
                exact ⟨true, true, q128.2.2, hq130, hE.pick _ ⟨rfl, rfl, rfl, rfl, rfl, rfl, rfl, rfl, rfl, trivial⟩, hS⟩
            · replace hq130 := iteF hg139 hq130
              refine WL.vS hS hE (runs_if hE rfl rfl rfl hg139) (Gives.p hE rfl) rfl ?_; clear hE a; intro a hE
              refine WL.vS hS hE (runs_plain rfl) (Gives.pickF hE rfl hg139 rfl) rfl ?_; clear hE a; intro a hE
              refine WL.vS hS hE (runs_plain rfl) (Gives.p hE rfl) rfl ?_; clear hE a; intro a hE
              refine WL.vS hS hE (runs_plain rfl) (Gives.p hE rfl) rfl ?_; clear hE a; intro a hE
              rcases Bool.eq_false_or_eq_true q71 with hg141 | hg141
              · replace hq130 := iteT hg141 hq130
                refine WL.no hE (runs_not hE rfl rfl rfl (by rw [hg141]; decide)) rfl ?_; clear hE a; intro a hE
                refine WL.vS hS hE (runs_plain rfl) (Gives.pickT hE rfl hg141 rfl) rfl ?_; clear hE a; intro a hE
                refine WL.vS hS hE (runs_plain rfl) (Gives.p hE rfl) rfl ?_; clear hE a; intro a hE
                refine WL.vS hS hE (runs_plain rfl) (Gives.p hE rfl) rfl ?_; clear hE a; intro a hE
                refine WL.vS hS hE (runs_plain rfl) (Gives.p hE rfl) rfl ?_; clear hE a; intro a hE
                refine WL.nil ?_
                subst hK137
                exact ⟨true, q128.2.1, true, hq130, hE.pick _ ⟨rfl, rfl, rfl, rfl, rfl, rfl, rfl, rfl, rfl, trivial⟩, hS⟩
              · replace hq130 := iteF hg141 hq130
                refine WL.vS hS hE (runs_if hE rfl rfl rfl hg141) (Gives.p hE rfl) rfl ?_; clear hE a; intro a hE
                refine WL.vS hS hE (runs_plain rfl) (Gives.pickF hE rfl hg141 rfl) rfl ?_; clear hE a; intro a hE
                refine WL.vS hS hE (runs_plain rfl) (Gives.p hE rfl) rfl ?_; clear hE a; intro a hE
                refine WL.vS hS hE (runs_plain rfl) (Gives.p hE rfl) rfl ?_; clear hE a; intro a hE
                refine WL.vS hS hE (runs_plain rfl) (Gives.p hE rfl) rfl ?_; clear hE a; intro a hE
                refine WL.nil ?_
                subst hK137
                exact ⟨true, q128.2.1, q128.2.2, hq130, hE.pick _ ⟨rfl, rfl, rfl, rfl, rfl, rfl, rfl, rfl, rfl, trivial⟩, hS⟩
          · replace hq130 := iteF hg138 hq130
            refine WL.vS hS hE (runs_if hE rfl rfl rfl hg138) (Gives.p hE rfl) rfl ?_; clear hE a; intro a hE
            refine WL.vS hS hE (runs_plain rfl) (Gives.pickF hE rfl hg138 rfl) rfl ?_; clear hE a; intro a hE
            refine WL.vS hS hE (runs_plain rfl) (Gives.p hE rfl) rfl ?_; clear hE a; intro a hE
            refine WL.vS hS hE (runs_plain rfl) (Gives.p hE rfl) rfl ?_; clear hE a; intro a hE
            rcases Bool.eq_false_or_eq_true q70 with hg142 | hg142
            · replace hq130 := iteT hg142 hq130
              refine WL.no hE (runs_not hE rfl rfl rfl (by rw [hg142]; decide)) rfl ?_; clear hE a; intro a hE
              refine WL.vS hS hE (runs_plain rfl) (Gives.pickT hE rfl hg142 rfl) rfl ?_; clear hE a; intro a hE
              refine WL.vS hS hE (runs_plain rfl) (Gives.p hE rfl) rfl ?_; clear hE a; intro a hE
              refine WL.vS hS hE (runs_plain rfl) (Gives.p hE rfl) rfl ?_; clear hE a; intro a hE
              rcases Bool.eq_false_or_eq_true q71 with hg143 | hg143
              · replace hq130 := iteT hg143 hq130
                refine WL.no hE (runs_not hE rfl rfl rfl (by rw [hg143]; decide)) rfl ?_; clear hE a; intro a hE
                refine WL.vS hS hE (runs_plain rfl) (Gives.pickT hE rfl hg143 rfl) rfl ?_; clear hE a; intro a hE
                refine WL.vS hS hE (runs_plain rfl) (Gives.p hE rfl) rfl ?_; clear hE a; intro a hE
                refine WL.vS hS hE (runs_plain rfl) (Gives.p hE rfl) rfl ?_; clear hE a; intro a hE
                refine WL.vS hS hE (runs_plain rfl) (Gives.p hE rfl) rfl ?_; clear hE a; intro a hE
                refine WL.nil ?_
                subst hK137
                exact ⟨q128.1, true, true, hq130, hE.pick _ ⟨rfl, rfl, rfl, rfl, rfl, rfl, rfl, rfl, rfl, trivial⟩, hS⟩
              · replace hq130 := iteF hg143 hq130
                refine WL.vS hS hE (runs_if hE rfl rfl rfl hg143) (Gives.p hE rfl) rfl ?_; clear hE a; intro a hE
                refine WL.vS hS hE (runs_plain rfl) (Gives.pickF hE rfl hg143 rfl) rfl ?_; clear hE a; intro a hE
                refine WL.vS hS hE (runs_plain rfl) (Gives.p hE rfl) rfl ?_; clear hE a; intro a hE
                refine WL.vS hS hE (runs_plain rfl) (Gives.p hE rfl) rfl ?_; clear hE a; intro a hE
                refine WL.vS hS hE (runs_plain rfl) (Gives.p hE rfl) rfl ?_; clear hE a; intro a hE
                refine WL.nil ?_
                subst hK137
                exact ⟨q128.1, true, q128.2.2, hq130, hE.pick _ ⟨rfl, rfl, rfl, rfl, rfl, rfl, rfl, rfl, rfl, trivial⟩, hS⟩
            · replace hq130 := iteF hg142 hq130
              refine WL.vS hS hE (runs_if hE rfl rfl rfl hg142) (Gives.p hE rfl) rfl ?_; clear hE a; intro a hE
              refine WL.vS hS hE (runs_plain rfl) (Gives.pickF hE rfl hg142 rfl) rfl ?_; clear hE a; intro a hE
              refine WL.vS hS hE (runs_plain rfl) (Gives.p hE rfl) rfl ?_; clear hE a; intro a hE
              refine WL.vS hS hE (runs_plain rfl) (Gives.p hE rfl) rfl ?_; clear hE a; intro a hE
              rcases Bool.eq_false_or_eq_true q71 with hg144 | hg144
              · replace hq130 := iteT hg144 hq130
                refine WL.no hE (runs_not hE rfl rfl rfl (by rw [hg144]; decide)) rfl ?_; clear hE a; intro a hE
                refine WL.vS hS hE (runs_plain rfl) (Gives.pickT hE rfl hg144 rfl) rfl ?_; clear hE a; intro a hE
                refine WL.vS hS hE (runs_plain rfl) (Gives.p hE rfl) rfl ?_; clear hE a; intro a hE
                refine WL.vS hS hE (runs_plain rfl) (Gives.p hE rfl) rfl ?_; clear hE a; intro a hE
                refine WL.vS hS hE (runs_plain rfl) (Gives.p hE rfl) rfl ?_; clear hE a; intro a hE
                refine WL.nil ?_
                subst hK137
                exact ⟨q128.1, q128.2.1, true, hq130, hE.pick _ ⟨rfl, rfl, rfl, rfl, rfl, rfl, rfl, rfl, rfl, trivial⟩, hS⟩
              · replace hq130 := iteF hg144 hq130
                refine WL.vS hS hE (runs_if hE rfl rfl rfl hg144) (Gives.p hE rfl) rfl ?_; clear hE a; intro a hE
                refine WL.vS hS hE (runs_plain rfl) (Gives.pickF hE rfl hg144 rfl) rfl ?_; clear hE a; intro a hE
                refine WL.vS hS hE (runs_plain rfl) (Gives.p hE rfl) rfl ?_; clear hE a; intro a hE
                refine WL.vS hS hE (runs_plain rfl) (Gives.p hE rfl) rfl ?_; clear hE a; intro a hE
                refine WL.vS hS hE (runs_plain rfl) (Gives.p hE rfl) rfl ?_; clear hE a; intro a hE
                refine WL.nil ?_
                subst hK137
                exact ⟨q128.1, q128.2.1, q128.2.2, hq130, hE.pick _ ⟨rfl, rfl, rfl, rfl, rfl, rfl, rfl, rfl, rfl, trivial⟩, hS⟩
        · clear hE hS a w; rintro a w ⟨q134, q135, q136, rfl, hE, hS⟩
          dsimp only at hq58
          refine W.region ?_
          refine WL.vS hS hE (runs_plain rfl) (Gives.inc hE rfl (by have := h1.small; omega)) rfl ?_; clear hE a; intro a hE
          refine WL.vS hS hE (runs_plain rfl) (Gives.p hE rfl) rfl ?_; clear hE a; intro a hE
          refine WL.nil ?_
          subst hK78
          exact ⟨rest62.length, Nat.lt_succ_self _, rest62, k60 + 1, q134, q135, q136, q97, cs101, rfl, hd63, hq58, h100, hn102, hE.pick _ ⟨rfl, rfl, rfl, rfl, rfl, rfl, rfl, rfl, rfl, trivial⟩, hS⟩
  · clear hE hS a w; rintro a w ⟨q69, q70, q71, q72, cs76, rfl, h75, hn77, hE, hS⟩
    dsimp only at hr
    refine W.seq ?_
    refine W.block ?_
    refine W.seq ?_
    refine W.region ?_
    refine WL.vS hS hE (runs_plain rfl) (Gives.p hE rfl) rfl ?_; clear hE a; intro a hE
    have hF := hS.lendV RI.mono 0 rfl h75 hn77; clear hS; obtain ⟨t145, hle146, hS, hs147, bk148⟩ := hF
    refine WL.fnq hE ((by have hc_ := SlicesContainsFuncLint_v1_ok hS hs147 rfl (r := SlicesContainsFuncLint_v1 q72); rw [hn77] at hc_; exact hc_)) (runs_plain rfl) bd25 rfl rfl rfl ?_
    clear hE hS; rintro e w ⟨rfl, hS⟩; refine ⟨_, rfl, ?_⟩; clear a; intro a hE
    replace hS := bk148 _ _ hS
    refine WL.vS hS hE (runs_plain rfl) (Gives.p hE rfl) rfl ?_; clear hE a; intro a hE
    refine WL.nil ?_
    refine W.cond hE rfl (fun hc149 => ?_) (fun hc149 => ?_)
    · replace hr := iteT hc149 hr
      refine W.seq ?_
      refine W.region ?_
      refine WL.vS hS hE (runs_plain rfl) (Gives.p hE rfl) rfl ?_; clear hE a; intro a hE
      refine WL.nil ?_
      refine W.ret ?_
      refine finG (fn := Try.f124) (rs := [.tmp 6]) (vs := [_]) hE rfl ⟨rfl, trivial⟩ ?_
      obtain rfl := Option.some.inj hr
      replace hS := hS.tail
      replace hS := hS.tail
      exact ⟨rfl, hS⟩
    · replace hr := iteF hc149 hr
      refine W.seq ?_
      refine W.region ?_
      refine WL.vS hS hE (runs_plain rfl) (Gives.p hE rfl) rfl ?_; clear hE a; intro a hE
      refine WL.vS hS hE (runs_plain rfl) (Gives.p hE rfl) rfl ?_; clear hE a; intro a hE
      refine WL.nil ?_
      refine W.cond hE rfl (fun hc150 => ?_) (fun hc150 => ?_)
      · replace hr := iteT hc150 hr
        refine W.seq ?_
        refine W.region ?_
        refine WL.vS hS hE (runs_plain rfl) (Gives.p hE rfl) rfl ?_; clear hE a; intro a hE
        refine WL.nil ?_
        refine W.ret ?_
        refine finG (fn := Try.f124) (rs := [.tmp 6]) (vs := [_]) hE rfl ⟨rfl, trivial⟩ ?_
        obtain rfl := Option.some.inj hr
        replace hS := hS.tail
        replace hS := hS.tail
        exact ⟨rfl, hS⟩
      · replace hr := iteF hc150 hr
        refine W.seq ?_
        refine W.region ?_
        refine WL.vS hS hE (runs_plain rfl) (Gives.p hE rfl) rfl ?_; clear hE a; intro a hE
        refine WL.vS hS hE (runs_plain rfl) (Gives.p hE rfl) rfl ?_; clear hE a; intro a hE
        refine WL.nil ?_
        refine W.cond hE rfl (fun hc151 => ?_) (fun hc151 => ?_)
        · replace hr := iteT hc151 hr
          refine W.seq ?_
          refine W.region ?_
          refine WL.vS hS hE (runs_plain rfl) (Gives.p hE rfl) rfl ?_; clear hE a; intro a hE
          refine WL.nil ?_
          refine W.ret ?_
          refine finG (fn := Try.f124) (rs := [.tmp 6]) (vs := [_]) hE rfl ⟨rfl, trivial⟩ ?_
          obtain rfl := Option.some.inj hr
          replace hS := hS.tail
          replace hS := hS.tail
          exact ⟨rfl, hS⟩
        · replace hr := iteF hc151 hr
          refine W.seq ?_
          refine W.region ?_
          refine WL.vS hS hE (runs_plain rfl) (Gives.p hE rfl) rfl ?_; clear hE a; intro a hE
          refine WL.vS hS hE (runs_plain rfl) (Gives.p hE rfl) rfl ?_; clear hE a; intro a hE
          refine WL.nil ?_
          refine W.cond hE rfl (fun hc152 => ?_) (fun hc152 => ?_)
          · replace hr := iteT hc152 hr
            refine W.seq ?_
            refine W.region ?_
            refine WL.vS hS hE (runs_plain rfl) (Gives.p hE rfl) rfl ?_; clear hE a; intro a hE
            refine WL.nil ?_
            refine W.ret ?_
            refine finG (fn := Try.f124) (rs := [.tmp 6]) (vs := [_]) hE rfl ⟨rfl, trivial⟩ ?_
            obtain rfl := Option.some.inj hr
            replace hS := hS.tail
            replace hS := hS.tail
            exact ⟨rfl, hS⟩
          · replace hr := iteF hc152 hr
            refine W.skip ?_
            refine W.seq ?_
            refine W.region ?_
            refine WL.vS hS hE (runs_plain rfl) (Gives.p hE rfl) rfl ?_; clear hE a; intro a hE
            refine WL.nil ?_
            refine W.ret ?_
            refine finG (fn := Try.f124) (rs := [.tmp 6]) (vs := [_]) hE rfl ⟨rfl, trivial⟩ ?_
            obtain rfl := Option.some.inj hr
            replace hS := hS.tail
            replace hS := hS.tail
            exact ⟨rfl, hS⟩
set_option maxHeartbeats 8000000 in
theorem FleetJudgeRoster_ok  {w : World} {s : Sg} {R : List HP} {x0 : List FleetShift} {a0 : Option Addr} {c0 : Nat} {x1 : List (List Int)} {a1 : Option Addr} {c1 : Nat} {x2 : FleetLimits} (hS : St w s (R)) (h0 : Sl 3 RFleetShift s a0 c0 x0) (h1 : Sl 1 (RL 1 (RI .i64)) s a1 c1 x1) {r : Int × Int} (hr : FleetJudgeRoster x0 x1 x2 = some r) :
    Calls Try.prog 87 [.slice a0 x0.length c0, .slice a1 x1.length c1, .agg (FleetLimits.cells x2).toArray].toArray w (fun e w => e = .returned (.tuple #[.int .i64 r.1, .int .i64 r.2]) ∧ St w s (R)) := by
  refine enter Try.func87 rfl rfl rfl fun a hE => ?_
  rw [FleetJudgeRoster] at hr
  refine W.seq ?_
  refine W.region ?_
  refine WL.box hE hS (runs_plain rfl) rfl rfl rfl ?_; clear hE hS a w; intro b51 a w hE hS
  refine WL.vS hS hE (runs_plain rfl) (Gives.p hE rfl) rfl ?_; clear hE a; intro a hE
  refine WL.vS hS hE (runs_plain rfl) (Gives.p hE rfl) rfl ?_; clear hE a; intro a hE
  refine WL.nil ?_
  refine W.seq ?_
  refine W.seq ?_
  refine W.region ?_
  refine WL.vS hS hE (runs_plain rfl) (Gives.p hE rfl) rfl ?_; clear hE a; intro a hE
  refine WL.fnq hE (FleetCheckShifts_ok hS h0 rfl (r := FleetCheckShifts x0)) (runs_plain rfl) bd35 rfl rfl rfl ?_
  clear hE hS; rintro e w ⟨rfl, hS⟩; refine ⟨_, rfl, ?_⟩; clear a; intro a hE
  refine WL.vS hS hE (runs_plain rfl) (Gives.p hE rfl) rfl ?_; clear hE a; intro a hE
  refine WL.nil ?_
  refine W.seq ?_
  refine W.region ?_
  refine WL.vS hS hE (runs_plain rfl) (Gives.p hE rfl) rfl ?_; clear hE a; intro a hE
  refine WL.vS hS hE (runs_plain rfl) (Gives.p hE rfl) rfl ?_; clear hE a; intro a hE
  refine WL.nil ?_
  refine W.cond hE rfl (fun hc52 => ?_) (fun hc52 => ?_)
  · replace hr := iteT hc52 hr
    refine W.seq ?_
    refine W.region ?_
    refine WL.vS hS hE (runs_plain rfl) (Gives.p hE rfl) rfl ?_; clear hE a; intro a hE
    refine WL.vS hS hE (runs_plain rfl) (Gives.p hE rfl) rfl ?_; clear hE a; intro a hE
    refine WL.vS hS hE (runs_plain rfl) (Gives.p hE rfl) rfl ?_; clear hE a; intro a hE
    refine WL.nil ?_
    refine W.ret ?_
    refine finG (fn := Try.f87) (rs := [.tmp 6, .tmp 7]) (vs := [_, _]) hE rfl ⟨rfl, rfl, trivial⟩ ?_
    obtain rfl := Option.some.inj hr
    replace hS := hS.tail
    exact ⟨rfl, hS⟩
  · replace hr := iteF hc52 hr
    refine W.skip ?_
    refine W.seq ?_
    refine W.seq ?_
    refine W.region ?_
    refine WL.vS hS hE (runs_plain rfl) (Gives.loadBA hE 0 rfl rfl ty24) rfl ?_; clear hE a; intro a hE
    refine WL.fnq hE (FleetCheckLimits_ok hS  rfl (r := FleetCheckLimits x2)) (runs_plain rfl) bd36 rfl rfl rfl ?_
    clear hE hS; rintro e w ⟨rfl, hS⟩; refine ⟨_, rfl, ?_⟩; clear a; intro a hE
    refine WL.vS hS hE (runs_plain rfl) (Gives.p hE rfl) rfl ?_; clear hE a; intro a hE
    refine WL.nil ?_
    refine W.seq ?_
    refine W.region ?_
    refine WL.vS hS hE (runs_plain rfl) (Gives.p hE rfl) rfl ?_; clear hE a; intro a hE
    refine WL.vS hS hE (runs_plain rfl) (Gives.p hE rfl) rfl ?_; clear hE a; intro a hE
    refine WL.nil ?_
    refine W.cond hE rfl (fun hc53 => ?_) (fun hc53 => ?_)
    · replace hr := iteT hc53 hr
      refine W.seq ?_
      refine W.region ?_
      refine WL.vS hS hE (runs_plain rfl) (Gives.p hE rfl) rfl ?_; clear hE a; intro a hE
      refine WL.vS hS hE (runs_plain rfl) (Gives.p hE rfl) rfl ?_; clear hE a; intro a hE
      refine WL.vS hS hE (runs_plain rfl) (Gives.p hE rfl) rfl ?_; clear hE a; intro a hE
      refine WL.nil ?_
      refine W.ret ?_
      refine finG (fn := Try.f87) (rs := [.tmp 6, .tmp 7]) (vs := [_, _]) hE rfl ⟨rfl, rfl, trivial⟩ ?_
      obtain rfl := Option.some.inj hr
      replace hS := hS.tail
      exact ⟨rfl, hS⟩
    · replace hr := iteF hc53 hr
      refine W.skip ?_
      refine W.seq ?_
      refine W.seq ?_
      refine W.region ?_
      refine WL.vS hS hE (runs_plain rfl) (Gives.p hE rfl) rfl ?_; clear hE a; intro a hE
      refine WL.vS hS hE (runs_plain rfl) (Gives.p hE rfl) rfl ?_; clear hE a; intro a hE
      refine WL.fnq hE (FleetcheckRoster_ok hS h0 h1 rfl (r := FleetcheckRoster x0 x1)) (runs_plain rfl) bd123 rfl rfl rfl ?_
      clear hE hS; rintro e w ⟨rfl, hS⟩; refine ⟨_, rfl, ?_⟩; clear a; intro a hE
      refine WL.vS hS hE (runs_plain rfl) (Gives.p hE rfl) rfl ?_; clear hE a; intro a hE
      refine WL.nil ?_
      refine W.seq ?_
      refine W.region ?_
      refine WL.vS hS hE (runs_plain rfl) (Gives.p hE rfl) rfl ?_; clear hE a; intro a hE
      refine WL.vS hS hE (runs_plain rfl) (Gives.p hE rfl) rfl ?_; clear hE a; intro a hE
      refine WL.nil ?_
      refine W.cond hE rfl (fun hc54 => ?_) (fun hc54 => ?_)
      · replace hr := iteT hc54 hr
        refine W.seq ?_
        refine W.region ?_
        refine WL.vS hS hE (runs_plain rfl) (Gives.p hE rfl) rfl ?_; clear hE a; intro a hE
        refine WL.vS hS hE (runs_plain rfl) (Gives.p hE rfl) rfl ?_; clear hE a; intro a hE
        refine WL.vS hS hE (runs_plain rfl) (Gives.p hE rfl) rfl ?_; clear hE a; intro a hE
        refine WL.nil ?_
        refine W.ret ?_
        refine finG (fn := Try.f87) (rs := [.tmp 6, .tmp 7]) (vs := [_, _]) hE rfl ⟨rfl, rfl, trivial⟩ ?_
        obtain rfl := Option.some.inj hr
        replace hS := hS.tail
        exact ⟨rfl, hS⟩
      · replace hr := iteF hc54 hr
        refine W.skip ?_
        refine W.seq ?_
        refine W.region ?_
        refine WL.vS hS hE (runs_plain rfl) (Gives.p hE rfl) rfl ?_; clear hE a; intro a hE
        refine WL.vS hS hE (runs_plain rfl) (Gives.p hE rfl) rfl ?_; clear hE a; intro a hE
        refine WL.vS hS hE (runs_plain rfl) (Gives.loadBA hE 0 rfl rfl ty24) rfl ?_; clear hE a; intro a hE
        obtain ⟨q55, hq56, hr⟩ := bindS hr
        have hc_ := FleetjudgeRoster_ok hS h0 h1 hq56
        refine WL.fnq hE (hc_) (runs_plain rfl) bd124 rfl rfl rfl ?_
        clear hE hS hc_; rintro e w ⟨rfl, hS⟩; refine ⟨_, rfl, ?_⟩; clear a; intro a hE
        refine WL.vS hS hE (runs_plain rfl) (Gives.p hE rfl) rfl ?_; clear hE a; intro a hE
        refine WL.vS hS hE (runs_plain rfl) (Gives.p hE rfl) rfl ?_; clear hE a; intro a hE
        refine WL.nil ?_
        refine W.ret ?_
        refine finG (fn := Try.f87) (rs := [.tmp 6, .tmp 7]) (vs := [_, _]) hE rfl ⟨rfl, rfl, trivial⟩ ?_
        obtain rfl := Option.some.inj hr
        replace hS := hS.tail
        exact ⟨rfl, hS⟩
set_option maxHeartbeats 8000000 in
theorem SlicesCloneLLint_v1_ok  {w : World} {s : Sg} {R : List HP} {x0 : List (List Int)} {a_v0 : Option Addr} {c_v0 n_v0 : Nat} {cs_v0 : List Value} (hS : St w s (vecC 44 1 a_v0 c_v0 n_v0 cs_v0 :: R)) (h_v0 : Ev 1 (RL 1 (RI .i64)) s cs_v0 x0) (hn_v0 : x0.length = n_v0) {r : (List (List Int))} (hr : SlicesCloneLLint_v1 x0 = some r) :
    Calls Try.prog 40 [.slice a_v0 n_v0 c_v0].toArray w (fun e w => ∃ (a0 : Option Addr) (c0 n0 : Nat) (cs0 : List Value), e = .returned (.slice a0 n0 c0) ∧ Ev 1 (RL 1 (RI .i64)) s cs0 r ∧ r.length = n0 ∧ St w s (vecC 44 1 a0 c0 n0 cs0 :: vecC 44 1 a_v0 c_v0 n_v0 cs_v0 :: R)) := by
  refine enter Try.func40 rfl rfl rfl fun a hE => ?_
  rw [SlicesCloneLLint_v1] at hr
  subst hn_v0
  refine W.seq ?_
  refine W.region ?_
  refine WL.vS hS hE (runs_plain rfl) (Gives.p hE rfl) rfl ?_; clear hE a; intro a hE
  refine WL.nil ?_
  refine W.seq ?_
  refine W.seq ?_
  refine W.region ?_
  refine WL.vS hS hE (runs_plain rfl) (Gives.p hE rfl) rfl ?_; clear hE a; intro a hE
  refine WL.vS hS hE (runs_plain rfl) (Gives.isNil hE rfl rfl isl25) rfl ?_; clear hE a; intro a hE
  refine WL.nil ?_
  rcases a_v0 with _ | g51
  · obtain rfl := List.eq_nil_of_length_eq_zero (hS.vecNone 0 rfl)
    replace hr : some [] = _ := hr
    refine W.condT hE rfl rfl ?_
    refine W.seq ?_
    refine W.region ?_
    refine WL.vS hS hE (runs_plain rfl) (Gives.p hE rfl) rfl ?_; clear hE a; intro a hE
    refine WL.nil ?_
    refine W.ret ?_
    replace hS := hS.vecNil 44 1
    refine finG (fn := Try.f40) (rs := [.tmp 2]) (vs := [_]) hE rfl ⟨rfl, trivial⟩ ?_
    obtain rfl := Option.some.inj hr
    exact ⟨none, 0, 0, [], rfl, (Ev.nil), (rfl), hS⟩
  · skip
    refine W.condF hE rfl rfl ?_
    refine W.skip ?_
    refine W.seq ?_
    refine W.region ?_
    refine WL.lit hE hS (e := 44) (es := 1) (vs := []) (cs := []) (runs_plain rfl) rfl (by kernel_rfl) rfl ?_; clear hE hS a w; intro b53 a w hE hS
    replace hS := hS.ptVec (es := 1) (m := 0) rfl (by decide)
    have h55 : Ev 1 (RL 1 (RI .i64)) s [] [] := (Ev.nil)
    refine WL.vS hS hE (runs_plain rfl) (Gives.p hE rfl) rfl ?_; clear hE a; intro a hE
    obtain ⟨x56, hx57, hr⟩ := bindS hr
    refine WL.appO hE hS 0 1 (runs_plain rfl) rfl rfl rfl rfl ap25 RL.one h55 (rfl) h_v0 (rfl) hx57 rfl ?_; clear hE hS a w; intro a58 c59 cs60 a w h61 hE hS
    refine WL.vS hS hE (runs_plain rfl) (Gives.p hE rfl) rfl ?_; clear hE a; intro a hE
    refine WL.nil ?_
    refine W.ret ?_
    refine finG (fn := Try.f40) (rs := [.tmp 2]) (vs := [_]) hE rfl ⟨rfl, trivial⟩ ?_
    obtain rfl := Option.some.inj hr
    exact ⟨a58, c59, x56.length, cs60, rfl, h61, (rfl), hS⟩
theorem SlicesCloneLLint_f_ok {u : Sg}  {w : World} {s : Sg} {R : List HP} {x0 : List (List Int)} {a_v0 : Option Addr} {c_v0 n_v0 : Nat} {cs_v0 : List Value} (hS : St w s (vecC 44 1 a_v0 c_v0 n_v0 cs_v0 :: R)) (h_v0 : Ev 1 (RF u) s cs_v0 x0) (hn_v0 : x0.length = n_v0) {r : (List (List Int))} (hr : SlicesCloneLLint_v1 x0 = some r) :
    Calls Try.prog 40 [.slice a_v0 n_v0 c_v0].toArray w (fun e w => ∃ (a0 : Option Addr) (c0 n0 : Nat) (cs0 : List Value), e = .returned (.slice a0 n0 c0) ∧ Ev 1 (RF u) s cs0 r ∧ r.length = n0 ∧ St w s (vecC 44 1 a0 c0 n0 cs0 :: vecC 44 1 a_v0 c_v0 n_v0 cs_v0 :: R)) := by
  refine enter Try.func40 rfl rfl rfl fun a hE => ?_
  rw [SlicesCloneLLint_v1] at hr
  subst hn_v0
  refine W.seq ?_
  refine W.region ?_
  refine WL.vS hS hE (runs_plain rfl) (Gives.p hE rfl) rfl ?_; clear hE a; intro a hE
  refine WL.nil ?_
  refine W.seq ?_
  refine W.seq ?_
  refine W.region ?_
  refine WL.vS hS hE (runs_plain rfl) (Gives.p hE rfl) rfl ?_; clear hE a; intro a hE
  refine WL.vS hS hE (runs_plain rfl) (Gives.isNil hE rfl rfl isl25) rfl ?_; clear hE a; intro a hE
  refine WL.nil ?_
  rcases a_v0 with _ | g51
  · obtain rfl := List.eq_nil_of_length_eq_zero (hS.vecNone 0 rfl)
    replace hr : some [] = _ := hr
    refine W.condT hE rfl rfl ?_
    refine W.seq ?_
    refine W.region ?_
    refine WL.vS hS hE (runs_plain rfl) (Gives.p hE rfl) rfl ?_; clear hE a; intro a hE
    refine WL.nil ?_
    refine W.ret ?_
    replace hS := hS.vecNil 44 1
    refine finG (fn := Try.f40) (rs := [.tmp 2]) (vs := [_]) hE rfl ⟨rfl, trivial⟩ ?_
    obtain rfl := Option.some.inj hr
    exact ⟨none, 0, 0, [], rfl, (Ev.nil), (rfl), hS⟩
  · skip
    refine W.condF hE rfl rfl ?_
    refine W.skip ?_
    refine W.seq ?_
    refine W.region ?_
    refine WL.lit hE hS (e := 44) (es := 1) (vs := []) (cs := []) (runs_plain rfl) rfl (by kernel_rfl) rfl ?_; clear hE hS a w; intro b53 a w hE hS
    replace hS := hS.ptVec (es := 1) (m := 0) rfl (by decide)
    have h55 : Ev 1 (RF u) s [] [] := (Ev.nil)
    refine WL.vS hS hE (runs_plain rfl) (Gives.p hE rfl) rfl ?_; clear hE a; intro a hE
    obtain ⟨x56, hx57, hr⟩ := bindS hr
    refine WL.appO hE hS 0 1 (runs_plain rfl) rfl rfl rfl rfl ap25 RF.one h55 (rfl) h_v0 (rfl) hx57 rfl ?_; clear hE hS a w; intro a58 c59 cs60 a w h61 hE hS
    refine WL.vS hS hE (runs_plain rfl) (Gives.p hE rfl) rfl ?_; clear hE a; intro a hE
    refine WL.nil ?_
    refine W.ret ?_
    refine finG (fn := Try.f40) (rs := [.tmp 2]) (vs := [_]) hE rfl ⟨rfl, trivial⟩ ?_
    obtain rfl := Option.some.inj hr
    exact ⟨a58, c59, x56.length, cs60, rfl, h61, (rfl), hS⟩
set_option maxHeartbeats 8000000 in
theorem SlicesCloneLint_ok  {w : World} {s : Sg} {R : List HP} {x0 : List Int} {a0 : Option Addr} {c0 : Nat} (hS : St w s (R)) (h0 : Sl 1 (RI .i64) s a0 c0 x0) {r : (List Int)} (hr : SlicesCloneLint x0 = some r) :
    Calls Try.prog 41 [.slice a0 x0.length c0].toArray w (fun e w => ∃ (a0 : Option Addr) (c0 n0 : Nat) (cs0 : List Value), e = .returned (.slice a0 n0 c0) ∧ Ev 1 (RI .i64) s cs0 r ∧ r.length = n0 ∧ St w s (vecC 3 1 a0 c0 n0 cs0 :: R)) := by
  refine enter Try.func41 rfl rfl rfl fun a hE => ?_
  rw [SlicesCloneLint] at hr
  refine W.seq ?_
  refine W.region ?_
  refine WL.vS hS hE (runs_plain rfl) (Gives.p hE rfl) rfl ?_; clear hE a; intro a hE
  refine WL.nil ?_
  refine W.seq ?_
  refine W.seq ?_
  refine W.region ?_
  refine WL.vS hS hE (runs_plain rfl) (Gives.p hE rfl) rfl ?_; clear hE a; intro a hE
  refine WL.vS hS hE (runs_plain rfl) (Gives.isNil hE rfl rfl isl44) rfl ?_; clear hE a; intro a hE
  refine WL.nil ?_
  rcases a0 with _ | g51
  · obtain rfl := h0.none_nil
    replace hr : some [] = _ := hr
    refine W.condT hE rfl rfl ?_
    refine W.seq ?_
    refine W.region ?_
    refine WL.vS hS hE (runs_plain rfl) (Gives.p hE rfl) rfl ?_; clear hE a; intro a hE
    refine WL.nil ?_
    refine W.ret ?_
    replace hS := hS.vecNil 3 1
    refine finG (fn := Try.f41) (rs := [.tmp 2]) (vs := [_]) hE rfl ⟨rfl, trivial⟩ ?_
    obtain rfl := Option.some.inj hr
    exact ⟨none, 0, 0, [], rfl, (Ev.nil), (rfl), hS⟩
  · skip
    refine W.condF hE rfl rfl ?_
    refine W.skip ?_
    refine W.seq ?_
    refine W.region ?_
    refine WL.lit hE hS (e := 3) (es := 1) (vs := []) (cs := []) (runs_plain rfl) rfl (by kernel_rfl) rfl ?_; clear hE hS a w; intro b53 a w hE hS
    replace hS := hS.ptVec (es := 1) (m := 0) rfl (by decide)
    have h55 : Ev 1 (RI .i64) s [] [] := (Ev.nil)
    refine WL.vS hS hE (runs_plain rfl) (Gives.p hE rfl) rfl ?_; clear hE a; intro a hE
    obtain ⟨x56, hx57, hr⟩ := bindS hr
    refine WL.appS hE hS 0 (runs_plain rfl) rfl rfl (xs := x0) rfl rfl ap44 RI.one h55 (rfl) h0 hx57 rfl ?_; clear hE hS a w; intro a58 c59 cs60 a w h61 hE hS
    refine WL.vS hS hE (runs_plain rfl) (Gives.p hE rfl) rfl ?_; clear hE a; intro a hE
    refine WL.nil ?_
    refine W.ret ?_
    refine finG (fn := Try.f41) (rs := [.tmp 2]) (vs := [_]) hE rfl ⟨rfl, trivial⟩ ?_
    obtain rfl := Option.some.inj hr
    exact ⟨a58, c59, x56.length, cs60, rfl, h61, (rfl), hS⟩
set_option maxHeartbeats 8000000 in
theorem Fleetfits_ok  {w : World} {s : Sg} {R : List HP} {x0 : List FleetShift} {a0 : Option Addr} {c0 : Nat} {x1 : List Int} {a1 : Option Addr} {c1 : Nat} {x2 : FleetLimits} (hS : St w s (R)) (h0 : Sl 3 RFleetShift s a0 c0 x0) (h1 : Sl 1 (RI .i64) s a1 c1 x1) {r : Bool} (hr : Fleetfits x0 x1 x2 = some r) :
    Calls Try.prog 42 [.slice a0 x0.length c0, .slice a1 x1.length c1, .agg (FleetLimits.cells x2).toArray].toArray w (fun e w => e = .returned (.bool r) ∧ St w s (R)) := by
  refine enter Try.func42 rfl rfl rfl fun a hE => ?_
  rw [Fleetfits] at hr
  refine W.seq ?_
  refine W.region ?_
  refine WL.box hE hS (runs_plain rfl) rfl rfl rfl ?_; clear hE hS a w; intro b51 a w hE hS
  refine WL.vS hS hE (runs_plain rfl) (Gives.p hE rfl) rfl ?_; clear hE a; intro a hE
  refine WL.nil ?_
  refine W.seq ?_
  refine W.region ?_
  refine WL.vS hS hE (runs_plain rfl) (Gives.p hE rfl) rfl ?_; clear hE a; intro a hE
  refine WL.vS hS hE (runs_plain rfl) (Gives.p hE rfl) rfl ?_; clear hE a; intro a hE
  refine WL.vS hS hE (runs_plain rfl) (Gives.loadBA hE 0 rfl rfl ty24) rfl ?_; clear hE a; intro a hE
  obtain ⟨q52, hq53, hr⟩ := bindS hr
  have hc_ := FleetdriverBreaks_ok hS h0 h1 hq53
  refine WL.fnq hE (hc_) (runs_plain rfl) bd94 rfl rfl rfl ?_
  clear hE hS hc_; rintro e w ⟨rfl, hS⟩; refine ⟨_, rfl, ?_⟩; clear a; intro a hE
  refine WL.vS hS hE (runs_plain rfl) (Gives.p hE rfl) rfl ?_; clear hE a; intro a hE
  refine WL.vS hS hE (runs_plain rfl) (Gives.p hE rfl) rfl ?_; clear hE a; intro a hE
  refine WL.vS hS hE (runs_plain rfl) (Gives.p hE rfl) rfl ?_; clear hE a; intro a hE
  refine WL.vS hS hE (runs_plain rfl) (Gives.p hE rfl) rfl ?_; clear hE a; intro a hE
  refine WL.vS hS hE (runs_plain rfl) (Gives.p hE rfl) rfl ?_; clear hE a; intro a hE
  refine WL.vS hS hE (runs_plain rfl) (Gives.p hE rfl) rfl ?_; clear hE a; intro a hE
  refine WL.vS hS hE (runs_plain rfl) (Gives.p hE rfl) rfl ?_; clear hE a; intro a hE
  refine WL.nil ?_
  refine W.seq ?_
  obtain ⟨q55, hq54, hr⟩ := bndS hr
  refine W.cut (fun a w => ∃ (q58 : Bool), q58 = q55 ∧ Rep a 28 [(6, .bool q58)] ∧ St w s (pt b51 (.cells (FleetLimits.cells x2).toArray 24 (0, 0)) :: R)) ?_ ?_
  · refine W.gen fun K59 hK59 => ?_
    refine W.region ?_
    refine WL.vS hS hE (runs_plain rfl) (Gives.p hE rfl) rfl ?_; clear hE a; intro a hE
    refine WL.vS hS hE (runs_plain rfl) (Gives.p hE rfl) rfl ?_; clear hE a; intro a hE
    refine WL.vS hS hE (runs_plain rfl) (Gives.p hE rfl) rfl ?_; clear hE a; intro a hE
    rcases Bool.eq_false_or_eq_true !q52.1 with hg60 | hg60
    · replace hq54 := iteT hg60 hq54
      refine WL.vS hS hE (runs_if hE rfl rfl rfl hg60) (Gives.p hE rfl) rfl ?_; clear hE a; intro a hE
      refine WL.vS hS hE (runs_if hE rfl rfl rfl hg60) (Gives.p hE rfl) rfl ?_; clear hE a; intro a hE
      refine WL.vS hS hE (runs_plain rfl) (Gives.pickT hE rfl hg60 rfl) rfl ?_; clear hE a; intro a hE
      refine WL.vS hS hE (runs_plain rfl) (Gives.p hE rfl) rfl ?_; clear hE a; intro a hE
      rcases Bool.eq_false_or_eq_true !q52.2.1 with hg61 | hg61
      · replace hq54 := iteT hg61 hq54
        refine WL.vS hS hE (runs_if hE rfl rfl rfl hg61) (Gives.p hE rfl) rfl ?_; clear hE a; intro a hE
        refine WL.vS hS hE (runs_if hE rfl rfl rfl hg61) (Gives.p hE rfl) rfl ?_; clear hE a; intro a hE
        refine WL.vS hS hE (runs_plain rfl) (Gives.pickT hE rfl hg61 rfl) rfl ?_; clear hE a; intro a hE
        refine WL.vS hS hE (runs_plain rfl) (Gives.p hE rfl) rfl ?_; clear hE a; intro a hE
        refine WL.nil ?_
        subst hK59
        exact ⟨!q52.2.2, hq54, hE.pick _ ⟨rfl, trivial⟩, hS⟩
      · replace hq54 := iteF hg61 hq54
        refine WL.no hE (runs_not hE rfl rfl rfl (by rw [hg61]; decide)) rfl ?_; clear hE a; intro a hE
        refine WL.no hE (runs_not hE rfl rfl rfl (by rw [hg61]; decide)) rfl ?_; clear hE a; intro a hE
        refine WL.vS hS hE (runs_plain rfl) (Gives.pickF hE rfl hg61 rfl) rfl ?_; clear hE a; intro a hE
        refine WL.vS hS hE (runs_plain rfl) (Gives.p hE rfl) rfl ?_; clear hE a; intro a hE
        refine WL.nil ?_
        subst hK59
        exact ⟨false, hq54, hE.pick _ ⟨rfl, trivial⟩, hS⟩
    · replace hq54 := iteF hg60 hq54
      refine WL.no hE (runs_not hE rfl rfl rfl (by rw [hg60]; decide)) rfl ?_; clear hE a; intro a hE
      refine WL.no hE (runs_not hE rfl rfl rfl (by rw [hg60]; decide)) rfl ?_; clear hE a; intro a hE
      refine WL.vS hS hE (runs_plain rfl) (Gives.pickF hE rfl hg60 rfl) rfl ?_; clear hE a; intro a hE
      refine WL.vS hS hE (runs_plain rfl) (Gives.p hE rfl) rfl ?_; clear hE a; intro a hE
      refine WL.no hE (runs_not hE rfl rfl rfl (by decide)) rfl ?_; clear hE a; intro a hE
      refine WL.no hE (runs_not hE rfl rfl rfl (by decide)) rfl ?_; clear hE a; intro a hE
      refine WL.vS hS hE (runs_plain rfl) (Gives.pickF hE rfl rfl rfl) rfl ?_; clear hE a; intro a hE
      refine WL.vS hS hE (runs_plain rfl) (Gives.p hE rfl) rfl ?_; clear hE a; intro a hE
      refine WL.nil ?_
      subst hK59
      exact ⟨false, hq54, hE.pick _ ⟨rfl, trivial⟩, hS⟩
  · clear hE hS a w; rintro a w ⟨q58, rfl, hE, hS⟩
    refine W.ret ?_
    refine finG (fn := Try.f42) (rs := [.tmp 6]) (vs := [_]) hE rfl ⟨rfl, trivial⟩ ?_
    obtain rfl := Option.some.inj hr
    replace hS := hS.tail
    exact ⟨rfl, hS⟩
set_option maxHeartbeats 8000000 in
theorem FleetStandIns_1_v1_ok {u : Sg} : ∀ {fu : Nat} {w : World} {s : Sg} {R : List HP} {pb0 : Nat} {pb1 : Nat} {pb2 : Nat} {pb3 : Nat} {pb4 : Nat} {pb5 : Nat} {pb6 : Nat} {pb7 : Nat} {pb8 : Nat} {pb9 : Nat} {x0 : Int} {y0 : List (List Int)} {a_y0_0 : Option Addr} {c_y0_0 : Nat} {y1 : List Int} {a_v0 : Option Addr} {c_v0 n_v0 : Nat} {cs_v0 : List Value} {y2 : List Int} {a_y2_0 : Option Addr} {c_y2_0 : Nat} {y3 : List Int} {a_v1 : Option Addr} {c_v1 n_v1 : Nat} {cs_v1 : List Value} {y4 : List (List Int)} {a_v2 : Option Addr} {c_v2 n_v2 : Nat} {cs_v2 : List Value} {y5_0 : List (Int × Int)} {b_v3 : Nat} {y6_0 : List (FleetAbsence × Bool)} {b_v4 : Nat} {y7 : List FleetShift} {a_y7_0 : Option Addr} {c_y7_0 : Nat} {y8 : FleetLimits} (_hS : St w s (pt pb0 (.cells #[.slice a_y0_0 y0.length c_y0_0] 25 (0, 0)) :: pt pb1 (.cells #[.slice a_v0 n_v0 c_v0] 44 (0, 0)) :: pt pb2 (.cells #[.slice a_y2_0 y2.length c_y2_0] 44 (0, 0)) :: pt pb3 (.cells #[.slice a_v1 n_v1 c_v1] 44 (0, 0)) :: pt pb4 (.cells #[.slice a_v2 n_v2 c_v2] 25 (0, 0)) :: pt pb5 (.cells #[.map (some b_v3)] 124 (0, 0)) :: pt pb6 (.cells #[.map (some b_v4)] 121 (0, 0)) :: pt pb7 (.cells #[.slice a_y7_0 y7.length c_y7_0] 22 (0, 0)) :: pt pb8 (.cells #[.int .i64 y8.Change, .int .i64 y8.Long, .int .i64 y8.Work, .int .i64 y8.After, .int .i64 y8.Break, .int .i64 y8.Rest, .int .i64 y8.Row] 24 (0, 0)) :: pt pb9 (.cells #[.func (.func 89) #[] #[.pointer (some ⟨pb0, 0, none⟩), .pointer (some ⟨pb1, 0, none⟩), .pointer (some ⟨pb2, 0, none⟩), .pointer (some ⟨pb3, 0, none⟩), .pointer (some ⟨pb4, 0, none⟩), .pointer (some ⟨pb5, 0, none⟩), .pointer (some ⟨pb6, 0, none⟩), .pointer (some ⟨pb7, 0, none⟩), .pointer (some ⟨pb8, 0, none⟩), .pointer (some ⟨pb9, 0, none⟩)]] 66 (0, 0)) :: vecC 3 1 a_v0 c_v0 n_v0 cs_v0 :: vecC 3 1 a_v1 c_v1 n_v1 cs_v1 :: vecC 44 1 a_v2 c_v2 n_v2 cs_v2 :: mapC keyI.f (Value.int .i64) b_v3 y5_0 :: mapC keyFleetAbsence.f Value.bool b_v4 y6_0 :: R)) (_h_y0_0 : Sl 1 (RF u) s a_y0_0 c_y0_0 y0) (_hz_y0_0 : y0 = [] → a_y0_0 = none) (_h_v0 : Ev 1 (RI .i64) s cs_v0 y1) (_hn_v0 : y1.length = n_v0) (_h_y2_0 : Sl 1 (RI .i64) s a_y2_0 c_y2_0 y2) (_h_v1 : Ev 1 (RI .i64) s cs_v1 y3) (_hn_v1 : y3.length = n_v1) (_h_v2 : Ev 1 (RF u) s cs_v2 y4) (_hn_v2 : y4.length = n_v2) (_h_y7_0 : Sl 3 RFleetShift s a_y7_0 c_y7_0 y7) (_hu : u.Le s) {r : (List (List Int)) × (List (List Int)) × (List Int) × (List Int)} (_hr : FleetStandIns_1_v1 fu x0 y0 y1 y2 y3 y4 y5_0 y6_0 y7 y8 = some r),
    Calls Try.prog 89 [.int .i64 x0, .pointer (some ⟨pb0, 0, none⟩), .pointer (some ⟨pb1, 0, none⟩), .pointer (some ⟨pb2, 0, none⟩), .pointer (some ⟨pb3, 0, none⟩), .pointer (some ⟨pb4, 0, none⟩), .pointer (some ⟨pb5, 0, none⟩), .pointer (some ⟨pb6, 0, none⟩), .pointer (some ⟨pb7, 0, none⟩), .pointer (some ⟨pb8, 0, none⟩), .pointer (some ⟨pb9, 0, none⟩)].toArray w (fun e w => ∃ (cs77 : List Value) (a80 : Option Addr) (c81 : Nat) (a85 : Option Addr) (c86 : Nat) (n88 : Nat) (cs89 : List Value) (a92 : Option Addr) (c93 : Nat) (t : Sg), e = .returned (.tuple #[]) ∧ s.Le t ∧ Ev 1 (RF u) t cs77 r.1 ∧ r.1.length = n_v2 ∧ Sl 1 (RF u) t a80 c81 r.2.1 ∧ (r.2.1 = [] → a80 = none) ∧ Ev 1 (RI .i64) t cs89 r.2.2.1 ∧ r.2.2.1.length = n88 ∧ Sl 1 (RI .i64) t a92 c93 r.2.2.2 ∧ St w t (pt pb0 (.cells #[.slice a80 r.2.1.length c81] 25 (0, 0)) :: pt pb1 (.cells #[.slice a85 n88 c86] 44 (0, 0)) :: pt pb2 (.cells #[.slice a92 r.2.2.2.length c93] 44 (0, 0)) :: pt pb3 (.cells #[.slice a_v1 n_v1 c_v1] 44 (0, 0)) :: pt pb4 (.cells #[.slice a_v2 n_v2 c_v2] 25 (0, 0)) :: pt pb5 (.cells #[.map (some b_v3)] 124 (0, 0)) :: pt pb6 (.cells #[.map (some b_v4)] 121 (0, 0)) :: pt pb7 (.cells #[.slice a_y7_0 y7.length c_y7_0] 22 (0, 0)) :: pt pb8 (.cells #[.int .i64 y8.Change, .int .i64 y8.Long, .int .i64 y8.Work, .int .i64 y8.After, .int .i64 y8.Break, .int .i64 y8.Rest, .int .i64 y8.Row] 24 (0, 0)) :: pt pb9 (.cells #[.func (.func 89) #[] #[.pointer (some ⟨pb0, 0, none⟩), .pointer (some ⟨pb1, 0, none⟩), .pointer (some ⟨pb2, 0, none⟩), .pointer (some ⟨pb3, 0, none⟩), .pointer (some ⟨pb4, 0, none⟩), .pointer (some ⟨pb5, 0, none⟩), .pointer (some ⟨pb6, 0, none⟩), .pointer (some ⟨pb7, 0, none⟩), .pointer (some ⟨pb8, 0, none⟩), .pointer (some ⟨pb9, 0, none⟩)]] 66 (0, 0)) :: vecC 3 1 a85 c86 n88 cs89 :: vecC 3 1 a_v1 c_v1 n_v1 cs_v1 :: vecC 44 1 a_v2 c_v2 n_v2 cs77 :: mapC keyI.f (Value.int .i64) b_v3 y5_0 :: mapC keyFleetAbsence.f Value.bool b_v4 y6_0 :: R)) := by
  intro fu
  induction fu with
  | zero => intro w s R pb0 pb1 pb2 pb3 pb4 pb5 pb6 pb7 pb8 pb9 x0 y0 a_y0_0 c_y0_0 y1 a_v0 c_v0 n_v0 cs_v0 y2 a_y2_0 c_y2_0 y3 a_v1 c_v1 n_v1 cs_v1 y4 a_v2 c_v2 n_v2 cs_v2 y5_0 b_v3 y6_0 b_v4 y7 a_y7_0 c_y7_0 y8 hS h_y0_0 hz_y0_0 h_v0 hn_v0 h_y2_0 h_v1 hn_v1 h_v2 hn_v2 h_y7_0 hu r hr; rw [FleetStandIns_1_v1] at hr; exact absurd hr (by simp)
  | succ fu ih_FleetStandIns_1_v1 =>
    intro w s R pb0 pb1 pb2 pb3 pb4 pb5 pb6 pb7 pb8 pb9 x0 y0 a_y0_0 c_y0_0 y1 a_v0 c_v0 n_v0 cs_v0 y2 a_y2_0 c_y2_0 y3 a_v1 c_v1 n_v1 cs_v1 y4 a_v2 c_v2 n_v2 cs_v2 y5_0 b_v3 y6_0 b_v4 y7 a_y7_0 c_y7_0 y8 hS h_y0_0 hz_y0_0 h_v0 hn_v0 h_y2_0 h_v1 hn_v1 h_v2 hn_v2 h_y7_0 hu r hr
    rw [FleetStandIns_1_v1] at hr
    generalize FleetStandIns_1_v1 fu = self_FleetStandIns_1_v1 at hr ih_FleetStandIns_1_v1
    refine enter Try.func89 rfl rfl rfl fun a hE => ?_
    subst hn_v0
    subst hn_v1
    subst hn_v2
    refine W.seq ?_
    refine W.seq ?_
    obtain ⟨q96, hq95, hr⟩ := bndS hr
    refine W.cut (fun a w => ∃ (q99 : Bool), q99 = q96 ∧ Rep a 96 [(0, .int .i64 x0), (1, .pointer (some ⟨pb0, 0, none⟩)), (2, .pointer (some ⟨pb1, 0, none⟩)), (3, .pointer (some ⟨pb2, 0, none⟩)), (4, .pointer (some ⟨pb3, 0, none⟩)), (5, .pointer (some ⟨pb4, 0, none⟩)), (6, .pointer (some ⟨pb5, 0, none⟩)), (7, .pointer (some ⟨pb6, 0, none⟩)), (8, .pointer (some ⟨pb7, 0, none⟩)), (9, .pointer (some ⟨pb8, 0, none⟩)), (10, .pointer (some ⟨pb9, 0, none⟩)), (23, .bool q99)] ∧ St w s (pt pb0 (.cells #[.slice a_y0_0 y0.length c_y0_0] 25 (0, 0)) :: pt pb1 (.cells #[.slice a_v0 y1.length c_v0] 44 (0, 0)) :: pt pb2 (.cells #[.slice a_y2_0 y2.length c_y2_0] 44 (0, 0)) :: pt pb3 (.cells #[.slice a_v1 y3.length c_v1] 44 (0, 0)) :: pt pb4 (.cells #[.slice a_v2 y4.length c_v2] 25 (0, 0)) :: pt pb5 (.cells #[.map (some b_v3)] 124 (0, 0)) :: pt pb6 (.cells #[.map (some b_v4)] 121 (0, 0)) :: pt pb7 (.cells #[.slice a_y7_0 y7.length c_y7_0] 22 (0, 0)) :: pt pb8 (.cells #[.int .i64 y8.Change, .int .i64 y8.Long, .int .i64 y8.Work, .int .i64 y8.After, .int .i64 y8.Break, .int .i64 y8.Rest, .int .i64 y8.Row] 24 (0, 0)) :: pt pb9 (.cells #[.func (.func 89) #[] #[.pointer (some ⟨pb0, 0, none⟩), .pointer (some ⟨pb1, 0, none⟩), .pointer (some ⟨pb2, 0, none⟩), .pointer (some ⟨pb3, 0, none⟩), .pointer (some ⟨pb4, 0, none⟩), .pointer (some ⟨pb5, 0, none⟩), .pointer (some ⟨pb6, 0, none⟩), .pointer (some ⟨pb7, 0, none⟩), .pointer (some ⟨pb8, 0, none⟩), .pointer (some ⟨pb9, 0, none⟩)]] 66 (0, 0)) :: vecC 3 1 a_v0 c_v0 y1.length cs_v0 :: vecC 3 1 a_v1 c_v1 y3.length cs_v1 :: vecC 44 1 a_v2 c_v2 y4.length cs_v2 :: mapC keyI.f (Value.int .i64) b_v3 y5_0 :: mapC keyFleetAbsence.f Value.bool b_v4 y6_0 :: R)) ?_ ?_
    · refine W.gen fun K100 hK100 => ?_
      refine W.region ?_
      refine WL.vS hS hE (runs_plain rfl) (Gives.loadB hE 0 rfl rfl rfl ty25) rfl ?_; clear hE a; intro a hE
      refine WL.vS hS hE (runs_plain rfl) (Gives.notNilZ hE (isNone_eq h_y0_0 hz_y0_0) rfl rfl isl25) rfl ?_; clear hE a; intro a hE
      refine WL.vS hS hE (runs_plain rfl) (Gives.p hE rfl) rfl ?_; clear hE a; intro a hE
      rcases Bool.eq_false_or_eq_true !y0.isEmpty with hg101 | hg101
      · replace hq95 := iteT hg101 hq95
        refine WL.vS hS hE (runs_if hE rfl rfl rfl hg101) (Gives.loadB hE 1 rfl rfl rfl ty44) rfl ?_; clear hE a; intro a hE
        refine WL.vS hS hE (runs_if hE rfl rfl rfl hg101) (Gives.len hE rfl sl44) rfl ?_; clear hE a; intro a hE
        refine WL.vS hS hE (runs_if hE rfl rfl rfl hg101) (Gives.loadB hE 2 rfl rfl rfl ty44) rfl ?_; clear hE a; intro a hE
        refine WL.vS hS hE (runs_if hE rfl rfl rfl hg101) (Gives.len hE rfl sl44) rfl ?_; clear hE a; intro a hE
        refine WL.vS hS hE (runs_if hE rfl rfl rfl hg101) (Gives.p hE rfl) rfl ?_; clear hE a; intro a hE
        refine WL.vS hS hE (runs_plain rfl) (Gives.pickT hE rfl hg101 rfl) rfl ?_; clear hE a; intro a hE
        refine WL.nil ?_
        subst hK100
        exact ⟨decide (((y1.length : Nat) : Int) ≥ ((y2).length : Int)), hq95, hE.pick _ ⟨rfl, rfl, rfl, rfl, rfl, rfl, rfl, rfl, rfl, rfl, rfl, rfl, trivial⟩, hS⟩
      · replace hq95 := iteF hg101 hq95
        refine WL.no hE (runs_not hE rfl rfl rfl (by rw [hg101]; decide)) rfl ?_; clear hE a; intro a hE
        refine WL.no hE (runs_not hE rfl rfl rfl (by rw [hg101]; decide)) rfl ?_; clear hE a; intro a hE
        refine WL.no hE (runs_not hE rfl rfl rfl (by rw [hg101]; decide)) rfl ?_; clear hE a; intro a hE
        refine WL.no hE (runs_not hE rfl rfl rfl (by rw [hg101]; decide)) rfl ?_; clear hE a; intro a hE
        refine WL.no hE (runs_not hE rfl rfl rfl (by rw [hg101]; decide)) rfl ?_; clear hE a; intro a hE
        refine WL.vS hS hE (runs_plain rfl) (Gives.pickF hE rfl hg101 rfl) rfl ?_; clear hE a; intro a hE
        refine WL.nil ?_
        subst hK100
        exact ⟨false, hq95, hE.pick _ ⟨rfl, rfl, rfl, rfl, rfl, rfl, rfl, rfl, rfl, rfl, rfl, rfl, trivial⟩, hS⟩
    · clear hE hS a w; rintro a w ⟨q99, rfl, hE, hS⟩
      refine W.cond hE rfl (fun hc102 => ?_) (fun hc102 => ?_)
      · replace hr := iteT hc102 hr
        refine W.ret ?_
        refine finG (fn := Try.f89) (rs := []) (vs := []) hE rfl trivial ?_
        obtain rfl := Option.some.inj hr
        exact ⟨cs_v2, a_y0_0, c_y0_0, a_v0, c_v0, y1.length, cs_v0, a_y2_0, c_y2_0, s, rfl, (Sg.Le.refl _), h_v2, (rfl), h_y0_0, hz_y0_0, h_v0, (rfl), h_y2_0, hS⟩
      · replace hr := iteF hc102 hr
        refine W.skip ?_
        refine W.seq ?_
        refine W.seq ?_
        refine W.region ?_
        refine WL.vS hS hE (runs_plain rfl) (Gives.p hE rfl) rfl ?_; clear hE a; intro a hE
        refine WL.vS hS hE (runs_plain rfl) (Gives.loadB hE 3 rfl rfl rfl ty44) rfl ?_; clear hE a; intro a hE
        refine WL.vS hS hE (runs_plain rfl) (Gives.len hE rfl sl44) rfl ?_; clear hE a; intro a hE
        refine WL.vS hS hE (runs_plain rfl) (Gives.p hE rfl) rfl ?_; clear hE a; intro a hE
        refine WL.nil ?_
        refine W.cond hE rfl (fun hc103 => ?_) (fun hc103 => ?_)
        · replace hr := iteT hc103 hr
          refine W.seq ?_
          refine W.gen fun K104 hK104 => ?_
          refine W.regionE (sel (fun w => St w s (pt pb0 (.cells #[.slice a_y0_0 y0.length c_y0_0] 25 (0, 0)) :: pt pb1 (.cells #[.slice a_v0 y1.length c_v0] 44 (0, 0)) :: pt pb2 (.cells #[.slice a_y2_0 y2.length c_y2_0] 44 (0, 0)) :: pt pb3 (.cells #[.slice a_v1 y3.length c_v1] 44 (0, 0)) :: pt pb4 (.cells #[.slice a_v2 y4.length c_v2] 25 (0, 0)) :: pt pb5 (.cells #[.map (some b_v3)] 124 (0, 0)) :: pt pb6 (.cells #[.map (some b_v4)] 121 (0, 0)) :: pt pb7 (.cells #[.slice a_y7_0 y7.length c_y7_0] 22 (0, 0)) :: pt pb8 (.cells #[.int .i64 y8.Change, .int .i64 y8.Long, .int .i64 y8.Work, .int .i64 y8.After, .int .i64 y8.Break, .int .i64 y8.Rest, .int .i64 y8.Row] 24 (0, 0)) :: pt pb9 (.cells #[.func (.func 89) #[] #[.pointer (some ⟨pb0, 0, none⟩), .pointer (some ⟨pb1, 0, none⟩), .pointer (some ⟨pb2, 0, none⟩), .pointer (some ⟨pb3, 0, none⟩), .pointer (some ⟨pb4, 0, none⟩), .pointer (some ⟨pb5, 0, none⟩), .pointer (some ⟨pb6, 0, none⟩), .pointer (some ⟨pb7, 0, none⟩), .pointer (some ⟨pb8, 0, none⟩), .pointer (some ⟨pb9, 0, none⟩)]] 66 (0, 0)) :: vecC 3 1 a_v0 c_v0 y1.length cs_v0 :: vecC 3 1 a_v1 c_v1 y3.length cs_v1 :: vecC 44 1 a_v2 c_v2 y4.length cs_v2 :: mapC keyI.f (Value.int .i64) b_v3 y5_0 :: mapC keyFleetAbsence.f Value.bool b_v4 y6_0 :: R)) (fun w => St w s (pt pb1 (.cells #[.slice a_v0 y1.length c_v0] 44 (0, 0)) :: pt pb3 (.cells #[.slice a_v1 y3.length c_v1] 44 (0, 0)) :: pt pb4 (.cells #[.slice a_v2 y4.length c_v2] 25 (0, 0)) :: pt pb5 (.cells #[.map (some b_v3)] 124 (0, 0)) :: pt pb6 (.cells #[.map (some b_v4)] 121 (0, 0)) :: pt pb7 (.cells #[.slice a_y7_0 y7.length c_y7_0] 22 (0, 0)) :: pt pb8 (.cells #[.int .i64 y8.Change, .int .i64 y8.Long, .int .i64 y8.Work, .int .i64 y8.After, .int .i64 y8.Break, .int .i64 y8.Rest, .int .i64 y8.Row] 24 (0, 0)) :: pt pb9 (.cells #[.func (.func 89) #[] #[.pointer (some ⟨pb0, 0, none⟩), .pointer (some ⟨pb1, 0, none⟩), .pointer (some ⟨pb2, 0, none⟩), .pointer (some ⟨pb3, 0, none⟩), .pointer (some ⟨pb4, 0, none⟩), .pointer (some ⟨pb5, 0, none⟩), .pointer (some ⟨pb6, 0, none⟩), .pointer (some ⟨pb7, 0, none⟩), .pointer (some ⟨pb8, 0, none⟩), .pointer (some ⟨pb9, 0, none⟩)]] 66 (0, 0)) :: vecC 3 1 a_v0 c_v0 y1.length cs_v0 :: vecC 3 1 a_v1 c_v1 y3.length cs_v1 :: vecC 44 1 a_v2 c_v2 y4.length cs_v2 :: mapC keyI.f (Value.int .i64) b_v3 y5_0 :: mapC keyFleetAbsence.f Value.bool b_v4 y6_0 :: R))) (fun b i => cond b ([0, 1, 2, 3].contains i) ([0, 1, 2, 3, 4, 5].contains i)) mixed ?_
          replace hS := hS.drew
          have hT := tw_sel (A := fun w => St w s (pt pb0 (.cells #[.slice a_y0_0 y0.length c_y0_0] 25 (0, 0)) :: pt pb1 (.cells #[.slice a_v0 y1.length c_v0] 44 (0, 0)) :: pt pb2 (.cells #[.slice a_y2_0 y2.length c_y2_0] 44 (0, 0)) :: pt pb3 (.cells #[.slice a_v1 y3.length c_v1] 44 (0, 0)) :: pt pb4 (.cells #[.slice a_v2 y4.length c_v2] 25 (0, 0)) :: pt pb5 (.cells #[.map (some b_v3)] 124 (0, 0)) :: pt pb6 (.cells #[.map (some b_v4)] 121 (0, 0)) :: pt pb7 (.cells #[.slice a_y7_0 y7.length c_y7_0] 22 (0, 0)) :: pt pb8 (.cells #[.int .i64 y8.Change, .int .i64 y8.Long, .int .i64 y8.Work, .int .i64 y8.After, .int .i64 y8.Break, .int .i64 y8.Rest, .int .i64 y8.Row] 24 (0, 0)) :: pt pb9 (.cells #[.func (.func 89) #[] #[.pointer (some ⟨pb0, 0, none⟩), .pointer (some ⟨pb1, 0, none⟩), .pointer (some ⟨pb2, 0, none⟩), .pointer (some ⟨pb3, 0, none⟩), .pointer (some ⟨pb4, 0, none⟩), .pointer (some ⟨pb5, 0, none⟩), .pointer (some ⟨pb6, 0, none⟩), .pointer (some ⟨pb7, 0, none⟩), .pointer (some ⟨pb8, 0, none⟩), .pointer (some ⟨pb9, 0, none⟩)]] 66 (0, 0)) :: vecC 3 1 a_v0 c_v0 y1.length cs_v0 :: vecC 3 1 a_v1 c_v1 y3.length cs_v1 :: vecC 44 1 a_v2 c_v2 y4.length cs_v2 :: mapC keyI.f (Value.int .i64) b_v3 y5_0 :: mapC keyFleetAbsence.f Value.bool b_v4 y6_0 :: R)) (B := fun w => St w s (pt pb1 (.cells #[.slice a_v0 y1.length c_v0] 44 (0, 0)) :: pt pb3 (.cells #[.slice a_v1 y3.length c_v1] 44 (0, 0)) :: pt pb4 (.cells #[.slice a_v2 y4.length c_v2] 25 (0, 0)) :: pt pb5 (.cells #[.map (some b_v3)] 124 (0, 0)) :: pt pb6 (.cells #[.map (some b_v4)] 121 (0, 0)) :: pt pb7 (.cells #[.slice a_y7_0 y7.length c_y7_0] 22 (0, 0)) :: pt pb8 (.cells #[.int .i64 y8.Change, .int .i64 y8.Long, .int .i64 y8.Work, .int .i64 y8.After, .int .i64 y8.Break, .int .i64 y8.Rest, .int .i64 y8.Row] 24 (0, 0)) :: pt pb9 (.cells #[.func (.func 89) #[] #[.pointer (some ⟨pb0, 0, none⟩), .pointer (some ⟨pb1, 0, none⟩), .pointer (some ⟨pb2, 0, none⟩), .pointer (some ⟨pb3, 0, none⟩), .pointer (some ⟨pb4, 0, none⟩), .pointer (some ⟨pb5, 0, none⟩), .pointer (some ⟨pb6, 0, none⟩), .pointer (some ⟨pb7, 0, none⟩), .pointer (some ⟨pb8, 0, none⟩), .pointer (some ⟨pb9, 0, none⟩)]] 66 (0, 0)) :: vecC 3 1 a_v0 c_v0 y1.length cs_v0 :: vecC 3 1 a_v1 c_v1 y3.length cs_v1 :: vecC 44 1 a_v2 c_v2 y4.length cs_v2 :: mapC keyI.f (Value.int .i64) b_v3 y5_0 :: mapC keyFleetAbsence.f Value.bool b_v4 y6_0 :: R)) (w := _) (x := true) (y := true) (fun _ => hS) (fun _ => ((hS.tail).dropAt 1))
          have hF := hS; replace hS := hS
          refine Rg.take (i := 0) true rfl hE rfl (by kernel_rfl) (runs_plain rfl) (Gives.loadB hE 4 rfl rfl rfl ty25) rfl hT ?_; clear hE a; intro a hE
          replace hS := hF; clear hF hT
          have hT := tw_sel (A := fun w => St w s (pt pb0 (.cells #[.slice a_y0_0 y0.length c_y0_0] 25 (0, 0)) :: pt pb1 (.cells #[.slice a_v0 y1.length c_v0] 44 (0, 0)) :: pt pb2 (.cells #[.slice a_y2_0 y2.length c_y2_0] 44 (0, 0)) :: pt pb3 (.cells #[.slice a_v1 y3.length c_v1] 44 (0, 0)) :: pt pb4 (.cells #[.slice a_v2 y4.length c_v2] 25 (0, 0)) :: pt pb5 (.cells #[.map (some b_v3)] 124 (0, 0)) :: pt pb6 (.cells #[.map (some b_v4)] 121 (0, 0)) :: pt pb7 (.cells #[.slice a_y7_0 y7.length c_y7_0] 22 (0, 0)) :: pt pb8 (.cells #[.int .i64 y8.Change, .int .i64 y8.Long, .int .i64 y8.Work, .int .i64 y8.After, .int .i64 y8.Break, .int .i64 y8.Rest, .int .i64 y8.Row] 24 (0, 0)) :: pt pb9 (.cells #[.func (.func 89) #[] #[.pointer (some ⟨pb0, 0, none⟩), .pointer (some ⟨pb1, 0, none⟩), .pointer (some ⟨pb2, 0, none⟩), .pointer (some ⟨pb3, 0, none⟩), .pointer (some ⟨pb4, 0, none⟩), .pointer (some ⟨pb5, 0, none⟩), .pointer (some ⟨pb6, 0, none⟩), .pointer (some ⟨pb7, 0, none⟩), .pointer (some ⟨pb8, 0, none⟩), .pointer (some ⟨pb9, 0, none⟩)]] 66 (0, 0)) :: vecC 3 1 a_v0 c_v0 y1.length cs_v0 :: vecC 3 1 a_v1 c_v1 y3.length cs_v1 :: vecC 44 1 a_v2 c_v2 y4.length cs_v2 :: mapC keyI.f (Value.int .i64) b_v3 y5_0 :: mapC keyFleetAbsence.f Value.bool b_v4 y6_0 :: R)) (B := fun w => St w s (pt pb1 (.cells #[.slice a_v0 y1.length c_v0] 44 (0, 0)) :: pt pb3 (.cells #[.slice a_v1 y3.length c_v1] 44 (0, 0)) :: pt pb4 (.cells #[.slice a_v2 y4.length c_v2] 25 (0, 0)) :: pt pb5 (.cells #[.map (some b_v3)] 124 (0, 0)) :: pt pb6 (.cells #[.map (some b_v4)] 121 (0, 0)) :: pt pb7 (.cells #[.slice a_y7_0 y7.length c_y7_0] 22 (0, 0)) :: pt pb8 (.cells #[.int .i64 y8.Change, .int .i64 y8.Long, .int .i64 y8.Work, .int .i64 y8.After, .int .i64 y8.Break, .int .i64 y8.Rest, .int .i64 y8.Row] 24 (0, 0)) :: pt pb9 (.cells #[.func (.func 89) #[] #[.pointer (some ⟨pb0, 0, none⟩), .pointer (some ⟨pb1, 0, none⟩), .pointer (some ⟨pb2, 0, none⟩), .pointer (some ⟨pb3, 0, none⟩), .pointer (some ⟨pb4, 0, none⟩), .pointer (some ⟨pb5, 0, none⟩), .pointer (some ⟨pb6, 0, none⟩), .pointer (some ⟨pb7, 0, none⟩), .pointer (some ⟨pb8, 0, none⟩), .pointer (some ⟨pb9, 0, none⟩)]] 66 (0, 0)) :: vecC 3 1 a_v0 c_v0 y1.length cs_v0 :: vecC 3 1 a_v1 c_v1 y3.length cs_v1 :: vecC 44 1 a_v2 c_v2 y4.length cs_v2 :: mapC keyI.f (Value.int .i64) b_v3 y5_0 :: mapC keyFleetAbsence.f Value.bool b_v4 y6_0 :: R)) (w := _) (x := true) (y := true) (fun _ => hS) (fun _ => ((hS.tail).dropAt 1))
          have hF := hS; replace hS := ((hS.tail).dropAt 1)
          refine Rg.take (i := 2) false rfl hE rfl (by kernel_rfl) (runs_plain rfl) (Gives.loadB hE 0 rfl rfl rfl ty44) rfl hT ?_; clear hE a; intro a hE
          replace hS := hF; clear hF hT
          refine Rg.one (i := 1) true true rfl (by kernel_rfl) (by kernel_rfl) (by kernel_rfl) ?_
          obtain ⟨q105, hq106, hr⟩ := bindS hr
          replace hS := hS.front 12 rfl
          have hc_ := SlicesCloneLLint_f_ok hS h_v2 (rfl) hq106
          refine WL.fnq hE (hc_) (runs_plain rfl) bd40 rfl rfl rfl ?_
          clear hE hS hc_; rintro e w ⟨a107, c108, n109, cs110, rfl, h111, rfl, hS⟩; refine ⟨_, rfl, ?_⟩; clear a; intro a hE
          refine WL.nil ?_
          refine ⟨⟨fun _ => (St.order (hS.tail) [1, 1, 1, 1, 1, 1, 1, 1, 1, 1, 1, 1, 0, 0, 0] (by kernel_rfl)), fun _ => (St.order (((hS.tail).dropAt 1).dropAt 2) [1, 1, 1, 1, 1, 1, 1, 1, 1, 1, 0, 0, 0] (by kernel_rfl))⟩, ?_⟩
          refine Rg.one (i := 3) true true rfl (by kernel_rfl) (by kernel_rfl) (by kernel_rfl) ?_
          obtain ⟨q113, hq114, hr⟩ := bindS hr
          have hF := hS.lendV RI.mono 12 rfl h_v0 (rfl); clear hS; obtain ⟨t121, hle122, hS, hs123, bk124⟩ := hF
          have hc_ := SlicesCloneLint_ok hS hs123 hq114
          refine WL.fnq hE (hc_) (runs_plain rfl) bd41 rfl rfl rfl ?_
          clear hE hS hc_; rintro e w ⟨a115, c116, n117, cs118, rfl, h119, rfl, hS⟩; refine ⟨_, rfl, ?_⟩; clear a; intro a hE
          replace hS := bk124 _ _ hS
          replace h119 := Ev.flat (s2 := s) (fun _ _ _ _ h => h) h119
          refine WL.nil ?_
          refine ⟨⟨fun _ => (St.order ((hS.dropAt 1).dropAt 1) [2, 2, 2, 2, 2, 2, 2, 2, 2, 2, 0, 1, 0, 0, 0] (by kernel_rfl)), fun _ => (St.order ((((hS.dropAt 1).dropAt 1).dropAt 2).dropAt 3) [2, 2, 2, 2, 2, 2, 2, 2, 0, 1, 0, 0, 0] (by kernel_rfl))⟩, ?_⟩
          refine Rg.one (i := 4) false true rfl (by kernel_rfl) (by kernel_rfl) (by kernel_rfl) ?_
          have hF := hS.fixD RF.mono 2 rfl h111 rfl; clear hS; obtain ⟨s125, hle126, hS, h127⟩ := hF
          replace h_v0 := Ev.mono RI.mono hle126 h_v0
          replace h119 := Ev.mono RI.mono hle126 h119
          replace h_v2 := Ev.mono RF.mono hle126 h_v2
          replace h_y0_0 := Sl.mono RF.mono hle126 h_y0_0
          replace h_y2_0 := Sl.mono RI.mono hle126 h_y2_0
          replace h_y7_0 := Sl.mono RFleetShift.mono hle126 h_y7_0
          replace h_v1 := Ev.mono RI.mono hle126 h_v1
          obtain ⟨_, hx128, hr⟩ := bindS hr
          refine WL.storeI hE hS 3 rfl [.slice a107 q105.length c108] (runs_plain rfl) rfl rfl rfl ty25 rfl rfl rfl rfl ?_; clear hE hS a w; intro a w hE hS
          refine WL.nil ?_
          refine ⟨⟨fun h => absurd h (by decide), fun _ => (St.down hle126 (St.order (((hS.dropAt 1).dropAt 2).dropAt 3) [2, 2, 2, 2, 2, 2, 2, 2, 0, 1, 0, 0, 0] (by kernel_rfl)))⟩, ?_⟩
          refine Rg.one (i := 5) false true rfl (by kernel_rfl) (by kernel_rfl) (by kernel_rfl) ?_
          refine WL.storeI hE hS 5 rfl [.slice a115 q113.length c116] (runs_plain rfl) rfl rfl rfl ty44 rfl rfl rfl rfl ?_; clear hE hS a w; intro a w hE hS
          refine WL.nil ?_
          refine ⟨⟨fun h => absurd h (by decide), fun _ => (St.down hle126 (St.order (((hS.dropAt 1).dropAt 2).dropAt 3) [2, 2, 2, 2, 2, 2, 2, 2, 0, 1, 0, 0, 0] (by kernel_rfl)))⟩, ?_⟩
          refine Rg.done (by kernel_rfl) ?_
          subst hK104
          refine W.ret ?_
          have hF := hS.fixD RI.mono 1 rfl h119 rfl; clear hS; obtain ⟨s129, hle130, hS, h131⟩ := hF
          replace h127 := Sl.mono RF.mono hle130 h127
          replace h_v0 := Ev.mono RI.mono hle130 h_v0
          replace h_v2 := Ev.mono RF.mono hle130 h_v2
          replace h_y7_0 := Sl.mono RFleetShift.mono hle130 h_y7_0
          replace h_v1 := Ev.mono RI.mono hle130 h_v1
          refine finG (fn := Try.f89) (rs := []) (vs := []) hE rfl trivial ?_
          obtain rfl := Option.some.inj hr
          exact ⟨cs_v2, a107, c108, a_v0, c_v0, y1.length, cs_v0, a115, c116, s129, rfl, (Sg.Le.trans hle126 hle130), h_v2, (rfl), h127, (nz_some hx128), h_v0, (rfl), h131, St.order hS [2, 2, 2, 2, 2, 2, 2, 2, 2, 2, 0, 1] (by kernel_rfl)⟩
        · replace hr := iteF hc103 hr
          refine W.skip ?_
          refine W.seq ?_
          refine W.region ?_
          refine WL.vS hS hE (runs_plain rfl) (Gives.loadB hE 3 rfl rfl rfl ty44) rfl ?_; clear hE a; intro a hE
          refine WL.vS hS hE (runs_plain rfl) (Gives.p hE rfl) rfl ?_; clear hE a; intro a hE
          obtain ⟨x132, hx133, hr⟩ := bindS hr
          obtain ⟨hi134, hlt135, hy136⟩ := gx_some hx133
          obtain ⟨vs137, hl138, hR139, hd140, hget141⟩ := h_v1.at hy136
          subst hR139
          refine WL.vS hS hE (runs_plain rfl) (Gives.idx hE ((x0).toNat) rfl rfl sl44 hi134 (by omega) (hS.vecAok 11 rfl (by omega : (x0).toNat < y3.length))) rfl ?_; clear hE a; intro a hE
          refine WL.vS hS hE (runs_plain rfl) (Gives.load1 hE rfl (fun w h => St.vecSees h 11 rfl ((x0).toNat * 1) _ hget141) ty3) rfl ?_; clear hE a; intro a hE
          refine WL.vS hS hE (runs_plain rfl) (Gives.p hE rfl) rfl ?_; clear hE a; intro a hE
          refine WL.nil ?_
          refine W.seq ?_
          refine W.seq ?_
          refine W.region ?_
          refine WL.vS hS hE (runs_plain rfl) (Gives.loadB hE 4 rfl rfl rfl ty25) rfl ?_; clear hE a; intro a hE
          refine WL.vS hS hE (runs_plain rfl) (Gives.len hE rfl sl25) rfl ?_; clear hE a; intro a hE
          refine WL.vS hS hE (runs_plain rfl) (Gives.p hE rfl) rfl ?_; clear hE a; intro a hE
          refine WL.nil ?_
          have hb153 : y4.length ≤ 9223372036854775807 := by have := hS.vecCap 12 rfl; unfold maxLen at this; omega
          obtain ⟨q143, hq142, hr⟩ := bindS hr
          refine W.cut (fun a w => ∃ (q154 : List (List Int)), ∃ (q160 : List (List Int)), ∃ (q165 : List Int), ∃ (q172 : List Int), ∃ (cs158 : List Value), ∃ (a161 : Option Addr), ∃ (c162 : Nat), ∃ (a166 : Option Addr), ∃ (c167 : Nat), ∃ (n169 : Nat), ∃ (cs170 : List Value), ∃ (a173 : Option Addr), ∃ (c174 : Nat), ∃ (s151 : Sg), s.Le s151 ∧ (q154, q160, q165, q172) = q143 ∧ Ev 1 (RF u) s151 cs158 q154 ∧ q154.length = y4.length ∧ Sl 1 (RF u) s151 a161 c162 q160 ∧ (q160 = [] → a161 = none) ∧ Ev 1 (RI .i64) s151 cs170 q165 ∧ q165.length = n169 ∧ Sl 1 (RI .i64) s151 a173 c174 q172 ∧ Rep a 96 [(0, .int .i64 x0), (2, .pointer (some ⟨pb1, 0, none⟩)), (10, .pointer (some ⟨pb9, 0, none⟩)), (12, .int .i64 x132)] ∧ St w s151 (pt pb0 (.cells #[.slice a161 q160.length c162] 25 (0, 0)) :: pt pb1 (.cells #[.slice a166 n169 c167] 44 (0, 0)) :: pt pb2 (.cells #[.slice a173 q172.length c174] 44 (0, 0)) :: pt pb3 (.cells #[.slice a_v1 y3.length c_v1] 44 (0, 0)) :: pt pb4 (.cells #[.slice a_v2 y4.length c_v2] 25 (0, 0)) :: pt pb5 (.cells #[.map (some b_v3)] 124 (0, 0)) :: pt pb6 (.cells #[.map (some b_v4)] 121 (0, 0)) :: pt pb7 (.cells #[.slice a_y7_0 y7.length c_y7_0] 22 (0, 0)) :: pt pb8 (.cells #[.int .i64 y8.Change, .int .i64 y8.Long, .int .i64 y8.Work, .int .i64 y8.After, .int .i64 y8.Break, .int .i64 y8.Rest, .int .i64 y8.Row] 24 (0, 0)) :: pt pb9 (.cells #[.func (.func 89) #[] #[.pointer (some ⟨pb0, 0, none⟩), .pointer (some ⟨pb1, 0, none⟩), .pointer (some ⟨pb2, 0, none⟩), .pointer (some ⟨pb3, 0, none⟩), .pointer (some ⟨pb4, 0, none⟩), .pointer (some ⟨pb5, 0, none⟩), .pointer (some ⟨pb6, 0, none⟩), .pointer (some ⟨pb7, 0, none⟩), .pointer (some ⟨pb8, 0, none⟩), .pointer (some ⟨pb9, 0, none⟩)]] 66 (0, 0)) :: vecC 3 1 a166 c167 n169 cs170 :: vecC 3 1 a_v1 c_v1 y3.length cs_v1 :: vecC 44 1 a_v2 c_v2 y4.length cs158 :: mapC keyI.f (Value.int .i64) b_v3 y5_0 :: mapC keyFleetAbsence.f Value.bool b_v4 y6_0 :: R)) ?_ ?_
          · refine W.block ?_
            refine W.loop (fun m a w => ∃ (rest146 : Nat) (k144 : Nat), ∃ (q154 : List (List Int)), ∃ (q160 : List (List Int)), ∃ (q165 : List Int), ∃ (q172 : List Int), ∃ (cs158 : List Value), ∃ (a161 : Option Addr), ∃ (c162 : Nat), ∃ (a166 : Option Addr), ∃ (c167 : Nat), ∃ (n169 : Nat), ∃ (cs170 : List Value), ∃ (a173 : Option Addr), ∃ (c174 : Nat), ∃ (s151 : Sg), rest146 = m ∧ k144 + rest146 = y4.length ∧ s.Le s151 ∧ FleetStandIns_1_v1.loop1 x0 y3 y5_0 y6_0 y7 y8 self_FleetStandIns_1_v1 x132 rest146 k144 q154 q160 q165 q172 = some q143 ∧ Ev 1 (RF u) s151 cs158 q154 ∧ q154.length = y4.length ∧ Sl 1 (RF u) s151 a161 c162 q160 ∧ (q160 = [] → a161 = none) ∧ Ev 1 (RI .i64) s151 cs170 q165 ∧ q165.length = n169 ∧ Sl 1 (RI .i64) s151 a173 c174 q172 ∧ Rep a 96 [(0, .int .i64 x0), (2, .pointer (some ⟨pb1, 0, none⟩)), (5, .pointer (some ⟨pb4, 0, none⟩)), (6, .pointer (some ⟨pb5, 0, none⟩)), (7, .pointer (some ⟨pb6, 0, none⟩)), (8, .pointer (some ⟨pb7, 0, none⟩)), (9, .pointer (some ⟨pb8, 0, none⟩)), (10, .pointer (some ⟨pb9, 0, none⟩)), (12, .int .i64 x132), (36, .slice a_v2 y4.length c_v2), (37, .int .i64 ((y4.length : Nat) : Int)), (38, .int .i64 ((k144 : Nat) : Int))] ∧ St w s151 (pt pb0 (.cells #[.slice a161 q160.length c162] 25 (0, 0)) :: pt pb1 (.cells #[.slice a166 n169 c167] 44 (0, 0)) :: pt pb2 (.cells #[.slice a173 q172.length c174] 44 (0, 0)) :: pt pb3 (.cells #[.slice a_v1 y3.length c_v1] 44 (0, 0)) :: pt pb4 (.cells #[.slice a_v2 y4.length c_v2] 25 (0, 0)) :: pt pb5 (.cells #[.map (some b_v3)] 124 (0, 0)) :: pt pb6 (.cells #[.map (some b_v4)] 121 (0, 0)) :: pt pb7 (.cells #[.slice a_y7_0 y7.length c_y7_0] 22 (0, 0)) :: pt pb8 (.cells #[.int .i64 y8.Change, .int .i64 y8.Long, .int .i64 y8.Work, .int .i64 y8.After, .int .i64 y8.Break, .int .i64 y8.Rest, .int .i64 y8.Row] 24 (0, 0)) :: pt pb9 (.cells #[.func (.func 89) #[] #[.pointer (some ⟨pb0, 0, none⟩), .pointer (some ⟨pb1, 0, none⟩), .pointer (some ⟨pb2, 0, none⟩), .pointer (some ⟨pb3, 0, none⟩), .pointer (some ⟨pb4, 0, none⟩), .pointer (some ⟨pb5, 0, none⟩), .pointer (some ⟨pb6, 0, none⟩), .pointer (some ⟨pb7, 0, none⟩), .pointer (some ⟨pb8, 0, none⟩), .pointer (some ⟨pb9, 0, none⟩)]] 66 (0, 0)) :: vecC 3 1 a166 c167 n169 cs170 :: vecC 3 1 a_v1 c_v1 y3.length cs_v1 :: vecC 44 1 a_v2 c_v2 y4.length cs158 :: mapC keyI.f (Value.int .i64) b_v3 y5_0 :: mapC keyFleetAbsence.f Value.bool b_v4 y6_0 :: R)) (m := y4.length) ⟨y4.length, 0, y4, y0, y1, y2, cs_v2, a_y0_0, c_y0_0, a_v0, c_v0, y1.length, cs_v0, a_y2_0, c_y2_0, s, rfl, by omega, (Sg.Le.refl _), hq142, h_v2, (rfl), h_y0_0, hz_y0_0, h_v0, (rfl), h_y2_0, hE.pick _ ⟨rfl, rfl, rfl, rfl, rfl, rfl, rfl, rfl, rfl, rfl, rfl, rfl, trivial⟩, hS⟩ ?_
            clear hE hS a w hq142; rintro m150 a w ⟨rest146, k144, q154, q160, q165, q172, cs158, a161, c162, a166, c167, n169, cs170, a173, c174, s151, rfl, hd147, hle152, hq142, h157, hn159, h163, hz164, h168, rfl, h175, hE, hS⟩
            refine W.gen fun K176 hK176 => ?_
            replace h_y0_0 := Sl.mono RF.mono hle152 h_y0_0
            replace h_y2_0 := Sl.mono RI.mono hle152 h_y2_0
            replace h_y7_0 := Sl.mono RFleetShift.mono hle152 h_y7_0
            replace h_v0 := Ev.mono RI.mono hle152 h_v0
            replace h_v1 := Ev.mono RI.mono hle152 h_v1
            replace h_v2 := Ev.mono RF.mono hle152 h_v2
            rcases rest146 with _ | rest146
            · skip
              refine W.seq ?_
              refine W.region ?_
              refine WL.vS hS hE (runs_plain rfl) (Gives.p hE rfl) rfl ?_; clear hE a; intro a hE
              refine WL.nil ?_
              refine W.seq ?_
              refine W.condF hE rfl (decide_eq_false (by omega)) ?_
              subst hK176
              refine W.exit rfl ?_
              exact ⟨q154, q160, q165, q172, cs158, a161, c162, a166, c167, q165.length, cs170, a173, c174, s151, hle152, Option.some.inj hq142, h157, hn159, h163, hz164, h168, rfl, h175, hE.pick _ ⟨rfl, rfl, rfl, rfl, trivial⟩, hS⟩
            · have hlt148 : k144 < y4.length := by omega
              rw [FleetStandIns_1_v1.loop1] at hq142
              refine W.seq ?_
              refine W.region ?_
              refine WL.vS hS hE (runs_plain rfl) (Gives.p hE rfl) rfl ?_; clear hE a; intro a hE
              refine WL.nil ?_
              refine W.seq ?_
              refine W.condT hE rfl (decide_eq_true (by omega)) ?_
              refine W.skip ?_
              refine W.seq ?_
              refine W.block ?_
              refine W.seq ?_
              refine W.region ?_
              refine WL.vS hS hE (runs_plain rfl) (Gives.p hE rfl) rfl ?_; clear hE a; intro a hE
              obtain ⟨x177, hx178, hq142⟩ := bindS hq142
              obtain ⟨hi179, hlt180, hy181⟩ := gx_some hx178
              obtain ⟨vs182, hl183, hR184, hd185, hget186⟩ := h157.at hy181
              obtain ⟨a187, c188, rfl, h189⟩ := hR184
              refine WL.vS hS hE (runs_plain rfl) (Gives.idx hE ((((k144 : Nat) : Int)).toNat) rfl rfl sl25 hi179 (by have := hn159; omega) (hS.vecAok 12 rfl (by have := hn159; omega : (((k144 : Nat) : Int)).toNat < y4.length))) rfl ?_; clear hE a; intro a hE
              refine WL.vS hS hE (runs_plain rfl) (Gives.load1 hE rfl (fun w h => St.vecSees h 12 rfl ((((k144 : Nat) : Int)).toNat * 1) _ hget186) ty44) rfl ?_; clear hE a; intro a hE
              refine WL.vS hS hE (runs_plain rfl) (Gives.p hE rfl) rfl ?_; clear hE a; intro a hE
              refine WL.vS hS hE (runs_plain rfl) (Gives.p hE rfl) rfl ?_; clear hE a; intro a hE
              refine WL.nil ?_
              refine W.seq ?_
              refine W.seq ?_
              obtain ⟨q191, hq190, hq142⟩ := bindS hq142
              refine W.cut (fun a w => ∃ (q194 : Bool), q194 = q191 ∧ Rep a 96 [(0, .int .i64 x0), (2, .pointer (some ⟨pb1, 0, none⟩)), (5, .pointer (some ⟨pb4, 0, none⟩)), (6, .pointer (some ⟨pb5, 0, none⟩)), (7, .pointer (some ⟨pb6, 0, none⟩)), (8, .pointer (some ⟨pb7, 0, none⟩)), (9, .pointer (some ⟨pb8, 0, none⟩)), (10, .pointer (some ⟨pb9, 0, none⟩)), (12, .int .i64 x132), (13, .int .i64 ((k144 : Nat) : Int)), (14, .slice a187 x177.length c188), (36, .slice a_v2 y4.length c_v2), (37, .int .i64 ((y4.length : Nat) : Int)), (38, .int .i64 ((k144 : Nat) : Int)), (58, .bool q194)] ∧ St w s151 (pt pb0 (.cells #[.slice a161 q160.length c162] 25 (0, 0)) :: pt pb1 (.cells #[.slice a166 q165.length c167] 44 (0, 0)) :: pt pb2 (.cells #[.slice a173 q172.length c174] 44 (0, 0)) :: pt pb3 (.cells #[.slice a_v1 y3.length c_v1] 44 (0, 0)) :: pt pb4 (.cells #[.slice a_v2 y4.length c_v2] 25 (0, 0)) :: pt pb5 (.cells #[.map (some b_v3)] 124 (0, 0)) :: pt pb6 (.cells #[.map (some b_v4)] 121 (0, 0)) :: pt pb7 (.cells #[.slice a_y7_0 y7.length c_y7_0] 22 (0, 0)) :: pt pb8 (.cells #[.int .i64 y8.Change, .int .i64 y8.Long, .int .i64 y8.Work, .int .i64 y8.After, .int .i64 y8.Break, .int .i64 y8.Rest, .int .i64 y8.Row] 24 (0, 0)) :: pt pb9 (.cells #[.func (.func 89) #[] #[.pointer (some ⟨pb0, 0, none⟩), .pointer (some ⟨pb1, 0, none⟩), .pointer (some ⟨pb2, 0, none⟩), .pointer (some ⟨pb3, 0, none⟩), .pointer (some ⟨pb4, 0, none⟩), .pointer (some ⟨pb5, 0, none⟩), .pointer (some ⟨pb6, 0, none⟩), .pointer (some ⟨pb7, 0, none⟩), .pointer (some ⟨pb8, 0, none⟩), .pointer (some ⟨pb9, 0, none⟩)]] 66 (0, 0)) :: vecC 3 1 a166 c167 q165.length cs170 :: vecC 3 1 a_v1 c_v1 y3.length cs_v1 :: vecC 44 1 a_v2 c_v2 y4.length cs158 :: mapC keyI.f (Value.int .i64) b_v3 y5_0 :: mapC keyFleetAbsence.f Value.bool b_v4 y6_0 :: R)) ?_ ?_
              · refine W.gen fun K195 hK195 => ?_
                refine W.regionQ (C := fun w => St w s151 (pt pb0 (.cells #[.slice a161 q160.length c162] 25 (0, 0)) :: pt pb1 (.cells #[.slice a166 q165.length c167] 44 (0, 0)) :: pt pb2 (.cells #[.slice a173 q172.length c174] 44 (0, 0)) :: pt pb3 (.cells #[.slice a_v1 y3.length c_v1] 44 (0, 0)) :: pt pb4 (.cells #[.slice a_v2 y4.length c_v2] 25 (0, 0)) :: pt pb5 (.cells #[.map (some b_v3)] 124 (0, 0)) :: pt pb6 (.cells #[.map (some b_v4)] 121 (0, 0)) :: pt pb7 (.cells #[.slice a_y7_0 y7.length c_y7_0] 22 (0, 0)) :: pt pb8 (.cells #[.int .i64 y8.Change, .int .i64 y8.Long, .int .i64 y8.Work, .int .i64 y8.After, .int .i64 y8.Break, .int .i64 y8.Rest, .int .i64 y8.Row] 24 (0, 0)) :: pt pb9 (.cells #[.func (.func 89) #[] #[.pointer (some ⟨pb0, 0, none⟩), .pointer (some ⟨pb1, 0, none⟩), .pointer (some ⟨pb2, 0, none⟩), .pointer (some ⟨pb3, 0, none⟩), .pointer (some ⟨pb4, 0, none⟩), .pointer (some ⟨pb5, 0, none⟩), .pointer (some ⟨pb6, 0, none⟩), .pointer (some ⟨pb7, 0, none⟩), .pointer (some ⟨pb8, 0, none⟩), .pointer (some ⟨pb9, 0, none⟩)]] 66 (0, 0)) :: vecC 3 1 a166 c167 q165.length cs170 :: vecC 3 1 a_v1 c_v1 y3.length cs_v1 :: vecC 44 1 a_v2 c_v2 y4.length cs158 :: mapC keyI.f (Value.int .i64) b_v3 y5_0 :: mapC keyFleetAbsence.f Value.bool b_v4 y6_0 :: R)) mixed (by kernel_rfl) hS.drew ?_
                refine QL.v hE (runs_plain rfl) (Gives.p hE rfl) rfl ?_; clear hE a; intro a hE
                refine QL.v hE (runs_plain rfl) (Gives.loadB hE 5 rfl rfl rfl ty124) rfl ?_; clear hE a; intro a hE
                refine QL.v hE (runs_plain rfl) (Gives.p hE rfl) rfl ?_; clear hE a; intro a hE
                refine QL.v hE (runs_plain rfl) (Gives.mapGet keyI hE 13 (k := x132) (z := 0) rfl rfl rfl mp124 zm3) rfl ?_; clear hE a; intro a hE
                refine QL.v hE (runs_plain rfl) (Gives.p hE rfl) rfl ?_; clear hE a; intro a hE
                refine QL.v hE (runs_plain rfl) (Gives.p hE rfl) rfl ?_; clear hE a; intro a hE
                rcases Bool.eq_false_or_eq_true (((k144 : Nat) : Int) == ((mget y5_0 x132).getD 0)) with hg196 | hg196
                · replace hq190 := iteT hg196 hq190
                  refine QL.no hE (runs_not hE rfl rfl rfl (by rw [hg196]; decide)) rfl ?_; clear hE a; intro a hE
                  refine QL.no hE (runs_not hE rfl rfl rfl (by rw [hg196]; decide)) rfl ?_; clear hE a; intro a hE
                  refine QL.no hE (runs_not hE rfl rfl rfl (by rw [hg196]; decide)) rfl ?_; clear hE a; intro a hE
                  refine QL.no hE (runs_not hE rfl rfl rfl (by rw [hg196]; decide)) rfl ?_; clear hE a; intro a hE
                  refine QL.no hE (runs_not hE rfl rfl rfl (by rw [hg196]; decide)) rfl ?_; clear hE a; intro a hE
                  refine QL.no hE (runs_not hE rfl rfl rfl (by rw [hg196]; decide)) rfl ?_; clear hE a; intro a hE
                  refine QL.no hE (runs_not hE rfl rfl rfl (by rw [hg196]; decide)) rfl ?_; clear hE a; intro a hE
                  refine QL.no hE (runs_not hE rfl rfl rfl (by rw [hg196]; decide)) rfl ?_; clear hE a; intro a hE
                  refine QL.no hE (runs_not hE rfl rfl rfl (by rw [hg196]; decide)) rfl ?_; clear hE a; intro a hE
                  refine QL.v hE (runs_plain rfl) (Gives.pickT hE rfl hg196 rfl) rfl ?_; clear hE a; intro a hE
                  refine QL.nil ?_; clear hS w; intro w hS
                  subst hK195
                  exact ⟨true, Option.some.inj hq190, hE.pick _ ⟨rfl, rfl, rfl, rfl, rfl, rfl, rfl, rfl, rfl, rfl, rfl, rfl, rfl, rfl, rfl, trivial⟩, hS⟩
                · replace hq190 := iteF hg196 hq190
                  refine QL.v hE (runs_if hE rfl rfl rfl hg196) (Gives.loadB hE 6 rfl rfl rfl ty121) rfl ?_; clear hE a; intro a hE
                  refine QL.v hE (runs_if hE rfl rfl rfl hg196) (Gives.p hE rfl) rfl ?_; clear hE a; intro a hE
                  refine QL.v hE (runs_if hE rfl rfl rfl hg196) (Gives.loadB hE 7 rfl rfl rfl ty22) rfl ?_; clear hE a; intro a hE
                  refine QL.v hE (runs_if hE rfl rfl rfl hg196) (Gives.p hE rfl) rfl ?_; clear hE a; intro a hE
                  obtain ⟨x197, hx198, hq190⟩ := bindS hq190
                  obtain ⟨hi199, hlt200, hy201⟩ := gx_some hx198
                  obtain ⟨cs202, hl203, hR204, hat205⟩ := h_y7_0.at hy201
                  subst hR204
                  refine QL.v hE (runs_if hE rfl rfl rfl hg196) (Gives.idx hE (x132).toNat rfl rfl sl22 hi199 hlt200 (h_y7_0.aok hlt200)) rfl ?_; clear hE a; intro a hE
                  refine QL.v hE (runs_if hE rfl rfl rfl hg196) (Gives.fld hE rfl fl126_0) rfl ?_; clear hE a; intro a hE
                  refine QL.v hE (runs_if hE rfl rfl rfl hg196) (Gives.load1 hE rfl (fun w h => (hat205 w _ h).one rfl) ty3) rfl ?_; clear hE a; intro a hE
                  refine QL.v hE (runs_if hE rfl rfl rfl hg196) (Gives.build hE (vs := [(0, .int .i64 ((k144 : Nat) : Int)), (1, .int .i64 x197.Day)]) [.int .i64 ((k144 : Nat) : Int), .int .i64 x197.Day] rfl (by kernel_rfl)) rfl ?_; clear hE a; intro a hE
                  refine QL.v hE (runs_if hE rfl rfl rfl hg196) (Gives.mapGetS keyFleetAbsence hE 14 (k := (FleetAbsence.mk ((k144 : Nat) : Int) x197.Day)) (z := false) rfl rfl rfl mp121 zm4) rfl ?_; clear hE a; intro a hE
                  refine QL.v hE (runs_plain rfl) (Gives.pickF hE rfl hg196 rfl) rfl ?_; clear hE a; intro a hE
                  refine QL.nil ?_; clear hS w; intro w hS
                  subst hK195
                  exact ⟨((mget y6_0 (FleetAbsence.mk ((k144 : Nat) : Int) x197.Day)).getD false), Option.some.inj hq190, hE.pick _ ⟨rfl, rfl, rfl, rfl, rfl, rfl, rfl, rfl, rfl, rfl, rfl, rfl, rfl, rfl, rfl, trivial⟩, hS⟩
              · clear hE hS a w; rintro a w ⟨q194, rfl, hE, hS⟩
                refine W.cond hE rfl (fun hc206 => ?_) (fun hc206 => ?_)
                · replace hq142 := iteT hc206 hq142
                  refine W.exit rfl ?_
                  refine W.region ?_
                  refine WL.vS hS hE (runs_plain rfl) (Gives.inc hE rfl (by omega)) rfl ?_; clear hE a; intro a hE
                  refine WL.vS hS hE (runs_plain rfl) (Gives.p hE rfl) rfl ?_; clear hE a; intro a hE
                  refine WL.nil ?_
                  subst hK176
                  exact ⟨rest146, Nat.lt_succ_self _, rest146, k144 + 1, q154, q160, q165, q172, cs158, a161, c162, a166, c167, q165.length, cs170, a173, c174, s151, rfl, (by omega), hle152, hq142, h157, hn159, h163, hz164, h168, rfl, h175, hE.pick _ ⟨rfl, rfl, rfl, rfl, rfl, rfl, rfl, rfl, rfl, rfl, rfl, rfl, trivial⟩, hS⟩
                · replace hq142 := iteF hc206 hq142
                  refine W.skip ?_
                  refine W.seq ?_
                  refine W.gen fun K207 hK207 => ?_
                  refine W.regionE (sel (fun w => St w s151 (pt pb0 (.cells #[.slice a161 q160.length c162] 25 (0, 0)) :: pt pb1 (.cells #[.slice a166 q165.length c167] 44 (0, 0)) :: pt pb2 (.cells #[.slice a173 q172.length c174] 44 (0, 0)) :: pt pb3 (.cells #[.slice a_v1 y3.length c_v1] 44 (0, 0)) :: pt pb4 (.cells #[.slice a_v2 y4.length c_v2] 25 (0, 0)) :: pt pb5 (.cells #[.map (some b_v3)] 124 (0, 0)) :: pt pb6 (.cells #[.map (some b_v4)] 121 (0, 0)) :: pt pb7 (.cells #[.slice a_y7_0 y7.length c_y7_0] 22 (0, 0)) :: pt pb8 (.cells #[.int .i64 y8.Change, .int .i64 y8.Long, .int .i64 y8.Work, .int .i64 y8.After, .int .i64 y8.Break, .int .i64 y8.Rest, .int .i64 y8.Row] 24 (0, 0)) :: pt pb9 (.cells #[.func (.func 89) #[] #[.pointer (some ⟨pb0, 0, none⟩), .pointer (some ⟨pb1, 0, none⟩), .pointer (some ⟨pb2, 0, none⟩), .pointer (some ⟨pb3, 0, none⟩), .pointer (some ⟨pb4, 0, none⟩), .pointer (some ⟨pb5, 0, none⟩), .pointer (some ⟨pb6, 0, none⟩), .pointer (some ⟨pb7, 0, none⟩), .pointer (some ⟨pb8, 0, none⟩), .pointer (some ⟨pb9, 0, none⟩)]] 66 (0, 0)) :: vecC 3 1 a166 c167 q165.length cs170 :: vecC 3 1 a_v1 c_v1 y3.length cs_v1 :: vecC 44 1 a_v2 c_v2 y4.length cs158 :: mapC keyI.f (Value.int .i64) b_v3 y5_0 :: mapC keyFleetAbsence.f Value.bool b_v4 y6_0 :: R)) (fun w => St w s151 (pt pb0 (.cells #[.slice a161 q160.length c162] 25 (0, 0)) :: pt pb1 (.cells #[.slice a166 q165.length c167] 44 (0, 0)) :: pt pb2 (.cells #[.slice a173 q172.length c174] 44 (0, 0)) :: pt pb3 (.cells #[.slice a_v1 y3.length c_v1] 44 (0, 0)) :: pt pb4 (.cells #[.slice a_v2 y4.length c_v2] 25 (0, 0)) :: pt pb5 (.cells #[.map (some b_v3)] 124 (0, 0)) :: pt pb6 (.cells #[.map (some b_v4)] 121 (0, 0)) :: pt pb7 (.cells #[.slice a_y7_0 y7.length c_y7_0] 22 (0, 0)) :: pt pb8 (.cells #[.int .i64 y8.Change, .int .i64 y8.Long, .int .i64 y8.Work, .int .i64 y8.After, .int .i64 y8.Break, .int .i64 y8.Rest, .int .i64 y8.Row] 24 (0, 0)) :: pt pb9 (.cells #[.func (.func 89) #[] #[.pointer (some ⟨pb0, 0, none⟩), .pointer (some ⟨pb1, 0, none⟩), .pointer (some ⟨pb2, 0, none⟩), .pointer (some ⟨pb3, 0, none⟩), .pointer (some ⟨pb4, 0, none⟩), .pointer (some ⟨pb5, 0, none⟩), .pointer (some ⟨pb6, 0, none⟩), .pointer (some ⟨pb7, 0, none⟩), .pointer (some ⟨pb8, 0, none⟩), .pointer (some ⟨pb9, 0, none⟩)]] 66 (0, 0)) :: vecC 3 1 a166 c167 q165.length cs170 :: vecC 3 1 a_v1 c_v1 y3.length cs_v1 :: mapC keyI.f (Value.int .i64) b_v3 y5_0 :: mapC keyFleetAbsence.f Value.bool b_v4 y6_0 :: R))) (fun b i => cond b ([0, 1, 2, 3, 4, 5, 6, 7].contains i) ([0, 1, 2, 3, 4, 5, 6, 7, 8].contains i)) mixed ?_
                  replace hS := hS.drew
                  have hT := tw_sel (A := fun w => St w s151 (pt pb0 (.cells #[.slice a161 q160.length c162] 25 (0, 0)) :: pt pb1 (.cells #[.slice a166 q165.length c167] 44 (0, 0)) :: pt pb2 (.cells #[.slice a173 q172.length c174] 44 (0, 0)) :: pt pb3 (.cells #[.slice a_v1 y3.length c_v1] 44 (0, 0)) :: pt pb4 (.cells #[.slice a_v2 y4.length c_v2] 25 (0, 0)) :: pt pb5 (.cells #[.map (some b_v3)] 124 (0, 0)) :: pt pb6 (.cells #[.map (some b_v4)] 121 (0, 0)) :: pt pb7 (.cells #[.slice a_y7_0 y7.length c_y7_0] 22 (0, 0)) :: pt pb8 (.cells #[.int .i64 y8.Change, .int .i64 y8.Long, .int .i64 y8.Work, .int .i64 y8.After, .int .i64 y8.Break, .int .i64 y8.Rest, .int .i64 y8.Row] 24 (0, 0)) :: pt pb9 (.cells #[.func (.func 89) #[] #[.pointer (some ⟨pb0, 0, none⟩), .pointer (some ⟨pb1, 0, none⟩), .pointer (some ⟨pb2, 0, none⟩), .pointer (some ⟨pb3, 0, none⟩), .pointer (some ⟨pb4, 0, none⟩), .pointer (some ⟨pb5, 0, none⟩), .pointer (some ⟨pb6, 0, none⟩), .pointer (some ⟨pb7, 0, none⟩), .pointer (some ⟨pb8, 0, none⟩), .pointer (some ⟨pb9, 0, none⟩)]] 66 (0, 0)) :: vecC 3 1 a166 c167 q165.length cs170 :: vecC 3 1 a_v1 c_v1 y3.length cs_v1 :: vecC 44 1 a_v2 c_v2 y4.length cs158 :: mapC keyI.f (Value.int .i64) b_v3 y5_0 :: mapC keyFleetAbsence.f Value.bool b_v4 y6_0 :: R)) (B := fun w => St w s151 (pt pb0 (.cells #[.slice a161 q160.length c162] 25 (0, 0)) :: pt pb1 (.cells #[.slice a166 q165.length c167] 44 (0, 0)) :: pt pb2 (.cells #[.slice a173 q172.length c174] 44 (0, 0)) :: pt pb3 (.cells #[.slice a_v1 y3.length c_v1] 44 (0, 0)) :: pt pb4 (.cells #[.slice a_v2 y4.length c_v2] 25 (0, 0)) :: pt pb5 (.cells #[.map (some b_v3)] 124 (0, 0)) :: pt pb6 (.cells #[.map (some b_v4)] 121 (0, 0)) :: pt pb7 (.cells #[.slice a_y7_0 y7.length c_y7_0] 22 (0, 0)) :: pt pb8 (.cells #[.int .i64 y8.Change, .int .i64 y8.Long, .int .i64 y8.Work, .int .i64 y8.After, .int .i64 y8.Break, .int .i64 y8.Rest, .int .i64 y8.Row] 24 (0, 0)) :: pt pb9 (.cells #[.func (.func 89) #[] #[.pointer (some ⟨pb0, 0, none⟩), .pointer (some ⟨pb1, 0, none⟩), .pointer (some ⟨pb2, 0, none⟩), .pointer (some ⟨pb3, 0, none⟩), .pointer (some ⟨pb4, 0, none⟩), .pointer (some ⟨pb5, 0, none⟩), .pointer (some ⟨pb6, 0, none⟩), .pointer (some ⟨pb7, 0, none⟩), .pointer (some ⟨pb8, 0, none⟩), .pointer (some ⟨pb9, 0, none⟩)]] 66 (0, 0)) :: vecC 3 1 a166 c167 q165.length cs170 :: vecC 3 1 a_v1 c_v1 y3.length cs_v1 :: mapC keyI.f (Value.int .i64) b_v3 y5_0 :: mapC keyFleetAbsence.f Value.bool b_v4 y6_0 :: R)) (w := _) (x := true) (y := true) (fun _ => hS) (fun _ => (hS.dropAt 12))
                  have hF := hS; replace hS := hS
                  refine Rg.take (i := 0) true rfl hE rfl (by kernel_rfl) (runs_plain rfl) (Gives.loadB hE 4 rfl rfl rfl ty25) rfl hT ?_; clear hE a; intro a hE
                  replace hS := hF; clear hF hT
                  refine Rg.takeP (i := 1) hE rfl (by kernel_rfl) (runs_plain rfl) (Gives.p hE rfl) rfl (tw_sel (fun _ => hS) (fun _ => (hS.dropAt 12))) ?_; clear hE a; intro a hE
                  refine Rg.takeP (i := 2) hE rfl (by kernel_rfl) (runs_plain rfl) (Gives.p hE rfl) rfl (tw_sel (fun _ => hS) (fun _ => (hS.dropAt 12))) ?_; clear hE a; intro a hE
                  refine Rg.takeP (i := 4) hE rfl (by kernel_rfl) (runs_plain rfl) (Gives.p hE rfl) rfl (tw_sel (fun _ => hS) (fun _ => (hS.dropAt 12))) ?_; clear hE a; intro a hE
                  obtain ⟨q208, hq209, hq142⟩ := bindS hq142
                  obtain ⟨x217, hx218, hq142⟩ := bindS hq142
                  obtain ⟨_, hx224, hq142⟩ := bindS hq142
                  obtain ⟨x231, hx232, hq142⟩ := bindS hq142
                  suffices key : ∀ s228 cs233 (a : Act) (w : World), s151.Le s228 → SlF u s228 a187 c188 x177 → Sl 1 (RF u) s228 a161 c162 q160 → (q160 = [] → a161 = none) → Sl 1 (RI .i64) s228 a173 c174 q172 → Sl 3 RFleetShift s228 a_y7_0 c_y7_0 y7 → Ev 1 (RI .i64) s228 cs170 q165 → Ev 1 (RI .i64) s228 cs_v1 y3 → Ev 1 (RF u) s228 cs233 x231 → (x231).length = y4.length → Rep a 96 [(0, .int .i64 x0), (2, .pointer (some ⟨pb1, 0, none⟩)), (5, .pointer (some ⟨pb4, 0, none⟩)), (6, .pointer (some ⟨pb5, 0, none⟩)), (7, .pointer (some ⟨pb6, 0, none⟩)), (8, .pointer (some ⟨pb7, 0, none⟩)), (9, .pointer (some ⟨pb8, 0, none⟩)), (10, .pointer (some ⟨pb9, 0, none⟩)), (12, .int .i64 x132), (13, .int .i64 ((k144 : Nat) : Int)), (14, .slice a187 x177.length c188), (36, .slice a_v2 y4.length c_v2), (37, .int .i64 ((y4.length : Nat) : Int)), (38, .int .i64 ((k144 : Nat) : Int))] → St w s228 (pt pb0 (.cells #[.slice a161 q160.length c162] 25 (0, 0)) :: pt pb1 (.cells #[.slice a166 q165.length c167] 44 (0, 0)) :: pt pb2 (.cells #[.slice a173 q172.length c174] 44 (0, 0)) :: pt pb3 (.cells #[.slice a_v1 y3.length c_v1] 44 (0, 0)) :: pt pb4 (.cells #[.slice a_v2 y4.length c_v2] 25 (0, 0)) :: pt pb5 (.cells #[.map (some b_v3)] 124 (0, 0)) :: pt pb6 (.cells #[.map (some b_v4)] 121 (0, 0)) :: pt pb7 (.cells #[.slice a_y7_0 y7.length c_y7_0] 22 (0, 0)) :: pt pb8 (.cells #[.int .i64 y8.Change, .int .i64 y8.Long, .int .i64 y8.Work, .int .i64 y8.After, .int .i64 y8.Break, .int .i64 y8.Rest, .int .i64 y8.Row] 24 (0, 0)) :: pt pb9 (.cells #[.func (.func 89) #[] #[.pointer (some ⟨pb0, 0, none⟩), .pointer (some ⟨pb1, 0, none⟩), .pointer (some ⟨pb2, 0, none⟩), .pointer (some ⟨pb3, 0, none⟩), .pointer (some ⟨pb4, 0, none⟩), .pointer (some ⟨pb5, 0, none⟩), .pointer (some ⟨pb6, 0, none⟩), .pointer (some ⟨pb7, 0, none⟩), .pointer (some ⟨pb8, 0, none⟩), .pointer (some ⟨pb9, 0, none⟩)]] 66 (0, 0)) :: vecC 3 1 a166 c167 q165.length cs170 :: vecC 3 1 a_v1 c_v1 y3.length cs_v1 :: vecC 44 1 a_v2 c_v2 y4.length cs233 :: mapC keyI.f (Value.int .i64) b_v3 y5_0 :: mapC keyFleetAbsence.f Value.bool b_v4 y6_0 :: R) → K207.nor a w by
                    refine Rg.many 3 [5] (by kernel_rfl) ⟨?_, ?_, trivial⟩
                    · refine Br.mk (i := 3) true true rfl (by kernel_rfl) (by kernel_rfl) ?_
                      have hc_ := SlicesCloneLint_ok hS h189.sl hq209
                      refine WL.fnq hE (hc_) (runs_plain rfl) bd41 rfl rfl rfl ?_
                      clear hE hS hc_; rintro e w ⟨a210, c211, n212, cs213, rfl, h214, rfl, hS⟩; refine ⟨_, rfl, ?_⟩; clear a; intro a hE
                      refine WL.nil ?_
                      refine ⟨⟨fun _ => (hS.tail), fun _ => ((hS.tail).dropAt 12)⟩, ?_⟩
                      refine Rg.one (i := 5) true true rfl (by kernel_rfl) (by kernel_rfl) (by kernel_rfl) ?_
                      refine WL.lit hE hS (e := 3) (es := 1) (vs := [(0, .int .i64 x132)]) (cs := [.int .i64 x132]) (runs_plain rfl) rfl (by kernel_rfl) rfl ?_; clear hE hS a w; intro b216 a w hE hS
                      refine WL.nil ?_
                      refine ⟨⟨fun _ => ((hS.tail).tail), fun _ => (((hS.tail).tail).dropAt 12)⟩, ?_⟩
                      refine Rg.one (i := 6) true true rfl (by kernel_rfl) (by kernel_rfl) (by kernel_rfl) ?_
                      refine WL.appD hE hS 0 (m := 1) (runs_plain rfl) rfl rfl rfl ap44 rfl h214 rfl (xs := [x132]) (Ev.cons (c1 := [.int .i64 x132]) rfl rfl (Ev.nil)) rfl rfl hx218 rfl ?_; clear hE hS a w; intro a219 c220 cs221 a w h222 hE hS
                      refine WL.nil ?_
                      refine ⟨⟨fun _ => (hS.tail), fun _ => ((hS.tail).dropAt 12)⟩, ?_⟩
                      obtain ⟨h225, h226⟩ := ix_some hx224
                      refine Rg.takeP (i := 7) hE rfl (by kernel_rfl) (runs_plain rfl) (Gives.idx hE ((((k144 : Nat) : Int)).toNat) rfl rfl sl25 h225 (by have := hn159; omega) (hS.vecAok 13 rfl (by have := hn159; omega : (((k144 : Nat) : Int)).toNat < y4.length))) rfl (tw_sel (fun _ => (hS.tail)) (fun _ => ((hS.tail).dropAt 12))) ?_; clear hE a; intro a hE
                      refine Rg.one (i := 8) false true rfl (by kernel_rfl) (by kernel_rfl) (by kernel_rfl) ?_
                      have hF := hS.fixF (Sg.Le.trans hu hle152) 0 rfl h222 (rfl); clear hS; obtain ⟨s228, hle229, hS, h230⟩ := hF
                      replace h189 := SlF.mono hle229 h189
                      replace h163 := Sl.mono RF.mono hle229 h163
                      replace h175 := Sl.mono RI.mono hle229 h175
                      replace h_y7_0 := Sl.mono RFleetShift.mono hle229 h_y7_0
                      replace h168 := Ev.mono RI.mono hle229 h168
                      replace h_v1 := Ev.mono RI.mono hle229 h_v1
                      replace h157 := Ev.mono RF.mono hle229 h157
                      refine WL.setD hE hS 12 rfl (runs_plain rfl) rfl rfl (vs := [.slice a219 x217.length c220]) rfl ty44 rfl rfl rfl h157 hn159 (sx_some hx232).1 hx232 ⟨_, _, rfl, h230⟩ rfl ?_; clear hE hS a w; intro cs233 a w h234 hn235 hE hS
                      refine WL.nil ?_
                      refine ⟨⟨fun h => absurd h (by decide), fun _ => (St.down hle229 (hS.dropAt 12))⟩, ?_⟩
                      refine Rg.done (by kernel_rfl) ?_
                      exact key _ _ _ _ hle229 h189 h163 hz164 h175 h_y7_0 h168 h_v1 h234 hn235 (hE.pick _ ⟨rfl, rfl, rfl, rfl, rfl, rfl, rfl, rfl, rfl, rfl, rfl, rfl, rfl, rfl, trivial⟩) hS
                    · refine Br.mk (i := 5) true true rfl (by kernel_rfl) (by kernel_rfl) ?_
                      refine WL.lit hE hS (e := 3) (es := 1) (vs := [(0, .int .i64 x132)]) (cs := [.int .i64 x132]) (runs_plain rfl) rfl (by kernel_rfl) rfl ?_; clear hE hS a w; intro b216 a w hE hS
                      refine WL.nil ?_
                      refine ⟨⟨fun _ => (hS.tail), fun _ => ((hS.tail).dropAt 12)⟩, ?_⟩
                      refine Rg.one (i := 3) true true rfl (by kernel_rfl) (by kernel_rfl) (by kernel_rfl) ?_
                      have hc_ := SlicesCloneLint_ok hS h189.sl hq209
                      refine WL.fnq hE (hc_) (runs_plain rfl) bd41 rfl rfl rfl ?_
                      clear hE hS hc_; rintro e w ⟨a210, c211, n212, cs213, rfl, h214, rfl, hS⟩; refine ⟨_, rfl, ?_⟩; clear a; intro a hE
                      refine WL.nil ?_
                      refine ⟨⟨fun _ => ((hS.tail).tail), fun _ => (((hS.tail).tail).dropAt 12)⟩, ?_⟩
                      refine Rg.one (i := 6) true true rfl (by kernel_rfl) (by kernel_rfl) (by kernel_rfl) ?_
                      replace hS := hS.front 1 rfl
                      refine WL.appD hE hS 0 (m := 1) (runs_plain rfl) rfl rfl rfl ap44 rfl h214 rfl (xs := [x132]) (Ev.cons (c1 := [.int .i64 x132]) rfl rfl (Ev.nil)) rfl rfl hx218 rfl ?_; clear hE hS a w; intro a219 c220 cs221 a w h222 hE hS
                      refine WL.nil ?_
                      refine ⟨⟨fun _ => (hS.tail), fun _ => ((hS.tail).dropAt 12)⟩, ?_⟩
                      obtain ⟨h225, h226⟩ := ix_some hx224
                      refine Rg.takeP (i := 7) hE rfl (by kernel_rfl) (runs_plain rfl) (Gives.idx hE ((((k144 : Nat) : Int)).toNat) rfl rfl sl25 h225 (by have := hn159; omega) (hS.vecAok 13 rfl (by have := hn159; omega : (((k144 : Nat) : Int)).toNat < y4.length))) rfl (tw_sel (fun _ => (hS.tail)) (fun _ => ((hS.tail).dropAt 12))) ?_; clear hE a; intro a hE
                      refine Rg.one (i := 8) false true rfl (by kernel_rfl) (by kernel_rfl) (by kernel_rfl) ?_
                      have hF := hS.fixF (Sg.Le.trans hu hle152) 0 rfl h222 (rfl); clear hS; obtain ⟨s228, hle229, hS, h230⟩ := hF
                      replace h189 := SlF.mono hle229 h189
                      replace h163 := Sl.mono RF.mono hle229 h163
                      replace h175 := Sl.mono RI.mono hle229 h175
                      replace h_y7_0 := Sl.mono RFleetShift.mono hle229 h_y7_0
                      replace h168 := Ev.mono RI.mono hle229 h168
                      replace h_v1 := Ev.mono RI.mono hle229 h_v1
                      replace h157 := Ev.mono RF.mono hle229 h157
                      refine WL.setD hE hS 12 rfl (runs_plain rfl) rfl rfl (vs := [.slice a219 x217.length c220]) rfl ty44 rfl rfl rfl h157 hn159 (sx_some hx232).1 hx232 ⟨_, _, rfl, h230⟩ rfl ?_; clear hE hS a w; intro cs233 a w h234 hn235 hE hS
                      refine WL.nil ?_
                      refine ⟨⟨fun h => absurd h (by decide), fun _ => (St.down hle229 (hS.dropAt 12))⟩, ?_⟩
                      refine Rg.done (by kernel_rfl) ?_
                      exact key _ _ _ _ hle229 h189 h163 hz164 h175 h_y7_0 h168 h_v1 h234 hn235 (hE.pick _ ⟨rfl, rfl, rfl, rfl, rfl, rfl, rfl, rfl, rfl, rfl, rfl, rfl, rfl, rfl, trivial⟩) hS
                  clear hE hS a w; intro s228 cs233 a w hle236 h189 h163 hz164 h175 h_y7_0 h168 h_v1 h234 hn235 hE hS
                  subst hK207
                  refine W.seq ?_
                  refine W.seq ?_
                  refine W.regionQ (C := fun w => St w s228 (pt pb0 (.cells #[.slice a161 q160.length c162] 25 (0, 0)) :: pt pb1 (.cells #[.slice a166 q165.length c167] 44 (0, 0)) :: pt pb2 (.cells #[.slice a173 q172.length c174] 44 (0, 0)) :: pt pb3 (.cells #[.slice a_v1 y3.length c_v1] 44 (0, 0)) :: pt pb4 (.cells #[.slice a_v2 y4.length c_v2] 25 (0, 0)) :: pt pb5 (.cells #[.map (some b_v3)] 124 (0, 0)) :: pt pb6 (.cells #[.map (some b_v4)] 121 (0, 0)) :: pt pb7 (.cells #[.slice a_y7_0 y7.length c_y7_0] 22 (0, 0)) :: pt pb8 (.cells #[.int .i64 y8.Change, .int .i64 y8.Long, .int .i64 y8.Work, .int .i64 y8.After, .int .i64 y8.Break, .int .i64 y8.Rest, .int .i64 y8.Row] 24 (0, 0)) :: pt pb9 (.cells #[.func (.func 89) #[] #[.pointer (some ⟨pb0, 0, none⟩), .pointer (some ⟨pb1, 0, none⟩), .pointer (some ⟨pb2, 0, none⟩), .pointer (some ⟨pb3, 0, none⟩), .pointer (some ⟨pb4, 0, none⟩), .pointer (some ⟨pb5, 0, none⟩), .pointer (some ⟨pb6, 0, none⟩), .pointer (some ⟨pb7, 0, none⟩), .pointer (some ⟨pb8, 0, none⟩), .pointer (some ⟨pb9, 0, none⟩)]] 66 (0, 0)) :: vecC 3 1 a166 c167 q165.length cs170 :: vecC 3 1 a_v1 c_v1 y3.length cs_v1 :: vecC 44 1 a_v2 c_v2 y4.length cs233 :: mapC keyI.f (Value.int .i64) b_v3 y5_0 :: mapC keyFleetAbsence.f Value.bool b_v4 y6_0 :: R)) mixed (by kernel_rfl) hS.drew ?_
                  refine QL.v hE (runs_plain rfl) (Gives.loadB hE 7 rfl rfl rfl ty22) rfl ?_; clear hE a; intro a hE
                  refine QL.v hE (runs_plain rfl) (Gives.loadB hE 4 rfl rfl rfl ty25) rfl ?_; clear hE a; intro a hE
                  refine QL.v hE (runs_plain rfl) (Gives.p hE rfl) rfl ?_; clear hE a; intro a hE
                  obtain ⟨x237, hx238, hq142⟩ := bindS hq142
                  obtain ⟨hi239, hlt240, hy241⟩ := gx_some hx238
                  obtain ⟨vs242, hl243, hR244, hd245, hget246⟩ := h234.at hy241
                  obtain ⟨a247, c248, rfl, h249⟩ := hR244
                  refine QL.v hE (runs_plain rfl) (Gives.idx hE ((((k144 : Nat) : Int)).toNat) rfl rfl sl25 hi239 (by have := hn235; omega) (hS.vecAok 12 rfl (by have := hn235; omega : (((k144 : Nat) : Int)).toNat < y4.length))) rfl ?_; clear hE a; intro a hE
                  refine QL.v hE (runs_plain rfl) (Gives.load1 hE rfl (fun w h => St.vecSees h 12 rfl ((((k144 : Nat) : Int)).toNat * 1) _ hget246) ty44) rfl ?_; clear hE a; intro a hE
                  refine QL.v hE (runs_plain rfl) (Gives.loadBA hE 8 rfl rfl ty24) rfl ?_; clear hE a; intro a hE
                  obtain ⟨q250, hq251, hq142⟩ := bindS hq142
                  refine QL.fnq hE (fun w hS => Fleetfits_ok hS h_y7_0 h249.sl hq251) (runs_plain rfl) bd42 rfl rfl rfl ?_; clear hE a; intro a hE
                  refine QL.nil ?_; clear hS w; intro w hS
                  refine W.cond hE rfl (fun hc252 => ?_) (fun hc252 => ?_)
                  · replace hq142 := iteT hc252 hq142
                    refine W.region ?_
                    refine WL.vS hS hE (runs_plain rfl) (Gives.loadB hE 9 rfl rfl rfl ty66) rfl ?_; clear hE a; intro a hE
                    refine WL.vS hS hE (runs_plain rfl) (Gives.p hE rfl) rfl ?_; clear hE a; intro a hE
                    refine WL.vS hS hE (runs_plain rfl) (Gives.p hE rfl) rfl ?_; clear hE a; intro a hE
                    obtain ⟨q253, hq254, hq142⟩ := bindS hq142
                    have hc_ := ih_FleetStandIns_1_v1 (y8 := y8) hS h163 hz164 h168 rfl h175 h_v1 (rfl) h234 hn235 h_y7_0 (Sg.Le.trans (Sg.Le.trans hu hle152) hle236) hq254
                    refine WL.fnw hE (hc_) rfl (runs_plain rfl) bd89 rfl rfl rfl ?_
                    clear hE hS hc_; rintro e w ⟨cs255, a258, c259, a262, c263, n264, cs265, a267, c268, s270, rfl, hle271, h256, hn257, h260, hz261, h266, rfl, h269, hS⟩; refine ⟨_, rfl, ?_⟩; clear a; intro a hE
                    replace h189 := SlF.mono hle271 h189
                    replace h_y7_0 := Sl.mono RFleetShift.mono hle271 h_y7_0
                    replace h249 := SlF.mono hle271 h249
                    replace h163 := Sl.mono RF.mono hle271 h163
                    replace h175 := Sl.mono RI.mono hle271 h175
                    replace h168 := Ev.mono RI.mono hle271 h168
                    replace h_v1 := Ev.mono RI.mono hle271 h_v1
                    replace h234 := Ev.mono RF.mono hle271 h234
                    refine WL.nil ?_
                    refine W.region ?_
                    refine WL.vS hS hE (runs_plain rfl) (Gives.loadB hE 4 rfl rfl rfl ty25) rfl ?_; clear hE a; intro a hE
                    refine WL.vS hS hE (runs_plain rfl) (Gives.p hE rfl) rfl ?_; clear hE a; intro a hE
                    refine WL.vS hS hE (runs_plain rfl) (Gives.p hE rfl) rfl ?_; clear hE a; intro a hE
                    obtain ⟨_, hx273, hq142⟩ := bindS hq142
                    obtain ⟨h274, h275⟩ := ix_some hx273
                    refine WL.vS hS hE (runs_plain rfl) (Gives.idx hE ((((k144 : Nat) : Int)).toNat) rfl rfl sl25 h274 (by have := hn257; omega) (hS.vecAok 12 rfl (by have := hn257; omega : (((k144 : Nat) : Int)).toNat < y4.length))) rfl ?_; clear hE a; intro a hE
                    obtain ⟨x277, hx278, hq142⟩ := bindS hq142
                    refine WL.setD hE hS 12 rfl (runs_plain rfl) rfl rfl (vs := [.slice a187 x177.length c188]) rfl ty44 rfl rfl rfl h256 hn257 (sx_some hx278).1 hx278 ⟨_, _, rfl, h189⟩ rfl ?_; clear hE hS a w; intro cs279 a w h280 hn281 hE hS
                    refine WL.nil ?_
                    refine W.region ?_
                    refine WL.vS hS hE (runs_plain rfl) (Gives.inc hE rfl (by omega)) rfl ?_; clear hE a; intro a hE
                    refine WL.vS hS hE (runs_plain rfl) (Gives.p hE rfl) rfl ?_; clear hE a; intro a hE
                    refine WL.nil ?_
                    subst hK176
                    exact ⟨rest146, Nat.lt_succ_self _, rest146, k144 + 1, x277, q253.2.1, q253.2.2.1, q253.2.2.2, cs279, a258, c259, a262, c263, q253.2.2.1.length, cs265, a267, c268, s270, rfl, (by omega), (Sg.Le.trans (Sg.Le.trans hle152 hle236) hle271), hq142, h280, hn281, h260, hz261, h266, rfl, h269, hE.pick _ ⟨rfl, rfl, rfl, rfl, rfl, rfl, rfl, rfl, rfl, rfl, rfl, rfl, trivial⟩, hS⟩
                  · replace hq142 := iteF hc252 hq142
                    refine W.skip ?_
                    refine W.region ?_
                    refine WL.vS hS hE (runs_plain rfl) (Gives.loadB hE 4 rfl rfl rfl ty25) rfl ?_; clear hE a; intro a hE
                    refine WL.vS hS hE (runs_plain rfl) (Gives.p hE rfl) rfl ?_; clear hE a; intro a hE
                    refine WL.vS hS hE (runs_plain rfl) (Gives.p hE rfl) rfl ?_; clear hE a; intro a hE
                    obtain ⟨_, hx283, hq142⟩ := bindS hq142
                    obtain ⟨h284, h285⟩ := ix_some hx283
                    refine WL.vS hS hE (runs_plain rfl) (Gives.idx hE ((((k144 : Nat) : Int)).toNat) rfl rfl sl25 h284 (by have := hn235; omega) (hS.vecAok 12 rfl (by have := hn235; omega : (((k144 : Nat) : Int)).toNat < y4.length))) rfl ?_; clear hE a; intro a hE
                    obtain ⟨x287, hx288, hq142⟩ := bindS hq142
                    refine WL.setD hE hS 12 rfl (runs_plain rfl) rfl rfl (vs := [.slice a187 x177.length c188]) rfl ty44 rfl rfl rfl h234 hn235 (sx_some hx288).1 hx288 ⟨_, _, rfl, h189⟩ rfl ?_; clear hE hS a w; intro cs289 a w h290 hn291 hE hS
                    refine WL.nil ?_
                    refine W.region ?_
                    refine WL.vS hS hE (runs_plain rfl) (Gives.inc hE rfl (by omega)) rfl ?_; clear hE a; intro a hE
                    refine WL.vS hS hE (runs_plain rfl) (Gives.p hE rfl) rfl ?_; clear hE a; intro a hE
                    refine WL.nil ?_
                    subst hK176
                    exact ⟨rest146, Nat.lt_succ_self _, rest146, k144 + 1, x287, q160, q165, q172, cs289, a161, c162, a166, c167, q165.length, cs170, a173, c174, s228, rfl, (by omega), (Sg.Le.trans hle152 hle236), hq142, h290, hn291, h163, hz164, h168, rfl, h175, hE.pick _ ⟨rfl, rfl, rfl, rfl, rfl, rfl, rfl, rfl, rfl, rfl, rfl, rfl, trivial⟩, hS⟩
          · clear hE hS a w; rintro a w ⟨q154, q160, q165, q172, cs158, a161, c162, a166, c167, n169, cs170, a173, c174, s151, hle152, rfl, h157, hn159, h163, hz164, h168, rfl, h175, hE, hS⟩
            dsimp only at hr
            replace h_y0_0 := Sl.mono RF.mono hle152 h_y0_0
            replace h_y2_0 := Sl.mono RI.mono hle152 h_y2_0
            replace h_y7_0 := Sl.mono RFleetShift.mono hle152 h_y7_0
            replace h_v0 := Ev.mono RI.mono hle152 h_v0
            replace h_v1 := Ev.mono RI.mono hle152 h_v1
            replace h_v2 := Ev.mono RF.mono hle152 h_v2
            refine W.seq ?_
            refine W.region ?_
            refine WL.vS hS hE (runs_plain rfl) (Gives.loadB hE 1 rfl rfl rfl ty44) rfl ?_; clear hE a; intro a hE
            refine WL.vS hS hE (runs_plain rfl) (Gives.p hE rfl) rfl ?_; clear hE a; intro a hE
            refine WL.lit hE hS (e := 3) (es := 1) (vs := [(0, .int .i64 x132)]) (cs := [.int .i64 x132]) (runs_plain rfl) rfl (by kernel_rfl) rfl ?_; clear hE hS a w; intro b292 a w hE hS
            obtain ⟨x293, hx294, hr⟩ := bindS hr
            refine WL.appD hE hS 10 (m := 1) (runs_plain rfl) rfl rfl rfl ap44 rfl h168 rfl (xs := [x132]) (Ev.cons (c1 := [.int .i64 x132]) rfl rfl (Ev.nil)) rfl rfl hx294 rfl ?_; clear hE hS a w; intro a295 c296 cs297 a w h298 hE hS
            refine WL.storeI hE hS 1 rfl [.slice a295 x293.length c296] (runs_plain rfl) rfl rfl rfl ty44 rfl rfl rfl rfl ?_; clear hE hS a w; intro a w hE hS
            refine WL.nil ?_
            refine W.seq ?_
            refine W.region ?_
            refine WL.vS hS hE (runs_plain rfl) (Gives.loadB hE 9 rfl rfl rfl ty66) rfl ?_; clear hE a; intro a hE
            refine WL.vS hS hE (runs_plain rfl) (Gives.p hE rfl) rfl ?_; clear hE a; intro a hE
            refine WL.vS hS hE (runs_plain rfl) (Gives.p hE rfl) rfl ?_; clear hE a; intro a hE
            obtain ⟨q299, hq300, hr⟩ := bindS hr
            have hc_ := ih_FleetStandIns_1_v1 (y8 := y8) hS h163 hz164 h298 (rfl) h175 h_v1 (rfl) h157 hn159 h_y7_0 (Sg.Le.trans hu hle152) hq300
            refine WL.fnw hE (hc_) rfl (runs_plain rfl) bd89 rfl rfl rfl ?_
            clear hE hS hc_; rintro e w ⟨cs301, a304, c305, a308, c309, n310, cs311, a313, c314, s316, rfl, hle317, h302, hn303, h306, hz307, h312, rfl, h315, hS⟩; refine ⟨_, rfl, ?_⟩; clear a; intro a hE
            replace h163 := Sl.mono RF.mono hle317 h163
            replace h175 := Sl.mono RI.mono hle317 h175
            replace h_y7_0 := Sl.mono RFleetShift.mono hle317 h_y7_0
            replace h298 := Ev.mono RI.mono hle317 h298
            replace h_v1 := Ev.mono RI.mono hle317 h_v1
            replace h157 := Ev.mono RF.mono hle317 h157
            refine WL.nil ?_
            refine W.region ?_
            refine WL.vS hS hE (runs_plain rfl) (Gives.loadB hE 1 rfl rfl rfl ty44) rfl ?_; clear hE a; intro a hE
            refine WL.vS hS hE (runs_plain rfl) (Gives.loadB hE 1 rfl rfl rfl ty44) rfl ?_; clear hE a; intro a hE
            refine WL.vS hS hE (runs_plain rfl) (Gives.len hE rfl sl44) rfl ?_; clear hE a; intro a hE
            refine WL.vS hS hE (runs_plain rfl) (Gives.p hE rfl) rfl ?_; clear hE a; intro a hE
            obtain ⟨x318, hx319, hr⟩ := bindS hr
            obtain ⟨_, h320, h321, h322, h323, _⟩ := cutl_some hx319
            have h324 := (hS.vecCap 10 rfl).1
            have h325 : Ev 1 (RI .i64) s316 (cs311.take ((w64 (((q299.2.2.1.length : Nat) : Int) - 1)).toNat * 1)) x318 := by rw [h322]; exact h312.take _
            have hn326 : x318.length = (w64 (((q299.2.2.1.length : Nat) : Int) - 1)).toNat := by rw [h322]; simp; omega
            replace hS := hS.vecTake 10 rfl (by omega)
            refine WL.vS hS hE (runs_plain rfl) (Gives.slH hE sl44 rfl rfl h320 (Int.le_trans h321 (by omega)) (sliced_zero _ _ _ _)) rfl ?_; clear hE a; intro a hE
            refine WL.storeI hE hS 1 rfl [.slice a308 ((w64 (((q299.2.2.1.length : Nat) : Int) - 1)).toNat) c309] (runs_plain rfl) rfl rfl rfl ty44 rfl rfl rfl rfl ?_; clear hE hS a w; intro a w hE hS
            refine WL.nil ?_
            refine finG (fn := Try.f89) (rs := []) (vs := []) hE rfl trivial ?_
            obtain rfl := Option.some.inj hr
            exact ⟨cs301, a304, c305, a308, c309, (w64 (((q299.2.2.1.length : Nat) : Int) - 1)).toNat, (cs311.take ((w64 (((q299.2.2.1.length : Nat) : Int) - 1)).toNat * 1)), a313, c314, s316, rfl, (Sg.Le.trans hle152 hle317), h302, hn303, h306, hz307, h325, hn326, h315, hS⟩
set_option maxHeartbeats 8000000 in
theorem FleetStandIns_1_c_ok {u : Sg} : ∀ {w : World} {s : Sg} {R : List HP} {pb0 : Nat} {pb1 : Nat} {pb2 : Nat} {pb3 : Nat} {pb4 : Nat} {pb5 : Nat} {pb6 : Nat} {pb7 : Nat} {pb8 : Nat} {pb9 : Nat} {x0 : Int} {y0 : List (List Int)} {a_y0_0 : Option Addr} {c_y0_0 : Nat} {y1 : List Int} {a_v0 : Option Addr} {c_v0 n_v0 : Nat} {cs_v0 : List Value} {y2 : List Int} {a_y2_0 : Option Addr} {c_y2_0 : Nat} {y3 : List Int} {a_v1 : Option Addr} {c_v1 n_v1 : Nat} {cs_v1 : List Value} {y4 : List (List Int)} {a_v2 : Option Addr} {c_v2 n_v2 : Nat} {cs_v2 : List Value} {y5_0 : List (Int × Int)} {b_v3 : Nat} {y6_0 : List (FleetAbsence × Bool)} {b_v4 : Nat} {y7 : List FleetShift} {a_y7_0 : Option Addr} {c_y7_0 : Nat} {y8 : FleetLimits} (_hS : St w s (pt pb0 (.cells #[.slice a_y0_0 y0.length c_y0_0] 25 (0, 0)) :: pt pb1 (.cells #[.slice a_v0 n_v0 c_v0] 44 (0, 0)) :: pt pb2 (.cells #[.slice a_y2_0 y2.length c_y2_0] 44 (0, 0)) :: pt pb3 (.cells #[.slice a_v1 n_v1 c_v1] 44 (0, 0)) :: pt pb4 (.cells #[.slice a_v2 n_v2 c_v2] 25 (0, 0)) :: pt pb5 (.cells #[.map (some b_v3)] 124 (0, 0)) :: pt pb6 (.cells #[.map (some b_v4)] 121 (0, 0)) :: pt pb7 (.cells #[.slice a_y7_0 y7.length c_y7_0] 22 (0, 0)) :: pt pb8 (.cells #[.int .i64 y8.Change, .int .i64 y8.Long, .int .i64 y8.Work, .int .i64 y8.After, .int .i64 y8.Break, .int .i64 y8.Rest, .int .i64 y8.Row] 24 (0, 0)) :: pt pb9 (.cells #[.func (.func 89) #[] #[.pointer (some ⟨pb0, 0, none⟩), .pointer (some ⟨pb1, 0, none⟩), .pointer (some ⟨pb2, 0, none⟩), .pointer (some ⟨pb3, 0, none⟩), .pointer (some ⟨pb4, 0, none⟩), .pointer (some ⟨pb5, 0, none⟩), .pointer (some ⟨pb6, 0, none⟩), .pointer (some ⟨pb7, 0, none⟩), .pointer (some ⟨pb8, 0, none⟩), .pointer (some ⟨pb9, 0, none⟩)]] 66 (0, 0)) :: vecC 3 1 a_v0 c_v0 n_v0 cs_v0 :: vecC 3 1 a_v1 c_v1 n_v1 cs_v1 :: vecC 44 1 a_v2 c_v2 n_v2 cs_v2 :: mapC keyI.f (Value.int .i64) b_v3 y5_0 :: mapC keyFleetAbsence.f Value.bool b_v4 y6_0 :: R)) (_h_y0_0 : Sl 1 (RF u) s a_y0_0 c_y0_0 y0) (_hz_y0_0 : y0 = [] → a_y0_0 = none) (_h_v0 : Ev 1 (RI .i64) s cs_v0 y1) (_hn_v0 : y1.length = n_v0) (_h_y2_0 : Sl 1 (RI .i64) s a_y2_0 c_y2_0 y2) (_h_v1 : Ev 1 (RI .i64) s cs_v1 y3) (_hn_v1 : y3.length = n_v1) (_h_v2 : Ev 1 (RF u) s cs_v2 y4) (_hn_v2 : y4.length = n_v2) (_h_y7_0 : Sl 3 RFleetShift s a_y7_0 c_y7_0 y7) (_hu : u.Le s) {r : (List (List Int)) × (List (List Int)) × (List Int) × (List Int)} (_hr : FleetStandIns_1_c x0 y0 y1 y2 y3 y4 = some r),
    Calls Try.prog 89 [.int .i64 x0, .pointer (some ⟨pb0, 0, none⟩), .pointer (some ⟨pb1, 0, none⟩), .pointer (some ⟨pb2, 0, none⟩), .pointer (some ⟨pb3, 0, none⟩), .pointer (some ⟨pb4, 0, none⟩), .pointer (some ⟨pb5, 0, none⟩), .pointer (some ⟨pb6, 0, none⟩), .pointer (some ⟨pb7, 0, none⟩), .pointer (some ⟨pb8, 0, none⟩), .pointer (some ⟨pb9, 0, none⟩)].toArray w (fun e w => ∃ (cs77 : List Value) (a80 : Option Addr) (c81 : Nat) (a85 : Option Addr) (c86 : Nat) (n88 : Nat) (cs89 : List Value) (a92 : Option Addr) (c93 : Nat) (t : Sg), e = .returned (.tuple #[]) ∧ s.Le t ∧ Ev 1 (RF u) t cs77 r.1 ∧ r.1.length = n_v2 ∧ Sl 1 (RF u) t a80 c81 r.2.1 ∧ Ev 1 (RI .i64) t cs89 r.2.2.1 ∧ r.2.2.1.length = n88 ∧ Sl 1 (RI .i64) t a92 c93 r.2.2.2 ∧ St w t (pt pb0 (.cells #[.slice a80 r.2.1.length c81] 25 (0, 0)) :: pt pb1 (.cells #[.slice a85 n88 c86] 44 (0, 0)) :: pt pb2 (.cells #[.slice a92 r.2.2.2.length c93] 44 (0, 0)) :: pt pb3 (.cells #[.slice a_v1 n_v1 c_v1] 44 (0, 0)) :: pt pb4 (.cells #[.slice a_v2 n_v2 c_v2] 25 (0, 0)) :: pt pb5 (.cells #[.map (some b_v3)] 124 (0, 0)) :: pt pb6 (.cells #[.map (some b_v4)] 121 (0, 0)) :: pt pb7 (.cells #[.slice a_y7_0 y7.length c_y7_0] 22 (0, 0)) :: pt pb8 (.cells #[.int .i64 y8.Change, .int .i64 y8.Long, .int .i64 y8.Work, .int .i64 y8.After, .int .i64 y8.Break, .int .i64 y8.Rest, .int .i64 y8.Row] 24 (0, 0)) :: pt pb9 (.cells #[.func (.func 89) #[] #[.pointer (some ⟨pb0, 0, none⟩), .pointer (some ⟨pb1, 0, none⟩), .pointer (some ⟨pb2, 0, none⟩), .pointer (some ⟨pb3, 0, none⟩), .pointer (some ⟨pb4, 0, none⟩), .pointer (some ⟨pb5, 0, none⟩), .pointer (some ⟨pb6, 0, none⟩), .pointer (some ⟨pb7, 0, none⟩), .pointer (some ⟨pb8, 0, none⟩), .pointer (some ⟨pb9, 0, none⟩)]] 66 (0, 0)) :: vecC 3 1 a85 c86 n88 cs89 :: vecC 3 1 a_v1 c_v1 n_v1 cs_v1 :: vecC 44 1 a_v2 c_v2 n_v2 cs77 :: mapC keyI.f (Value.int .i64) b_v3 y5_0 :: mapC keyFleetAbsence.f Value.bool b_v4 y6_0 :: R)) := by
    intro w s R pb0 pb1 pb2 pb3 pb4 pb5 pb6 pb7 pb8 pb9 x0 y0 a_y0_0 c_y0_0 y1 a_v0 c_v0 n_v0 cs_v0 y2 a_y2_0 c_y2_0 y3 a_v1 c_v1 n_v1 cs_v1 y4 a_v2 c_v2 n_v2 cs_v2 y5_0 b_v3 y6_0 b_v4 y7 a_y7_0 c_y7_0 y8 hS h_y0_0 hz_y0_0 h_v0 hn_v0 h_y2_0 h_v1 hn_v1 h_v2 hn_v2 h_y7_0 hu r hr
    rw [FleetStandIns_1_c] at hr
    refine enter Try.func89 rfl rfl rfl fun a hE => ?_
    subst hn_v0
    subst hn_v1
    subst hn_v2
    refine W.seq ?_
    refine W.seq ?_
    obtain ⟨q96, hq95, hr⟩ := bndS hr
    refine W.cut (fun a w => ∃ (q99 : Bool), q99 = q96 ∧ Rep a 96 [(0, .int .i64 x0), (1, .pointer (some ⟨pb0, 0, none⟩)), (2, .pointer (some ⟨pb1, 0, none⟩)), (3, .pointer (some ⟨pb2, 0, none⟩)), (4, .pointer (some ⟨pb3, 0, none⟩)), (5, .pointer (some ⟨pb4, 0, none⟩)), (6, .pointer (some ⟨pb5, 0, none⟩)), (7, .pointer (some ⟨pb6, 0, none⟩)), (8, .pointer (some ⟨pb7, 0, none⟩)), (9, .pointer (some ⟨pb8, 0, none⟩)), (10, .pointer (some ⟨pb9, 0, none⟩)), (23, .bool q99)] ∧ St w s (pt pb0 (.cells #[.slice a_y0_0 y0.length c_y0_0] 25 (0, 0)) :: pt pb1 (.cells #[.slice a_v0 y1.length c_v0] 44 (0, 0)) :: pt pb2 (.cells #[.slice a_y2_0 y2.length c_y2_0] 44 (0, 0)) :: pt pb3 (.cells #[.slice a_v1 y3.length c_v1] 44 (0, 0)) :: pt pb4 (.cells #[.slice a_v2 y4.length c_v2] 25 (0, 0)) :: pt pb5 (.cells #[.map (some b_v3)] 124 (0, 0)) :: pt pb6 (.cells #[.map (some b_v4)] 121 (0, 0)) :: pt pb7 (.cells #[.slice a_y7_0 y7.length c_y7_0] 22 (0, 0)) :: pt pb8 (.cells #[.int .i64 y8.Change, .int .i64 y8.Long, .int .i64 y8.Work, .int .i64 y8.After, .int .i64 y8.Break, .int .i64 y8.Rest, .int .i64 y8.Row] 24 (0, 0)) :: pt pb9 (.cells #[.func (.func 89) #[] #[.pointer (some ⟨pb0, 0, none⟩), .pointer (some ⟨pb1, 0, none⟩), .pointer (some ⟨pb2, 0, none⟩), .pointer (some ⟨pb3, 0, none⟩), .pointer (some ⟨pb4, 0, none⟩), .pointer (some ⟨pb5, 0, none⟩), .pointer (some ⟨pb6, 0, none⟩), .pointer (some ⟨pb7, 0, none⟩), .pointer (some ⟨pb8, 0, none⟩), .pointer (some ⟨pb9, 0, none⟩)]] 66 (0, 0)) :: vecC 3 1 a_v0 c_v0 y1.length cs_v0 :: vecC 3 1 a_v1 c_v1 y3.length cs_v1 :: vecC 44 1 a_v2 c_v2 y4.length cs_v2 :: mapC keyI.f (Value.int .i64) b_v3 y5_0 :: mapC keyFleetAbsence.f Value.bool b_v4 y6_0 :: R)) ?_ ?_
    · refine W.gen fun K100 hK100 => ?_
      refine W.region ?_
      refine WL.vS hS hE (runs_plain rfl) (Gives.loadB hE 0 rfl rfl rfl ty25) rfl ?_; clear hE a; intro a hE
      refine WL.vS hS hE (runs_plain rfl) (Gives.notNilZ hE (isNone_eq h_y0_0 hz_y0_0) rfl rfl isl25) rfl ?_; clear hE a; intro a hE
      refine WL.vS hS hE (runs_plain rfl) (Gives.p hE rfl) rfl ?_; clear hE a; intro a hE
      rcases Bool.eq_false_or_eq_true !y0.isEmpty with hg101 | hg101
      · replace hq95 := iteT hg101 hq95
        refine WL.vS hS hE (runs_if hE rfl rfl rfl hg101) (Gives.loadB hE 1 rfl rfl rfl ty44) rfl ?_; clear hE a; intro a hE
        refine WL.vS hS hE (runs_if hE rfl rfl rfl hg101) (Gives.len hE rfl sl44) rfl ?_; clear hE a; intro a hE
        refine WL.vS hS hE (runs_if hE rfl rfl rfl hg101) (Gives.loadB hE 2 rfl rfl rfl ty44) rfl ?_; clear hE a; intro a hE
        refine WL.vS hS hE (runs_if hE rfl rfl rfl hg101) (Gives.len hE rfl sl44) rfl ?_; clear hE a; intro a hE
        refine WL.vS hS hE (runs_if hE rfl rfl rfl hg101) (Gives.p hE rfl) rfl ?_; clear hE a; intro a hE
        refine WL.vS hS hE (runs_plain rfl) (Gives.pickT hE rfl hg101 rfl) rfl ?_; clear hE a; intro a hE
        refine WL.nil ?_
        subst hK100
        exact ⟨decide (((y1.length : Nat) : Int) ≥ ((y2).length : Int)), hq95, hE.pick _ ⟨rfl, rfl, rfl, rfl, rfl, rfl, rfl, rfl, rfl, rfl, rfl, rfl, trivial⟩, hS⟩
      · replace hq95 := iteF hg101 hq95
        refine WL.no hE (runs_not hE rfl rfl rfl (by rw [hg101]; decide)) rfl ?_; clear hE a; intro a hE
        refine WL.no hE (runs_not hE rfl rfl rfl (by rw [hg101]; decide)) rfl ?_; clear hE a; intro a hE
        refine WL.no hE (runs_not hE rfl rfl rfl (by rw [hg101]; decide)) rfl ?_; clear hE a; intro a hE
        refine WL.no hE (runs_not hE rfl rfl rfl (by rw [hg101]; decide)) rfl ?_; clear hE a; intro a hE
        refine WL.no hE (runs_not hE rfl rfl rfl (by rw [hg101]; decide)) rfl ?_; clear hE a; intro a hE
        refine WL.vS hS hE (runs_plain rfl) (Gives.pickF hE rfl hg101 rfl) rfl ?_; clear hE a; intro a hE
        refine WL.nil ?_
        subst hK100
        exact ⟨false, hq95, hE.pick _ ⟨rfl, rfl, rfl, rfl, rfl, rfl, rfl, rfl, rfl, rfl, rfl, rfl, trivial⟩, hS⟩
    · clear hE hS a w; rintro a w ⟨q99, rfl, hE, hS⟩
      refine W.cond hE rfl (fun hc102 => ?_) (fun hc102 => ?_)
      · replace hr := iteT hc102 hr
        refine W.ret ?_
        refine finG (fn := Try.f89) (rs := []) (vs := []) hE rfl trivial ?_
        obtain rfl := Option.some.inj hr
        exact ⟨cs_v2, a_y0_0, c_y0_0, a_v0, c_v0, y1.length, cs_v0, a_y2_0, c_y2_0, s, rfl, (Sg.Le.refl _), h_v2, (rfl), h_y0_0, h_v0, (rfl), h_y2_0, hS⟩
      · replace hr := iteF hc102 hr
        refine W.skip ?_
        refine W.seq ?_
        refine W.seq ?_
        refine W.region ?_
        refine WL.vS hS hE (runs_plain rfl) (Gives.p hE rfl) rfl ?_; clear hE a; intro a hE
        refine WL.vS hS hE (runs_plain rfl) (Gives.loadB hE 3 rfl rfl rfl ty44) rfl ?_; clear hE a; intro a hE
        refine WL.vS hS hE (runs_plain rfl) (Gives.len hE rfl sl44) rfl ?_; clear hE a; intro a hE
        refine WL.vS hS hE (runs_plain rfl) (Gives.p hE rfl) rfl ?_; clear hE a; intro a hE
        refine WL.nil ?_
        refine W.cond hE rfl (fun hc103 => ?_) (fun hc103 => ?_)
        · replace hr := iteT hc103 hr
          refine W.seq ?_
          refine W.gen fun K104 hK104 => ?_
          refine W.regionE (sel (fun w => St w s (pt pb0 (.cells #[.slice a_y0_0 y0.length c_y0_0] 25 (0, 0)) :: pt pb1 (.cells #[.slice a_v0 y1.length c_v0] 44 (0, 0)) :: pt pb2 (.cells #[.slice a_y2_0 y2.length c_y2_0] 44 (0, 0)) :: pt pb3 (.cells #[.slice a_v1 y3.length c_v1] 44 (0, 0)) :: pt pb4 (.cells #[.slice a_v2 y4.length c_v2] 25 (0, 0)) :: pt pb5 (.cells #[.map (some b_v3)] 124 (0, 0)) :: pt pb6 (.cells #[.map (some b_v4)] 121 (0, 0)) :: pt pb7 (.cells #[.slice a_y7_0 y7.length c_y7_0] 22 (0, 0)) :: pt pb8 (.cells #[.int .i64 y8.Change, .int .i64 y8.Long, .int .i64 y8.Work, .int .i64 y8.After, .int .i64 y8.Break, .int .i64 y8.Rest, .int .i64 y8.Row] 24 (0, 0)) :: pt pb9 (.cells #[.func (.func 89) #[] #[.pointer (some ⟨pb0, 0, none⟩), .pointer (some ⟨pb1, 0, none⟩), .pointer (some ⟨pb2, 0, none⟩), .pointer (some ⟨pb3, 0, none⟩), .pointer (some ⟨pb4, 0, none⟩), .pointer (some ⟨pb5, 0, none⟩), .pointer (some ⟨pb6, 0, none⟩), .pointer (some ⟨pb7, 0, none⟩), .pointer (some ⟨pb8, 0, none⟩), .pointer (some ⟨pb9, 0, none⟩)]] 66 (0, 0)) :: vecC 3 1 a_v0 c_v0 y1.length cs_v0 :: vecC 3 1 a_v1 c_v1 y3.length cs_v1 :: vecC 44 1 a_v2 c_v2 y4.length cs_v2 :: mapC keyI.f (Value.int .i64) b_v3 y5_0 :: mapC keyFleetAbsence.f Value.bool b_v4 y6_0 :: R)) (fun w => St w s (pt pb1 (.cells #[.slice a_v0 y1.length c_v0] 44 (0, 0)) :: pt pb3 (.cells #[.slice a_v1 y3.length c_v1] 44 (0, 0)) :: pt pb4 (.cells #[.slice a_v2 y4.length c_v2] 25 (0, 0)) :: pt pb5 (.cells #[.map (some b_v3)] 124 (0, 0)) :: pt pb6 (.cells #[.map (some b_v4)] 121 (0, 0)) :: pt pb7 (.cells #[.slice a_y7_0 y7.length c_y7_0] 22 (0, 0)) :: pt pb8 (.cells #[.int .i64 y8.Change, .int .i64 y8.Long, .int .i64 y8.Work, .int .i64 y8.After, .int .i64 y8.Break, .int .i64 y8.Rest, .int .i64 y8.Row] 24 (0, 0)) :: pt pb9 (.cells #[.func (.func 89) #[] #[.pointer (some ⟨pb0, 0, none⟩), .pointer (some ⟨pb1, 0, none⟩), .pointer (some ⟨pb2, 0, none⟩), .pointer (some ⟨pb3, 0, none⟩), .pointer (some ⟨pb4, 0, none⟩), .pointer (some ⟨pb5, 0, none⟩), .pointer (some ⟨pb6, 0, none⟩), .pointer (some ⟨pb7, 0, none⟩), .pointer (some ⟨pb8, 0, none⟩), .pointer (some ⟨pb9, 0, none⟩)]] 66 (0, 0)) :: vecC 3 1 a_v0 c_v0 y1.length cs_v0 :: vecC 3 1 a_v1 c_v1 y3.length cs_v1 :: vecC 44 1 a_v2 c_v2 y4.length cs_v2 :: mapC keyI.f (Value.int .i64) b_v3 y5_0 :: mapC keyFleetAbsence.f Value.bool b_v4 y6_0 :: R))) (fun b i => cond b ([0, 1, 2, 3].contains i) ([0, 1, 2, 3, 4, 5].contains i)) mixed ?_
          replace hS := hS.drew
          have hT := tw_sel (A := fun w => St w s (pt pb0 (.cells #[.slice a_y0_0 y0.length c_y0_0] 25 (0, 0)) :: pt pb1 (.cells #[.slice a_v0 y1.length c_v0] 44 (0, 0)) :: pt pb2 (.cells #[.slice a_y2_0 y2.length c_y2_0] 44 (0, 0)) :: pt pb3 (.cells #[.slice a_v1 y3.length c_v1] 44 (0, 0)) :: pt pb4 (.cells #[.slice a_v2 y4.length c_v2] 25 (0, 0)) :: pt pb5 (.cells #[.map (some b_v3)] 124 (0, 0)) :: pt pb6 (.cells #[.map (some b_v4)] 121 (0, 0)) :: pt pb7 (.cells #[.slice a_y7_0 y7.length c_y7_0] 22 (0, 0)) :: pt pb8 (.cells #[.int .i64 y8.Change, .int .i64 y8.Long, .int .i64 y8.Work, .int .i64 y8.After, .int .i64 y8.Break, .int .i64 y8.Rest, .int .i64 y8.Row] 24 (0, 0)) :: pt pb9 (.cells #[.func (.func 89) #[] #[.pointer (some ⟨pb0, 0, none⟩), .pointer (some ⟨pb1, 0, none⟩), .pointer (some ⟨pb2, 0, none⟩), .pointer (some ⟨pb3, 0, none⟩), .pointer (some ⟨pb4, 0, none⟩), .pointer (some ⟨pb5, 0, none⟩), .pointer (some ⟨pb6, 0, none⟩), .pointer (some ⟨pb7, 0, none⟩), .pointer (some ⟨pb8, 0, none⟩), .pointer (some ⟨pb9, 0, none⟩)]] 66 (0, 0)) :: vecC 3 1 a_v0 c_v0 y1.length cs_v0 :: vecC 3 1 a_v1 c_v1 y3.length cs_v1 :: vecC 44 1 a_v2 c_v2 y4.length cs_v2 :: mapC keyI.f (Value.int .i64) b_v3 y5_0 :: mapC keyFleetAbsence.f Value.bool b_v4 y6_0 :: R)) (B := fun w => St w s (pt pb1 (.cells #[.slice a_v0 y1.length c_v0] 44 (0, 0)) :: pt pb3 (.cells #[.slice a_v1 y3.length c_v1] 44 (0, 0)) :: pt pb4 (.cells #[.slice a_v2 y4.length c_v2] 25 (0, 0)) :: pt pb5 (.cells #[.map (some b_v3)] 124 (0, 0)) :: pt pb6 (.cells #[.map (some b_v4)] 121 (0, 0)) :: pt pb7 (.cells #[.slice a_y7_0 y7.length c_y7_0] 22 (0, 0)) :: pt pb8 (.cells #[.int .i64 y8.Change, .int .i64 y8.Long, .int .i64 y8.Work, .int .i64 y8.After, .int .i64 y8.Break, .int .i64 y8.Rest, .int .i64 y8.Row] 24 (0, 0)) :: pt pb9 (.cells #[.func (.func 89) #[] #[.pointer (some ⟨pb0, 0, none⟩), .pointer (some ⟨pb1, 0, none⟩), .pointer (some ⟨pb2, 0, none⟩), .pointer (some ⟨pb3, 0, none⟩), .pointer (some ⟨pb4, 0, none⟩), .pointer (some ⟨pb5, 0, none⟩), .pointer (some ⟨pb6, 0, none⟩), .pointer (some ⟨pb7, 0, none⟩), .pointer (some ⟨pb8, 0, none⟩), .pointer (some ⟨pb9, 0, none⟩)]] 66 (0, 0)) :: vecC 3 1 a_v0 c_v0 y1.length cs_v0 :: vecC 3 1 a_v1 c_v1 y3.length cs_v1 :: vecC 44 1 a_v2 c_v2 y4.length cs_v2 :: mapC keyI.f (Value.int .i64) b_v3 y5_0 :: mapC keyFleetAbsence.f Value.bool b_v4 y6_0 :: R)) (w := _) (x := true) (y := true) (fun _ => hS) (fun _ => ((hS.tail).dropAt 1))
          have hF := hS; replace hS := hS
          refine Rg.take (i := 0) true rfl hE rfl (by kernel_rfl) (runs_plain rfl) (Gives.loadB hE 4 rfl rfl rfl ty25) rfl hT ?_; clear hE a; intro a hE
          replace hS := hF; clear hF hT
          have hT := tw_sel (A := fun w => St w s (pt pb0 (.cells #[.slice a_y0_0 y0.length c_y0_0] 25 (0, 0)) :: pt pb1 (.cells #[.slice a_v0 y1.length c_v0] 44 (0, 0)) :: pt pb2 (.cells #[.slice a_y2_0 y2.length c_y2_0] 44 (0, 0)) :: pt pb3 (.cells #[.slice a_v1 y3.length c_v1] 44 (0, 0)) :: pt pb4 (.cells #[.slice a_v2 y4.length c_v2] 25 (0, 0)) :: pt pb5 (.cells #[.map (some b_v3)] 124 (0, 0)) :: pt pb6 (.cells #[.map (some b_v4)] 121 (0, 0)) :: pt pb7 (.cells #[.slice a_y7_0 y7.length c_y7_0] 22 (0, 0)) :: pt pb8 (.cells #[.int .i64 y8.Change, .int .i64 y8.Long, .int .i64 y8.Work, .int .i64 y8.After, .int .i64 y8.Break, .int .i64 y8.Rest, .int .i64 y8.Row] 24 (0, 0)) :: pt pb9 (.cells #[.func (.func 89) #[] #[.pointer (some ⟨pb0, 0, none⟩), .pointer (some ⟨pb1, 0, none⟩), .pointer (some ⟨pb2, 0, none⟩), .pointer (some ⟨pb3, 0, none⟩), .pointer (some ⟨pb4, 0, none⟩), .pointer (some ⟨pb5, 0, none⟩), .pointer (some ⟨pb6, 0, none⟩), .pointer (some ⟨pb7, 0, none⟩), .pointer (some ⟨pb8, 0, none⟩), .pointer (some ⟨pb9, 0, none⟩)]] 66 (0, 0)) :: vecC 3 1 a_v0 c_v0 y1.length cs_v0 :: vecC 3 1 a_v1 c_v1 y3.length cs_v1 :: vecC 44 1 a_v2 c_v2 y4.length cs_v2 :: mapC keyI.f (Value.int .i64) b_v3 y5_0 :: mapC keyFleetAbsence.f Value.bool b_v4 y6_0 :: R)) (B := fun w => St w s (pt pb1 (.cells #[.slice a_v0 y1.length c_v0] 44 (0, 0)) :: pt pb3 (.cells #[.slice a_v1 y3.length c_v1] 44 (0, 0)) :: pt pb4 (.cells #[.slice a_v2 y4.length c_v2] 25 (0, 0)) :: pt pb5 (.cells #[.map (some b_v3)] 124 (0, 0)) :: pt pb6 (.cells #[.map (some b_v4)] 121 (0, 0)) :: pt pb7 (.cells #[.slice a_y7_0 y7.length c_y7_0] 22 (0, 0)) :: pt pb8 (.cells #[.int .i64 y8.Change, .int .i64 y8.Long, .int .i64 y8.Work, .int .i64 y8.After, .int .i64 y8.Break, .int .i64 y8.Rest, .int .i64 y8.Row] 24 (0, 0)) :: pt pb9 (.cells #[.func (.func 89) #[] #[.pointer (some ⟨pb0, 0, none⟩), .pointer (some ⟨pb1, 0, none⟩), .pointer (some ⟨pb2, 0, none⟩), .pointer (some ⟨pb3, 0, none⟩), .pointer (some ⟨pb4, 0, none⟩), .pointer (some ⟨pb5, 0, none⟩), .pointer (some ⟨pb6, 0, none⟩), .pointer (some ⟨pb7, 0, none⟩), .pointer (some ⟨pb8, 0, none⟩), .pointer (some ⟨pb9, 0, none⟩)]] 66 (0, 0)) :: vecC 3 1 a_v0 c_v0 y1.length cs_v0 :: vecC 3 1 a_v1 c_v1 y3.length cs_v1 :: vecC 44 1 a_v2 c_v2 y4.length cs_v2 :: mapC keyI.f (Value.int .i64) b_v3 y5_0 :: mapC keyFleetAbsence.f Value.bool b_v4 y6_0 :: R)) (w := _) (x := true) (y := true) (fun _ => hS) (fun _ => ((hS.tail).dropAt 1))
          have hF := hS; replace hS := ((hS.tail).dropAt 1)
          refine Rg.take (i := 2) false rfl hE rfl (by kernel_rfl) (runs_plain rfl) (Gives.loadB hE 0 rfl rfl rfl ty44) rfl hT ?_; clear hE a; intro a hE
          replace hS := hF; clear hF hT
          refine Rg.one (i := 1) true true rfl (by kernel_rfl) (by kernel_rfl) (by kernel_rfl) ?_
          obtain ⟨q105, hq106, hr⟩ := bindS hr
          replace hS := hS.front 12 rfl
          have hc_ := SlicesCloneLLint_f_ok hS h_v2 (rfl) hq106
          refine WL.fnq hE (hc_) (runs_plain rfl) bd40 rfl rfl rfl ?_
          clear hE hS hc_; rintro e w ⟨a107, c108, n109, cs110, rfl, h111, rfl, hS⟩; refine ⟨_, rfl, ?_⟩; clear a; intro a hE
          refine WL.nil ?_
          refine ⟨⟨fun _ => (St.order (hS.tail) [1, 1, 1, 1, 1, 1, 1, 1, 1, 1, 1, 1, 0, 0, 0] (by kernel_rfl)), fun _ => (St.order (((hS.tail).dropAt 1).dropAt 2) [1, 1, 1, 1, 1, 1, 1, 1, 1, 1, 0, 0, 0] (by kernel_rfl))⟩, ?_⟩
          refine Rg.one (i := 3) true true rfl (by kernel_rfl) (by kernel_rfl) (by kernel_rfl) ?_
          obtain ⟨q113, hq114, hr⟩ := bindS hr
          have hF := hS.lendV RI.mono 12 rfl h_v0 (rfl); clear hS; obtain ⟨t121, hle122, hS, hs123, bk124⟩ := hF
          have hc_ := SlicesCloneLint_ok hS hs123 hq114
          refine WL.fnq hE (hc_) (runs_plain rfl) bd41 rfl rfl rfl ?_
          clear hE hS hc_; rintro e w ⟨a115, c116, n117, cs118, rfl, h119, rfl, hS⟩; refine ⟨_, rfl, ?_⟩; clear a; intro a hE
          replace hS := bk124 _ _ hS
          replace h119 := Ev.flat (s2 := s) (fun _ _ _ _ h => h) h119
          refine WL.nil ?_
          refine ⟨⟨fun _ => (St.order ((hS.dropAt 1).dropAt 1) [2, 2, 2, 2, 2, 2, 2, 2, 2, 2, 0, 1, 0, 0, 0] (by kernel_rfl)), fun _ => (St.order ((((hS.dropAt 1).dropAt 1).dropAt 2).dropAt 3) [2, 2, 2, 2, 2, 2, 2, 2, 0, 1, 0, 0, 0] (by kernel_rfl))⟩, ?_⟩
          refine Rg.one (i := 4) false true rfl (by kernel_rfl) (by kernel_rfl) (by kernel_rfl) ?_
          have hF := hS.fixD RF.mono 2 rfl h111 rfl; clear hS; obtain ⟨s125, hle126, hS, h127⟩ := hF
          replace h_v0 := Ev.mono RI.mono hle126 h_v0
          replace h119 := Ev.mono RI.mono hle126 h119
          replace h_v2 := Ev.mono RF.mono hle126 h_v2
          replace h_y0_0 := Sl.mono RF.mono hle126 h_y0_0
          replace h_y2_0 := Sl.mono RI.mono hle126 h_y2_0
          replace h_y7_0 := Sl.mono RFleetShift.mono hle126 h_y7_0
          replace h_v1 := Ev.mono RI.mono hle126 h_v1
          refine WL.storeI hE hS 3 rfl [.slice a107 q105.length c108] (runs_plain rfl) rfl rfl rfl ty25 rfl rfl rfl rfl ?_; clear hE hS a w; intro a w hE hS
          refine WL.nil ?_
          refine ⟨⟨fun h => absurd h (by decide), fun _ => (St.down hle126 (St.order (((hS.dropAt 1).dropAt 2).dropAt 3) [2, 2, 2, 2, 2, 2, 2, 2, 0, 1, 0, 0, 0] (by kernel_rfl)))⟩, ?_⟩
          refine Rg.one (i := 5) false true rfl (by kernel_rfl) (by kernel_rfl) (by kernel_rfl) ?_
          refine WL.storeI hE hS 5 rfl [.slice a115 q113.length c116] (runs_plain rfl) rfl rfl rfl ty44 rfl rfl rfl rfl ?_; clear hE hS a w; intro a w hE hS
          refine WL.nil ?_
          refine ⟨⟨fun h => absurd h (by decide), fun _ => (St.down hle126 (St.order (((hS.dropAt 1).dropAt 2).dropAt 3) [2, 2, 2, 2, 2, 2, 2, 2, 0, 1, 0, 0, 0] (by kernel_rfl)))⟩, ?_⟩
          refine Rg.done (by kernel_rfl) ?_
          subst hK104
          refine W.ret ?_
          have hF := hS.fixD RI.mono 1 rfl h119 rfl; clear hS; obtain ⟨s129, hle130, hS, h131⟩ := hF
          replace h127 := Sl.mono RF.mono hle130 h127
          replace h_v0 := Ev.mono RI.mono hle130 h_v0
          replace h_v2 := Ev.mono RF.mono hle130 h_v2
          replace h_y7_0 := Sl.mono RFleetShift.mono hle130 h_y7_0
          replace h_v1 := Ev.mono RI.mono hle130 h_v1
          refine finG (fn := Try.f89) (rs := []) (vs := []) hE rfl trivial ?_
          obtain rfl := Option.some.inj hr
          exact ⟨cs_v2, a107, c108, a_v0, c_v0, y1.length, cs_v0, a115, c116, s129, rfl, (Sg.Le.trans hle126 hle130), h_v2, (rfl), h127, h_v0, (rfl), h131, St.order hS [2, 2, 2, 2, 2, 2, 2, 2, 2, 2, 0, 1] (by kernel_rfl)⟩
        · replace hr := iteF hc103 hr
          cases hr

theorem FleetStandIns_1_z_ok {u : Sg} : ∀ {fu : Nat} {w : World} {s : Sg} {R : List HP} {pb0 : Nat} {pb1 : Nat} {pb2 : Nat} {pb3 : Nat} {pb4 : Nat} {pb5 : Nat} {pb6 : Nat} {pb7 : Nat} {pb8 : Nat} {pb9 : Nat} {x0 : Int} {y0 : List (List Int)} {a_y0_0 : Option Addr} {c_y0_0 : Nat} {y1 : List Int} {a_v0 : Option Addr} {c_v0 n_v0 : Nat} {cs_v0 : List Value} {y2 : List Int} {a_y2_0 : Option Addr} {c_y2_0 : Nat} {y3 : List Int} {a_v1 : Option Addr} {c_v1 n_v1 : Nat} {cs_v1 : List Value} {y4 : List (List Int)} {a_v2 : Option Addr} {c_v2 n_v2 : Nat} {cs_v2 : List Value} {y5_0 : List (Int × Int)} {b_v3 : Nat} {y6_0 : List (FleetAbsence × Bool)} {b_v4 : Nat} {y7 : List FleetShift} {a_y7_0 : Option Addr} {c_y7_0 : Nat} {y8 : FleetLimits} (_hS : St w s (pt pb0 (.cells #[.slice a_y0_0 y0.length c_y0_0] 25 (0, 0)) :: pt pb1 (.cells #[.slice a_v0 n_v0 c_v0] 44 (0, 0)) :: pt pb2 (.cells #[.slice a_y2_0 y2.length c_y2_0] 44 (0, 0)) :: pt pb3 (.cells #[.slice a_v1 n_v1 c_v1] 44 (0, 0)) :: pt pb4 (.cells #[.slice a_v2 n_v2 c_v2] 25 (0, 0)) :: pt pb5 (.cells #[.map (some b_v3)] 124 (0, 0)) :: pt pb6 (.cells #[.map (some b_v4)] 121 (0, 0)) :: pt pb7 (.cells #[.slice a_y7_0 y7.length c_y7_0] 22 (0, 0)) :: pt pb8 (.cells #[.int .i64 y8.Change, .int .i64 y8.Long, .int .i64 y8.Work, .int .i64 y8.After, .int .i64 y8.Break, .int .i64 y8.Rest, .int .i64 y8.Row] 24 (0, 0)) :: pt pb9 (.cells #[.func (.func 89) #[] #[.pointer (some ⟨pb0, 0, none⟩), .pointer (some ⟨pb1, 0, none⟩), .pointer (some ⟨pb2, 0, none⟩), .pointer (some ⟨pb3, 0, none⟩), .pointer (some ⟨pb4, 0, none⟩), .pointer (some ⟨pb5, 0, none⟩), .pointer (some ⟨pb6, 0, none⟩), .pointer (some ⟨pb7, 0, none⟩), .pointer (some ⟨pb8, 0, none⟩), .pointer (some ⟨pb9, 0, none⟩)]] 66 (0, 0)) :: vecC 3 1 a_v0 c_v0 n_v0 cs_v0 :: vecC 3 1 a_v1 c_v1 n_v1 cs_v1 :: vecC 44 1 a_v2 c_v2 n_v2 cs_v2 :: mapC keyI.f (Value.int .i64) b_v3 y5_0 :: mapC keyFleetAbsence.f Value.bool b_v4 y6_0 :: R)) (_h_y0_0 : Sl 1 (RF u) s a_y0_0 c_y0_0 y0) (_hz_y0_0 : y0 = [] → a_y0_0 = none) (_h_v0 : Ev 1 (RI .i64) s cs_v0 y1) (_hn_v0 : y1.length = n_v0) (_h_y2_0 : Sl 1 (RI .i64) s a_y2_0 c_y2_0 y2) (_h_v1 : Ev 1 (RI .i64) s cs_v1 y3) (_hn_v1 : y3.length = n_v1) (_h_v2 : Ev 1 (RF u) s cs_v2 y4) (_hn_v2 : y4.length = n_v2) (_h_y7_0 : Sl 3 RFleetShift s a_y7_0 c_y7_0 y7) (_hu : u.Le s) {r : (List (List Int)) × (List (List Int)) × (List Int) × (List Int)} (_hr : FleetStandIns_1_z fu x0 y0 y1 y2 y3 y4 y5_0 y6_0 y7 y8 = some r),
    Calls Try.prog 89 [.int .i64 x0, .pointer (some ⟨pb0, 0, none⟩), .pointer (some ⟨pb1, 0, none⟩), .pointer (some ⟨pb2, 0, none⟩), .pointer (some ⟨pb3, 0, none⟩), .pointer (some ⟨pb4, 0, none⟩), .pointer (some ⟨pb5, 0, none⟩), .pointer (some ⟨pb6, 0, none⟩), .pointer (some ⟨pb7, 0, none⟩), .pointer (some ⟨pb8, 0, none⟩), .pointer (some ⟨pb9, 0, none⟩)].toArray w (fun e w => ∃ (cs77 : List Value) (a80 : Option Addr) (c81 : Nat) (a85 : Option Addr) (c86 : Nat) (n88 : Nat) (cs89 : List Value) (a92 : Option Addr) (c93 : Nat) (t : Sg), e = .returned (.tuple #[]) ∧ s.Le t ∧ Ev 1 (RF u) t cs77 r.1 ∧ r.1.length = n_v2 ∧ Sl 1 (RF u) t a80 c81 r.2.1 ∧ Ev 1 (RI .i64) t cs89 r.2.2.1 ∧ r.2.2.1.length = n88 ∧ Sl 1 (RI .i64) t a92 c93 r.2.2.2 ∧ St w t (pt pb0 (.cells #[.slice a80 r.2.1.length c81] 25 (0, 0)) :: pt pb1 (.cells #[.slice a85 n88 c86] 44 (0, 0)) :: pt pb2 (.cells #[.slice a92 r.2.2.2.length c93] 44 (0, 0)) :: pt pb3 (.cells #[.slice a_v1 n_v1 c_v1] 44 (0, 0)) :: pt pb4 (.cells #[.slice a_v2 n_v2 c_v2] 25 (0, 0)) :: pt pb5 (.cells #[.map (some b_v3)] 124 (0, 0)) :: pt pb6 (.cells #[.map (some b_v4)] 121 (0, 0)) :: pt pb7 (.cells #[.slice a_y7_0 y7.length c_y7_0] 22 (0, 0)) :: pt pb8 (.cells #[.int .i64 y8.Change, .int .i64 y8.Long, .int .i64 y8.Work, .int .i64 y8.After, .int .i64 y8.Break, .int .i64 y8.Rest, .int .i64 y8.Row] 24 (0, 0)) :: pt pb9 (.cells #[.func (.func 89) #[] #[.pointer (some ⟨pb0, 0, none⟩), .pointer (some ⟨pb1, 0, none⟩), .pointer (some ⟨pb2, 0, none⟩), .pointer (some ⟨pb3, 0, none⟩), .pointer (some ⟨pb4, 0, none⟩), .pointer (some ⟨pb5, 0, none⟩), .pointer (some ⟨pb6, 0, none⟩), .pointer (some ⟨pb7, 0, none⟩), .pointer (some ⟨pb8, 0, none⟩), .pointer (some ⟨pb9, 0, none⟩)]] 66 (0, 0)) :: vecC 3 1 a85 c86 n88 cs89 :: vecC 3 1 a_v1 c_v1 n_v1 cs_v1 :: vecC 44 1 a_v2 c_v2 n_v2 cs77 :: mapC keyI.f (Value.int .i64) b_v3 y5_0 :: mapC keyFleetAbsence.f Value.bool b_v4 y6_0 :: R)) := by
  intro fu w s R pb0 pb1 pb2 pb3 pb4 pb5 pb6 pb7 pb8 pb9 x0 y0 a_y0_0 c_y0_0 y1 a_v0 c_v0 n_v0 cs_v0 y2 a_y2_0 c_y2_0 y3 a_v1 c_v1 n_v1 cs_v1 y4 a_v2 c_v2 n_v2 cs_v2 y5_0 b_v3 y6_0 b_v4 y7 a_y7_0 c_y7_0 y8 hS h_y0_0 hz_y0_0 h_v0 hn_v0 h_y2_0 h_v1 hn_v1 h_v2 hn_v2 h_y7_0 hu r hr
  unfold FleetStandIns_1_z at hr
  split at hr
  · exact FleetStandIns_1_c_ok (y5_0 := y5_0) (y6_0 := y6_0) (y7 := y7) (y8 := y8) hS h_y0_0 hz_y0_0 h_v0 hn_v0 h_y2_0 h_v1 hn_v1 h_v2 hn_v2 h_y7_0 hu hr
  · refine (FleetStandIns_1_v1_ok (y8 := y8) hS h_y0_0 hz_y0_0 h_v0 hn_v0 h_y2_0 h_v1 hn_v1 h_v2 hn_v2 h_y7_0 hu hr).mono ?_
    rintro e w ⟨q1, q2, q3, q4, q5, q6, q7, q8, q9, q10, q11, q12, q13, q14, q15, _, q16⟩
    exact ⟨q1, q2, q3, q4, q5, q6, q7, q8, q9, q10, q11, q12, q13, q14, q15, q16⟩

end Go.Proofs.Ytfhkpdnohcidgaa
