/- The walks of the functions that GuideDays reaches: each call comes to what its mirror says. The conditions are those of each contract. -/
import Derived.Test.YtpcebngchmgckaaDoorProg
import Derived.Test.YtpcebngchmgckaaDoorGuideDaysM
import Derived.Test.YtpcebngchmgckaaDoorFpAllT
import Derived.Test.YtpcebngchmgckaaDoorGuideDaysS
import Derived.Test.YtpcebngchmgckaaDoorFpMapS
import Derived.Test.YtpcebngchmgckaaDoorFpFld
import Derived.Test.YtpcebngchmgckaaDoorFpMapG
import Derived.Test.YtpcebngchmgckaaDoorFpMapV
import Derived.Test.YtpcebngchmgckaaDoorFpMaps
import Derived.Test.YtpcebngchmgckaaDoorFpOrd
import Derived.Test.YtpcebngchmgckaaDoorFpRf
import Derived.Test.YtpcebngchmgckaaDoorFpRng
import Derived.Test.YtpcebngchmgckaaDoorGuideDaysW1
set_option maxRecDepth 10000
namespace Go.Proofs.YtpcebngchmgckaaDoor
open Go Go.Fp
theorem pt_at0 {α : Type} {es : Nat} {R : Rd α} {s : Sg} {b : Nat} {v : α} (h : Pt es R s (some ⟨b, 0, none⟩) (some v)) : ∃ cs, s.At b 0 cs ∧ R s cs v := by
  obtain ⟨b', o', cs, e, _, h3, h4⟩ := h
  injection e with e
  injection e with e1 e2
  subst e1; subst e2
  exact ⟨cs, h3, h4⟩
set_option maxHeartbeats 4000000 in
theorem rides1_ok {s : Sg} {bn bo bs ba : Nat} {cn : List Value} {n : GuideNet} {station at_ nt : Int} (hn : s.At bn 0 cn) (hcn : RGuideNet s cn n) (hnt : s.At bo 0 [.int .i64 nt]) (hst : s.At bs 0 [.int .i64 station]) (hat : s.At ba 0 [.int .i64 at_]) :
    Iter Tryd.prog 113 [.pointer (some ⟨bn, 0, none⟩), .pointer (some ⟨bo, 0, none⟩), .pointer (some ⟨bs, 0, none⟩), .pointer (some ⟨ba, 0, none⟩)] (fun x => [Value.agg (GuideRide.cells x).toArray]) s (ridesT station at_ nt n.Day.Trains 0) := by
  intro y I X hI hY w t Q h0 hS
  obtain ⟨a0, c0, a1, c1, rfl, hTr, hTu⟩ := hcn
  have cell : ∀ {u : Sg} {b o : Nat} {cs : List Value} {v : Value} (k : Nat), s.Le u → s.At b o cs → cs[k]? = some v → ∀ w rs, St w u rs → Sees w b (o + k) [v] := by
    intro u b o cs v k hle h hk w rs hS j x hj
    cases j with
    | zero => simp at hj; subst hj; have := hS.sees (h.mono hle) k v hk; simpa using this
    | succ j => simp at hj
  have hle := hI _ _ _ h0
  refine enter Tryd.func113 rfl rfl rfl fun a hE => ?_
  refine W.seq ?_
  refine W.region ?_
  refine WL.vS hS hE (runs_plain rfl) (Gives.fld hE rfl fl94_0) rfl ?_; clear hE a; intro a hE
  refine WL.vS hS hE (runs_plain rfl) (Gives.fld hE rfl fl25_0) rfl ?_; clear hE a; intro a hE
  refine WL.vS hS hE (runs_plain rfl) (Gives.load1 hE rfl (fun w h => cell 0 hle hn rfl w _ h) ty22) rfl ?_; clear hE a; intro a hE
  refine WL.vS hS hE (runs_plain rfl) (Gives.len hE rfl sl22) rfl ?_; clear hE a; intro a hE
  refine WL.vS hS hE (runs_plain rfl) (Gives.p hE rfl) rfl ?_; clear hE a; intro a hE
  refine WL.nil ?_
  refine W.block ?_
  refine W.loop (fun m a w => ∃ (rest : List ApiTrain) (k : Nat) (pre : List GuideRide) (u : Sg) (Q : List HP), rest.length = m ∧ n.Day.Trains.drop k = rest ∧ ridesT station at_ nt n.Day.Trains 0 = pre ++ ridesT station at_ nt rest k ∧ I pre u Q ∧ Rep a 59 [(0, .func (.yield y) #[] #[]), (1, .pointer (some ⟨bn, 0, none⟩)), (2, .pointer (some ⟨bo, 0, none⟩)), (3, .pointer (some ⟨bs, 0, none⟩)), (4, .pointer (some ⟨ba, 0, none⟩)), (13, .slice a0 n.Day.Trains.length c0), (14, .int .i64 ((n.Day.Trains.length : Nat) : Int)), (15, .int .i64 (k : Int))] ∧ St w u Q) (m := n.Day.Trains.length) ⟨n.Day.Trains, 0, [], t, Q, rfl, rfl, rfl, h0, hE.pick _ ⟨rfl, rfl, rfl, rfl, rfl, rfl, rfl, rfl, trivial⟩, hS⟩ ?_
  clear hE hS h0 hle a w t Q; rintro m a w ⟨rest, k, pre, u, Q, rfl, hd, hl, hp, hE, hS⟩
  have hle := hI _ _ _ hp
  refine W.gen fun K hK => ?_
  have hrd : K.rd = none := by rw [← hK]
  rcases rest with _ | ⟨x, rest⟩
  · have hlt := drop_nil hd
    refine W.seq ?_
    refine W.region ?_
    refine WL.vS hS hE (runs_plain rfl) (Gives.p hE rfl) rfl ?_; clear hE a; intro a hE
    refine WL.nil ?_
    refine W.seq ?_
    refine W.condF hE rfl (decide_eq_false (by omega)) ?_
    subst hK
    refine W.exit rfl ?_
    refine fin0 hE rfl ⟨⟨_, rfl⟩, .inl ⟨u, Q, ?_, hS⟩⟩
    rw [hl, ridesT, List.append_nil]; exact hp
  obtain ⟨hlt, hx, hd⟩ := drop_cons hd
  rw [ridesT] at hl
  refine W.seq ?_
  refine W.region ?_
  refine WL.vS hS hE (runs_plain rfl) (Gives.p hE rfl) rfl ?_; clear hE a; intro a hE
  refine WL.nil ?_
  refine W.seq ?_
  refine W.condT hE rfl (decide_eq_true (by omega)) ?_
  refine W.skip ?_
  refine W.seq ?_
  refine W.block ?_
  obtain ⟨ct, hctl, hctA, hct⟩ := hTr.el k x hx
  obtain ⟨ta, tc, tb, te, rfl, hSt, hLe⟩ := hct
  refine W.seq ?_
  refine W.region ?_
  refine WL.vS hS hE (runs_plain rfl) (Gives.p hE rfl) rfl ?_; clear hE a; intro a hE
  refine WL.vS hS hE (runs_plain rfl) (Gives.idx hE k rfl rfl sl22 rfl hlt ((Sl.mono RApiTrain.mono hle hTr).aok (k := k) hlt)) rfl ?_; clear hE a; intro a hE
  refine WL.vS hS hE (runs_plain rfl) (Gives.loadA hE rfl (fun w h => h.sees (hctA.mono hle)) ty44) rfl ?_; clear hE a; intro a hE
  refine WL.alloc hE hS (runs_plain rfl) zr44 rfl ?_; clear hE hS a w; intro bt a w hE hS
  refine WL.vS hS hE (runs_plain rfl) (Gives.p hE rfl) rfl ?_; clear hE a; intro a hE
  refine WL.storeI hE hS 0 rfl [.int .i64 x.No, .int .i64 x.Stock, .slice ta x.Stops.length tc, .slice tb x.Legs.length te] (runs_plain rfl) rfl rfl rfl ty44 rfl rfl rfl rfl ?_; clear hE hS a w; intro a w hE hS
  refine WL.nil ?_
  refine W.seq ?_
  refine W.seq ?_
  refine W.region ?_
  refine WL.vS hS hE (runs_plain rfl) (Gives.p hE rfl) rfl ?_; clear hE a; intro a hE
  refine WL.vS hS hE (runs_plain rfl) (Gives.load1 hE rfl (fun w h => cell 0 hle hnt rfl w _ h) ty3) rfl ?_; clear hE a; intro a hE
  refine WL.vS hS hE (runs_plain rfl) (Gives.p hE rfl) rfl ?_; clear hE a; intro a hE
  refine WL.nil ?_
  refine W.cond hE rfl (fun hc => ?_) (fun hc => ?_)
  · refine W.exit rfl ?_
    have hc : (k : Int) = nt := by simpa using hc
    rw [if_pos hc, List.nil_append] at hl
    replace hS := hS.tail
    refine W.region ?_
    refine WL.vS hS hE (runs_plain rfl) (Gives.inc hE rfl (by have := hTr.small; omega)) rfl ?_; clear hE a; intro a hE
    refine WL.vS hS hE (runs_plain rfl) (Gives.p hE rfl) rfl ?_; clear hE a; intro a hE
    refine WL.nil ?_
    subst hK
    exact ⟨rest.length, Nat.lt_succ_self _, rest, k + 1, pre, u, Q, rfl, hd, hl, hp, hE.pick _ ⟨rfl, rfl, rfl, rfl, rfl, rfl, rfl, rfl, trivial⟩, hS⟩
  have hc : ¬ (k : Int) = nt := by simpa using hc
  rw [if_neg hc] at hl
  refine W.skip ?_
  refine W.seq ?_
  refine W.region ?_
  refine WL.vS hS hE (runs_plain rfl) (Gives.fld hE rfl fl44_2) rfl ?_; clear hE a; intro a hE
  refine WL.vS hS hE (runs_plain rfl) (Gives.loadB hE 0 rfl rfl rfl ty42) rfl ?_; clear hE a; intro a hE
  refine WL.vS hS hE (runs_plain rfl) (Gives.len hE rfl sl42) rfl ?_; clear hE a; intro a hE
  refine WL.vS hS hE (runs_plain rfl) (Gives.p hE rfl) rfl ?_; clear hE a; intro a hE
  refine WL.nil ?_
  refine W.block ?_
  refine W.loop (fun m a w => ∃ (rest2 : List ApiStop) (k2 : Nat) (pre2 : List GuideRide) (u2 : Sg) (Q2 : List HP), rest2.length = m ∧ x.Stops.drop k2 = rest2 ∧ ridesT station at_ nt n.Day.Trains 0 = pre2 ++ (ridesS station at_ k x.Stops.length rest2 k2 ++ ridesT station at_ nt rest (k + 1)) ∧ I pre2 u2 Q2 ∧ Rep a 59 [(0, .func (.yield y) #[] #[]), (1, .pointer (some ⟨bn, 0, none⟩)), (2, .pointer (some ⟨bo, 0, none⟩)), (3, .pointer (some ⟨bs, 0, none⟩)), (4, .pointer (some ⟨ba, 0, none⟩)), (13, .slice a0 n.Day.Trains.length c0), (14, .int .i64 ((n.Day.Trains.length : Nat) : Int)), (15, .int .i64 (k : Int)), (6, .int .i64 (k : Int)), (7, .pointer (some ⟨bt, 0, none⟩)), (24, .slice ta x.Stops.length tc), (25, .int .i64 ((x.Stops.length : Nat) : Int)), (26, .int .i64 (k2 : Int))] ∧ St w u2 (pt bt (Obj.cells [Value.int .i64 x.No, Value.int .i64 x.Stock, Value.slice ta x.Stops.length tc, Value.slice tb x.Legs.length te].toArray 44 (0, 0)) :: Q2)) (m := x.Stops.length) ⟨x.Stops, 0, pre, u, Q, rfl, rfl, hl, hp, hE.pick _ ⟨rfl, rfl, rfl, rfl, rfl, rfl, rfl, rfl, rfl, rfl, rfl, rfl, rfl, trivial⟩, hS⟩ ?_
  clear hE hS a w hp hl hle pre; rintro m2 a w ⟨rest2, k2, pre, u2, Q2, rfl, hd2, hl, hp, hE, hS⟩
  have hle := hI _ _ _ hp
  refine W.gen fun K2 hK2 => ?_
  have hrd2 : K2.rd = none := by rw [← hK2]; exact hrd
  rcases rest2 with _ | ⟨z, rest2⟩
  · have hlt2 := drop_nil hd2
    rw [ridesS, List.nil_append] at hl
    refine W.seq ?_
    refine W.region ?_
    refine WL.vS hS hE (runs_plain rfl) (Gives.p hE rfl) rfl ?_; clear hE a; intro a hE
    refine WL.nil ?_
    refine W.seq ?_
    refine W.condF hE rfl (decide_eq_false (by omega)) ?_
    subst hK2
    refine W.exit rfl ?_
    replace hS := hS.tail
    refine W.region ?_
    refine WL.vS hS hE (runs_plain rfl) (Gives.inc hE rfl (by have := hTr.small; omega)) rfl ?_; clear hE a; intro a hE
    refine WL.vS hS hE (runs_plain rfl) (Gives.p hE rfl) rfl ?_; clear hE a; intro a hE
    refine WL.nil ?_
    subst hK
    exact ⟨rest.length, Nat.lt_succ_self _, rest, k + 1, pre, u2, Q2, rfl, hd, hl, hp, hE.pick _ ⟨rfl, rfl, rfl, rfl, rfl, rfl, rfl, rfl, trivial⟩, hS⟩
  obtain ⟨hlt2, hx2, hd2⟩ := drop_cons hd2
  rw [ridesS] at hl
  refine W.seq ?_
  refine W.region ?_
  refine WL.vS hS hE (runs_plain rfl) (Gives.p hE rfl) rfl ?_; clear hE a; intro a hE
  refine WL.nil ?_
  refine W.seq ?_
  refine W.condT hE rfl (decide_eq_true (by omega)) ?_
  refine W.skip ?_
  refine W.seq ?_
  refine W.block ?_
  obtain ⟨cz, hczl, hcz, hczS⟩ := (Sl.mono RApiStop.mono hle hSt).at hx2
  subst hcz
  refine W.seq ?_
  refine W.region ?_
  refine WL.vS hS hE (runs_plain rfl) (Gives.p hE rfl) rfl ?_; clear hE a; intro a hE
  refine WL.vS hS hE (runs_plain rfl) (Gives.idx hE k2 rfl rfl sl42 rfl hlt2 ((Sl.mono RApiStop.mono hle hSt).aok (k := k2) hlt2)) rfl ?_; clear hE a; intro a hE
  refine WL.vS hS hE (runs_plain rfl) (Gives.loadA hE rfl (fun w h => hczS w _ h) ty106) rfl ?_; clear hE a; intro a hE
  refine WL.alloc hE hS (runs_plain rfl) zr106 rfl ?_; clear hE hS a w; intro bz a w hE hS
  refine WL.vS hS hE (runs_plain rfl) (Gives.p hE rfl) rfl ?_; clear hE a; intro a hE
  refine WL.storeI hE hS 0 rfl (ApiStop.cells z) (vs := ApiStop.cells z) (runs_plain rfl) rfl rfl rfl ty106 rfl rfl rfl rfl ?_; clear hE hS a w; intro a w hE hS
  refine WL.nil ?_
  refine W.seq ?_
  refine W.seq ?_
  refine W.region ?_
  refine WL.vS hS hE (runs_plain rfl) (Gives.fld hE rfl fl106_0) rfl ?_; clear hE a; intro a hE
  refine WL.vS hS hE (runs_plain rfl) (Gives.loadB hE 0 rfl rfl rfl ty3) rfl ?_; clear hE a; intro a hE
  refine WL.vS hS hE (runs_plain rfl) (Gives.load1 hE rfl (fun w h => cell 0 hle hst rfl w _ h) ty3) rfl ?_; clear hE a; intro a hE
  refine WL.vS hS hE (runs_plain rfl) (Gives.p hE rfl) rfl ?_; clear hE a; intro a hE
  refine WL.vS hS hE (runs_plain rfl) (Gives.p hE rfl) rfl ?_; clear hE a; intro a hE
  by_cases hc3 : z.Station = station
  · have hb3 : (z.Station != station) = false := by simpa using hc3
    refine WL.vS hS hE (runs_if hE rfl rfl rfl hb3) (Gives.fld hE rfl fl106_3) rfl ?_; clear hE a; intro a hE
    refine WL.vS hS hE (runs_if hE rfl rfl rfl hb3) (Gives.loadB hE 0 rfl rfl rfl ty3) rfl ?_; clear hE a; intro a hE
    refine WL.vS hS hE (runs_if hE rfl rfl rfl hb3) (Gives.load1 hE rfl (fun w h => cell 0 hle hat rfl w _ h) ty3) rfl ?_; clear hE a; intro a hE
    refine WL.vS hS hE (runs_if hE rfl rfl rfl hb3) (Gives.p hE rfl) rfl ?_; clear hE a; intro a hE
    refine WL.vS hS hE (runs_plain rfl) (Gives.pickF hE rfl hb3 rfl) rfl ?_; clear hE a; intro a hE
    refine WL.nil ?_
    refine W.cond hE rfl (fun hc4 => ?_) (fun hc4 => ?_)
    · refine W.exit rfl ?_
      have hc4 : z.Dep < at_ := by simpa using hc4
      rw [if_pos (Or.inr hc4), List.nil_append] at hl
      replace hS := hS.tail
      refine W.region ?_
      refine WL.vS hS hE (runs_plain rfl) (Gives.inc hE rfl (by have := hSt.small; omega)) rfl ?_; clear hE a; intro a hE
      refine WL.vS hS hE (runs_plain rfl) (Gives.p hE rfl) rfl ?_; clear hE a; intro a hE
      refine WL.nil ?_
      subst hK2
      exact ⟨rest2.length, Nat.lt_succ_self _, rest2, k2 + 1, pre, u2, Q2, rfl, hd2, hl, hp, hE.pick _ ⟨rfl, rfl, rfl, rfl, rfl, rfl, rfl, rfl, rfl, rfl, rfl, rfl, rfl, trivial⟩, hS⟩
    have hc4 : ¬ z.Dep < at_ := by simpa using hc4
    rw [if_neg (show ¬ (z.Station ≠ station ∨ z.Dep < at_) from fun h => h.elim (fun h => h hc3) hc4), List.append_assoc] at hl
    refine W.skip ?_
    refine W.seq ?_
    refine W.region ?_
    refine WL.vS hS hE (runs_plain rfl) (Gives.p hE rfl) rfl ?_; clear hE a; intro a hE
    refine WL.vS hS hE (runs_plain rfl) (Gives.inc hE rfl (by have := hSt.small; omega)) rfl ?_; clear hE a; intro a hE
    refine WL.vS hS hE (runs_plain rfl) (Gives.p hE rfl) rfl ?_; clear hE a; intro a hE
    refine WL.nil ?_
    refine W.block ?_
    refine W.loop (fun m a w => ∃ (r3 k3 : Nat) (pre3 : List GuideRide) (u3 : Sg) (Q3 : List HP), r3 = m ∧ k3 + r3 = x.Stops.length ∧ ridesT station at_ nt n.Day.Trains 0 = pre3 ++ (ridesF k k2 r3 k3 ++ (ridesS station at_ k x.Stops.length rest2 (k2 + 1) ++ ridesT station at_ nt rest (k + 1))) ∧ I pre3 u3 Q3 ∧ Rep a 59 [(0, .func (.yield y) #[] #[]), (1, .pointer (some ⟨bn, 0, none⟩)), (2, .pointer (some ⟨bo, 0, none⟩)), (3, .pointer (some ⟨bs, 0, none⟩)), (4, .pointer (some ⟨ba, 0, none⟩)), (13, .slice a0 n.Day.Trains.length c0), (14, .int .i64 ((n.Day.Trains.length : Nat) : Int)), (15, .int .i64 (k : Int)), (6, .int .i64 (k : Int)), (7, .pointer (some ⟨bt, 0, none⟩)), (24, .slice ta x.Stops.length tc), (25, .int .i64 ((x.Stops.length : Nat) : Int)), (26, .int .i64 (k2 : Int)), (8, .int .i64 (k2 : Int)), (9, .pointer (some ⟨bz, 0, none⟩)), (10, .int .i64 (k3 : Int))] ∧ St w u3 (pt bz (Obj.cells (ApiStop.cells z).toArray 106 (0, 0)) :: pt bt (Obj.cells [Value.int .i64 x.No, Value.int .i64 x.Stock, Value.slice ta x.Stops.length tc, Value.slice tb x.Legs.length te].toArray 44 (0, 0)) :: Q3)) (m := x.Stops.length - (k2 + 1)) ⟨x.Stops.length - (k2 + 1), k2 + 1, pre, u2, Q2, rfl, by omega, hl, hp, hE.pick _ ⟨rfl, rfl, rfl, rfl, rfl, rfl, rfl, rfl, rfl, rfl, rfl, rfl, rfl, rfl, rfl, rfl, trivial⟩, hS⟩ ?_
    clear hE hS a w hp hl hle pre; rintro m3 a w ⟨r3, k3, pre, u3, Q3, rfl, hd3, hl, hp, hE, hS⟩
    have hle := hI _ _ _ hp
    refine W.gen fun K3 hK3 => ?_
    have hrd3 : K3.rd = none := by rw [← hK3]; exact hrd2
    refine W.seq ?_
    refine W.seq ?_
    refine W.region ?_
    refine WL.vS hS hE (runs_plain rfl) (Gives.p hE rfl) rfl ?_; clear hE a; intro a hE
    refine WL.vS hS hE (runs_plain rfl) (Gives.fld hE rfl fl44_2) rfl ?_; clear hE a; intro a hE
    refine WL.vS hS hE (runs_plain rfl) (Gives.loadB hE 1 rfl rfl rfl ty42) rfl ?_; clear hE a; intro a hE
    refine WL.vS hS hE (runs_plain rfl) (Gives.len hE rfl sl42) rfl ?_; clear hE a; intro a hE
    refine WL.vS hS hE (runs_plain rfl) (Gives.p hE rfl) rfl ?_; clear hE a; intro a hE
    refine WL.nil ?_
    rcases r3 with _ | r3
    · rw [ridesF, List.nil_append] at hl
      refine W.condF hE rfl (decide_eq_false (by omega)) ?_
      subst hK3
      refine W.exit rfl ?_
      replace hS := hS.tail
      refine W.region ?_
      refine WL.vS hS hE (runs_plain rfl) (Gives.inc hE rfl (by have := hSt.small; omega)) rfl ?_; clear hE a; intro a hE
      refine WL.vS hS hE (runs_plain rfl) (Gives.p hE rfl) rfl ?_; clear hE a; intro a hE
      refine WL.nil ?_
      subst hK2
      exact ⟨rest2.length, Nat.lt_succ_self _, rest2, k2 + 1, pre, u3, Q3, rfl, hd2, hl, hp, hE.pick _ ⟨rfl, rfl, rfl, rfl, rfl, rfl, rfl, rfl, rfl, rfl, rfl, rfl, rfl, trivial⟩, hS⟩
    rw [ridesF, List.cons_append] at hl
    refine W.condT hE rfl (decide_eq_true (by omega)) ?_
    refine W.skip ?_
    refine W.seq ?_
    refine W.block ?_
    refine W.seq ?_
    refine W.regionY ?_
    refine WLY.vS hrd3 hS hE (runs_plain rfl) (Gives.p hE rfl) rfl ?_; clear hE a; intro a hE
    refine WLY.vS hrd3 hS hE (runs_plain rfl) (Gives.p hE rfl) rfl ?_; clear hE a; intro a hE
    refine WLY.vS hrd3 hS hE (runs_plain rfl) (Gives.p hE rfl) rfl ?_; clear hE a; intro a hE
    refine WLY.vS hrd3 hS hE (runs_plain rfl) (Gives.p hE rfl) rfl ?_; clear hE a; intro a hE
    refine WLY.vS hrd3 hS hE (runs_plain rfl) (Gives.build hE (vs := [(0, .int .i64 (k : Int)), (1, .int .i64 (k2 : Int)), (2, .int .i64 (k3 : Int))]) (GuideRide.cells ⟨(k : Int), (k2 : Int), (k3 : Int)⟩) rfl (by kernel_rfl)) rfl ?_; clear hE a; intro a hE
    have hpre : pre ++ [⟨(k : Int), (k2 : Int), (k3 : Int)⟩] <+: ridesT station at_ nt n.Day.Trains 0 := ⟨_, by rw [hl, List.append_assoc]; rfl⟩
    refine WLY.yield hrd3 hE rfl rfl (runs_plain rfl) rfl (hY pre ⟨(k : Int), (k2 : Int), (k3 : Int)⟩ u3 Q3 [pt bz (Obj.cells (ApiStop.cells z).toArray 106 (0, 0)), pt bt (Obj.cells [Value.int .i64 x.No, Value.int .i64 x.Stock, Value.slice ta x.Stops.length tc, Value.slice tb x.Legs.length te].toArray 44 (0, 0))] w hpre hp hS) ?_
    clear hE hS a w; rintro e w (⟨rfl, u4, Q4, hp4, hS⟩ | ⟨rfl, u4, Q4, hX, hS⟩)
    · refine ⟨_, rfl, fun a hE => ?_⟩
      refine WLY.vS hrd3 hS hE (runs_plain rfl) (Gives.p hE rfl) rfl ?_; clear hE a; intro a hE
      refine WLY.nil ?_
      refine W.condF hE rfl rfl ?_
      refine W.skip ?_
      refine W.region ?_
      refine WL.vS hS hE (runs_plain rfl) (Gives.p hE rfl) rfl ?_; clear hE a; intro a hE
      refine WL.vS hS hE (runs_plain rfl) (Gives.inc hE rfl (by have := hSt.small; omega)) rfl ?_; clear hE a; intro a hE
      refine WL.vS hS hE (runs_plain rfl) (Gives.p hE rfl) rfl ?_; clear hE a; intro a hE
      refine WL.nil ?_
      subst hK3
      exact ⟨r3, Nat.lt_succ_self _, r3, k3 + 1, _, u4, Q4, rfl, by omega, (by rw [hl, List.append_assoc]; rfl), hp4, hE.pick _ ⟨rfl, rfl, rfl, rfl, rfl, rfl, rfl, rfl, rfl, rfl, rfl, rfl, rfl, rfl, rfl, rfl, trivial⟩, hS⟩
    · refine ⟨_, rfl, fun a hE => ?_⟩
      refine WLY.vS hrd3 hS hE (runs_plain rfl) (Gives.p hE rfl) rfl ?_; clear hE a; intro a hE
      refine WLY.nil ?_
      refine W.condT hE rfl rfl ?_
      refine W.ret ?_
      subst hK3 hK2 hK
      exact fin0 hE rfl ⟨⟨_, rfl⟩, .inr ⟨u4, Q4, hX, hS.tail.tail⟩⟩
  · have hb3 : (z.Station != station) = true := by simpa using hc3
    refine WL.no hE (runs_not hE rfl rfl rfl (by rw [hb3]; decide)) rfl ?_; clear hE a; intro a hE
    refine WL.no hE (runs_not hE rfl rfl rfl (by rw [hb3]; decide)) rfl ?_; clear hE a; intro a hE
    refine WL.no hE (runs_not hE rfl rfl rfl (by rw [hb3]; decide)) rfl ?_; clear hE a; intro a hE
    refine WL.no hE (runs_not hE rfl rfl rfl (by rw [hb3]; decide)) rfl ?_; clear hE a; intro a hE
    refine WL.vS hS hE (runs_plain rfl) (Gives.pickT hE rfl hb3 rfl) rfl ?_; clear hE a; intro a hE
    refine WL.nil ?_
    refine W.condT hE rfl rfl ?_
    refine W.exit rfl ?_
    rw [if_pos (Or.inl hc3), List.nil_append] at hl
    replace hS := hS.tail
    refine W.region ?_
    refine WL.vS hS hE (runs_plain rfl) (Gives.inc hE rfl (by have := hSt.small; omega)) rfl ?_; clear hE a; intro a hE
    refine WL.vS hS hE (runs_plain rfl) (Gives.p hE rfl) rfl ?_; clear hE a; intro a hE
    refine WL.nil ?_
    subst hK2
    exact ⟨rest2.length, Nat.lt_succ_self _, rest2, k2 + 1, pre, u2, Q2, rfl, hd2, hl, hp, hE.pick _ ⟨rfl, rfl, rfl, rfl, rfl, rfl, rfl, rfl, rfl, rfl, rfl, rfl, rfl, trivial⟩, hS⟩
theorem rides_it {s : Sg} {bn bo bs ba : Nat} {n : GuideNet} {station at_ nt : Int} (hn : Pt 3 RGuideNet s (some ⟨bn, 0, none⟩) (some n)) (hnt : Pt 1 (RI .i64) s (some ⟨bo, 0, none⟩) (some nt)) (hst : Pt 1 (RI .i64) s (some ⟨bs, 0, none⟩) (some station)) (hat : Pt 1 (RI .i64) s (some ⟨ba, 0, none⟩) (some at_)) :
    Iter Tryd.prog 113 [.pointer (some ⟨bn, 0, none⟩), .pointer (some ⟨bo, 0, none⟩), .pointer (some ⟨bs, 0, none⟩), .pointer (some ⟨ba, 0, none⟩)] (fun x => [Value.agg (GuideRide.cells x).toArray]) s (ridesT station at_ nt n.Day.Trains 0) := by
  obtain ⟨cn, h1, h2⟩ := pt_at0 hn
  obtain ⟨c1, h3, rfl⟩ := pt_at0 hnt
  obtain ⟨c2, h4, rfl⟩ := pt_at0 hst
  obtain ⟨c3, h5, rfl⟩ := pt_at0 hat
  exact rides1_ok h1 h2 h3 h4 h5

set_option maxHeartbeats 8000000 in
theorem GuideNetrides_ok  {w : World} {s : Sg} {R : List HP} {x0 : GuideNet} {a0_0 : Option Addr} {c0_0 : Nat} {a0_1 : Option Addr} {c0_1 : Nat} {x1 : Int} {x2 : Int} {x3 : Int} (hS : St w s (R)) (h0_0 : Sl 4 RApiTrain s a0_0 c0_0 x0.Day.Trains) (h0_1 : Sl 1 (RL 1 (RI .i64)) s a0_1 c0_1 x0.Day.Turns) {r : (List GuideRide)} (hr : GuideNetrides x0 x1 x2 x3 = r) :
    Calls Tryd.prog 72 [.agg [.slice a0_0 x0.Day.Trains.length c0_0, .slice a0_1 x0.Day.Turns.length c0_1, .int .i64 x0.least].toArray, .int .i64 x1, .int .i64 x2, .int .i64 x3].toArray w (fun e w => ∃ (lb0 : List Value) (t : Sg), e = .returned (.func (.func 113) #[] lb0.toArray) ∧ s.Le t ∧ Iter Tryd.prog 113 lb0 (fun x => [Value.agg (GuideRide.cells x).toArray]) t r ∧ St w t (R)) := by
  refine enter Tryd.func72 rfl rfl rfl fun a hE => ?_
  rw [GuideNetrides] at hr
  refine W.seq ?_
  refine W.region ?_
  refine WL.box hE hS (runs_plain rfl) rfl rfl rfl ?_; clear hE hS a w; intro b51 a w hE hS
  refine WL.box hE hS (runs_plain rfl) rfl rfl rfl ?_; clear hE hS a w; intro b52 a w hE hS
  refine WL.box hE hS (runs_plain rfl) rfl rfl rfl ?_; clear hE hS a w; intro b53 a w hE hS
  refine WL.box hE hS (runs_plain rfl) rfl rfl rfl ?_; clear hE hS a w; intro b54 a w hE hS
  refine WL.vS hS hE (runs_plain rfl) (Gives.p hE rfl) rfl ?_; clear hE a; intro a hE
  refine WL.nil ?_
  refine W.seq ?_
  refine W.region ?_
  refine WL.vS hS hE (runs_plain rfl) (Gives.mkfn hE (vs := [.pointer (some ⟨b51, 0, none⟩), .pointer (some ⟨b54, 0, none⟩), .pointer (some ⟨b52, 0, none⟩), .pointer (some ⟨b53, 0, none⟩)]) rfl) rfl ?_; clear hE a; intro a hE
  refine WL.vS hS hE (runs_plain rfl) (Gives.p hE rfl) rfl ?_; clear hE a; intro a hE
  refine WL.nil ?_
  refine W.ret ?_
  have hF := hS.fixB (es := 3) (Rr := RGuideNet) (v := x0) RGuideNet.mono 3 rfl rfl ⟨_, _, _, _, rfl, h0_0, h0_1⟩; clear hS; obtain ⟨s55, hle56, hS, h57⟩ := hF
  replace h0_0 := Sl.mono RApiTrain.mono hle56 h0_0
  replace h0_1 := Sl.mono (RL.mono RI.mono) hle56 h0_1
  have hF := hS.fixB (es := 1) (Rr := RI .i64) (v := x3) RI.mono 0 rfl rfl rfl; clear hS; obtain ⟨s58, hle59, hS, h60⟩ := hF
  replace h0_0 := Sl.mono RApiTrain.mono hle59 h0_0
  replace h0_1 := Sl.mono (RL.mono RI.mono) hle59 h0_1
  replace h57 := Pt.mono RGuideNet.mono hle59 h57
  have hF := hS.fixB (es := 1) (Rr := RI .i64) (v := x1) RI.mono 1 rfl rfl rfl; clear hS; obtain ⟨s61, hle62, hS, h63⟩ := hF
  replace h0_0 := Sl.mono RApiTrain.mono hle62 h0_0
  replace h0_1 := Sl.mono (RL.mono RI.mono) hle62 h0_1
  replace h57 := Pt.mono RGuideNet.mono hle62 h57
  replace h60 := Pt.mono RI.mono hle62 h60
  have hF := hS.fixB (es := 1) (Rr := RI .i64) (v := x2) RI.mono 0 rfl rfl rfl; clear hS; obtain ⟨s64, hle65, hS, h66⟩ := hF
  replace h0_0 := Sl.mono RApiTrain.mono hle65 h0_0
  replace h0_1 := Sl.mono (RL.mono RI.mono) hle65 h0_1
  replace h57 := Pt.mono RGuideNet.mono hle65 h57
  replace h63 := Pt.mono RI.mono hle65 h63
  replace h60 := Pt.mono RI.mono hle65 h60
  have h67 := rides_it h57 h60 h63 h66
  refine finG (fn := Tryd.f72) (rs := [.tmp 8]) (vs := [_]) hE rfl ⟨rfl, trivial⟩ ?_
  subst hr
  exact ⟨[.pointer (some ⟨b51, 0, none⟩), .pointer (some ⟨b54, 0, none⟩), .pointer (some ⟨b52, 0, none⟩), .pointer (some ⟨b53, 0, none⟩)], s64, rfl, (Sg.Le.trans (Sg.Le.trans (Sg.Le.trans hle56 hle59) hle62) hle65), h67, hS⟩
set_option maxHeartbeats 8000000 in
theorem GuideNeton_ok  {w : World} {s : Sg} {R : List HP} {x0 : GuideNet} {a0_0 : Option Addr} {c0_0 : Nat} {a0_1 : Option Addr} {c0_1 : Nat} {x1 : GuideRide} (hS : St w s (R)) (h0_0 : Sl 4 RApiTrain s a0_0 c0_0 x0.Day.Trains) (_h0_1 : Sl 1 (RL 1 (RI .i64)) s a0_1 c0_1 x0.Day.Turns) {r : ApiStop} (hr : GuideNeton x0 x1 = some r) :
    Calls Tryd.prog 99 [.agg [.slice a0_0 x0.Day.Trains.length c0_0, .slice a0_1 x0.Day.Turns.length c0_1, .int .i64 x0.least].toArray, .agg (GuideRide.cells x1).toArray].toArray w (fun e w => ∃ (cs0 : List Value) (t : Sg), e = .returned (.agg cs0.toArray) ∧ s.Le t ∧ RApiStop t cs0 r ∧ St w t (R)) := by
  refine enter Tryd.func99 rfl rfl rfl fun a hE => ?_
  rw [GuideNeton] at hr
  refine W.seq ?_
  refine W.region ?_
  refine WL.box hE hS (runs_plain rfl) rfl rfl rfl ?_; clear hE hS a w; intro b51 a w hE hS
  refine WL.box hE hS (runs_plain rfl) rfl rfl rfl ?_; clear hE hS a w; intro b52 a w hE hS
  refine WL.alloc hE hS (runs_plain rfl) zr106 rfl ?_; clear hE hS a w; intro b53 a w hE hS
  refine WL.nil ?_
  refine W.seq ?_
  refine W.gen fun K54 hK54 => ?_
  refine W.regionE (sel (fun w => St w s (pt b53 (.cells #[.int .i64 0, .int .i64 0, .int .i64 0, .int .i64 0] 106 (0, 0)) :: pt b52 (.cells (GuideRide.cells x1).toArray 47 (0, 0)) :: pt b51 (.cells #[.slice a0_0 x0.Day.Trains.length c0_0, .slice a0_1 x0.Day.Turns.length c0_1, .int .i64 x0.least] 94 (0, 0)) :: R)) (fun w => St w s (pt b52 (.cells (GuideRide.cells x1).toArray 47 (0, 0)) :: pt b51 (.cells #[.slice a0_0 x0.Day.Trains.length c0_0, .slice a0_1 x0.Day.Turns.length c0_1, .int .i64 x0.least] 94 (0, 0)) :: R))) (fun b i => cond b ([0, 1, 2, 3, 4, 5, 6, 7, 8, 9, 10, 11].contains i) ([0, 1, 2, 3, 4, 5, 6, 7, 8, 9, 10, 11, 12].contains i)) mixed ?_
  replace hS := hS.drew
  refine Rg.takeP (i := 0) hE rfl (by kernel_rfl) (runs_plain rfl) (Gives.fld hE rfl fl94_0) rfl (tw_sel (fun _ => hS) (fun _ => (hS.tail))) ?_; clear hE a; intro a hE
  refine Rg.takeP (i := 1) hE rfl (by kernel_rfl) (runs_plain rfl) (Gives.fld hE rfl fl25_0) rfl (tw_sel (fun _ => hS) (fun _ => (hS.tail))) ?_; clear hE a; intro a hE
  have hT := tw_sel (A := fun w => St w s (pt b53 (.cells #[.int .i64 0, .int .i64 0, .int .i64 0, .int .i64 0] 106 (0, 0)) :: pt b52 (.cells (GuideRide.cells x1).toArray 47 (0, 0)) :: pt b51 (.cells #[.slice a0_0 x0.Day.Trains.length c0_0, .slice a0_1 x0.Day.Turns.length c0_1, .int .i64 x0.least] 94 (0, 0)) :: R)) (B := fun w => St w s (pt b52 (.cells (GuideRide.cells x1).toArray 47 (0, 0)) :: pt b51 (.cells #[.slice a0_0 x0.Day.Trains.length c0_0, .slice a0_1 x0.Day.Turns.length c0_1, .int .i64 x0.least] 94 (0, 0)) :: R)) (w := _) (x := true) (y := true) (fun _ => hS) (fun _ => (hS.tail))
  have hF := hS; replace hS := hS
  refine Rg.take (i := 2) true rfl hE rfl (by kernel_rfl) (runs_plain rfl) (Gives.loadB hE 2 rfl rfl rfl ty22) rfl hT ?_; clear hE a; intro a hE
  replace hS := hF; clear hF hT
  refine Rg.takeP (i := 3) hE rfl (by kernel_rfl) (runs_plain rfl) (Gives.fld hE rfl fl47_0) rfl (tw_sel (fun _ => hS) (fun _ => (hS.tail))) ?_; clear hE a; intro a hE
  have hT := tw_sel (A := fun w => St w s (pt b53 (.cells #[.int .i64 0, .int .i64 0, .int .i64 0, .int .i64 0] 106 (0, 0)) :: pt b52 (.cells (GuideRide.cells x1).toArray 47 (0, 0)) :: pt b51 (.cells #[.slice a0_0 x0.Day.Trains.length c0_0, .slice a0_1 x0.Day.Turns.length c0_1, .int .i64 x0.least] 94 (0, 0)) :: R)) (B := fun w => St w s (pt b52 (.cells (GuideRide.cells x1).toArray 47 (0, 0)) :: pt b51 (.cells #[.slice a0_0 x0.Day.Trains.length c0_0, .slice a0_1 x0.Day.Turns.length c0_1, .int .i64 x0.least] 94 (0, 0)) :: R)) (w := _) (x := true) (y := true) (fun _ => hS) (fun _ => (hS.tail))
  have hF := hS; replace hS := hS
  refine Rg.take (i := 4) true rfl hE rfl (by kernel_rfl) (runs_plain rfl) (Gives.loadB hE 1 rfl rfl rfl ty3) rfl hT ?_; clear hE a; intro a hE
  replace hS := hF; clear hF hT
  obtain ⟨x55, hx56, hr⟩ := bindS hr
  obtain ⟨hi57, hlt58, hy59⟩ := gx_some hx56
  obtain ⟨cs60, hl61, hR62, hat63⟩ := h0_0.at hy59
  obtain ⟨a64, c65, a67, c68, rfl, h66, h69⟩ := hR62
  refine Rg.takeP (i := 5) hE rfl (by kernel_rfl) (runs_plain rfl) (Gives.idx hE (x1.Train).toNat rfl rfl sl22 hi57 hlt58 (h0_0.aok hlt58)) rfl (tw_sel (fun _ => hS) (fun _ => (hS.tail))) ?_; clear hE a; intro a hE
  refine Rg.takeP (i := 6) hE rfl (by kernel_rfl) (runs_plain rfl) (Gives.fld hE rfl fl44_2) rfl (tw_sel (fun _ => hS) (fun _ => (hS.tail))) ?_; clear hE a; intro a hE
  have hT := tw_sel (A := fun w => St w s (pt b53 (.cells #[.int .i64 0, .int .i64 0, .int .i64 0, .int .i64 0] 106 (0, 0)) :: pt b52 (.cells (GuideRide.cells x1).toArray 47 (0, 0)) :: pt b51 (.cells #[.slice a0_0 x0.Day.Trains.length c0_0, .slice a0_1 x0.Day.Turns.length c0_1, .int .i64 x0.least] 94 (0, 0)) :: R)) (B := fun w => St w s (pt b52 (.cells (GuideRide.cells x1).toArray 47 (0, 0)) :: pt b51 (.cells #[.slice a0_0 x0.Day.Trains.length c0_0, .slice a0_1 x0.Day.Turns.length c0_1, .int .i64 x0.least] 94 (0, 0)) :: R)) (w := _) (x := true) (y := true) (fun _ => hS) (fun _ => (hS.tail))
  have hF := hS; replace hS := hS
  refine Rg.take (i := 7) true rfl hE rfl (by kernel_rfl) (runs_plain rfl) (Gives.load1 hE rfl (fun w h => (hat63 w _ h).one rfl) ty42) rfl hT ?_; clear hE a; intro a hE
  replace hS := hF; clear hF hT
  refine Rg.takeP (i := 8) hE rfl (by kernel_rfl) (runs_plain rfl) (Gives.fld hE rfl fl47_1) rfl (tw_sel (fun _ => hS) (fun _ => (hS.tail))) ?_; clear hE a; intro a hE
  have hT := tw_sel (A := fun w => St w s (pt b53 (.cells #[.int .i64 0, .int .i64 0, .int .i64 0, .int .i64 0] 106 (0, 0)) :: pt b52 (.cells (GuideRide.cells x1).toArray 47 (0, 0)) :: pt b51 (.cells #[.slice a0_0 x0.Day.Trains.length c0_0, .slice a0_1 x0.Day.Turns.length c0_1, .int .i64 x0.least] 94 (0, 0)) :: R)) (B := fun w => St w s (pt b52 (.cells (GuideRide.cells x1).toArray 47 (0, 0)) :: pt b51 (.cells #[.slice a0_0 x0.Day.Trains.length c0_0, .slice a0_1 x0.Day.Turns.length c0_1, .int .i64 x0.least] 94 (0, 0)) :: R)) (w := _) (x := true) (y := true) (fun _ => hS) (fun _ => (hS.tail))
  have hF := hS; replace hS := hS
  refine Rg.take (i := 9) true rfl hE rfl (by kernel_rfl) (runs_plain rfl) (Gives.loadB hE 1 rfl rfl rfl ty3) rfl hT ?_; clear hE a; intro a hE
  replace hS := hF; clear hF hT
  obtain ⟨x70, hx71, hr⟩ := bindS hr
  obtain ⟨hi72, hlt73, hy74⟩ := gx_some hx71
  obtain ⟨cs75, hl76, hR77, hat78⟩ := h66.at hy74
  subst hR77
  refine Rg.takeP (i := 10) hE rfl (by kernel_rfl) (runs_plain rfl) (Gives.idx hE (x1.On).toNat rfl rfl sl42 hi72 hlt73 (h66.aok hlt73)) rfl (tw_sel (fun _ => hS) (fun _ => (hS.tail))) ?_; clear hE a; intro a hE
  have hT := tw_sel (A := fun w => St w s (pt b53 (.cells #[.int .i64 0, .int .i64 0, .int .i64 0, .int .i64 0] 106 (0, 0)) :: pt b52 (.cells (GuideRide.cells x1).toArray 47 (0, 0)) :: pt b51 (.cells #[.slice a0_0 x0.Day.Trains.length c0_0, .slice a0_1 x0.Day.Turns.length c0_1, .int .i64 x0.least] 94 (0, 0)) :: R)) (B := fun w => St w s (pt b52 (.cells (GuideRide.cells x1).toArray 47 (0, 0)) :: pt b51 (.cells #[.slice a0_0 x0.Day.Trains.length c0_0, .slice a0_1 x0.Day.Turns.length c0_1, .int .i64 x0.least] 94 (0, 0)) :: R)) (w := _) (x := true) (y := true) (fun _ => hS) (fun _ => (hS.tail))
  have hF := hS; replace hS := hS
  refine Rg.take (i := 11) true rfl hE rfl (by kernel_rfl) (runs_plain rfl) (Gives.loadA hE rfl (fun w h => hat78 w _ h) ty106) rfl hT ?_; clear hE a; intro a hE
  replace hS := hF; clear hF hT
  refine Rg.one (i := 12) false true rfl (by kernel_rfl) (by kernel_rfl) (by kernel_rfl) ?_
  refine WL.storeI hE hS 0 rfl (ApiStop.cells x70) (runs_plain rfl) rfl rfl rfl ty106 rfl rfl rfl rfl ?_; clear hE hS a w; intro a w hE hS
  refine WL.nil ?_
  refine ⟨⟨fun h => absurd h (by decide), fun _ => (hS.tail)⟩, ?_⟩
  refine Rg.done (by kernel_rfl) ?_
  subst hK54
  refine W.ret ?_
  refine finG (fn := Tryd.f99) (rs := [.cell 4 106]) (vs := [_]) hE rfl ⟨⟨_, rfl, .inl ⟨_, rfl, hS.seesAt 0 rfl, ty106⟩⟩, trivial⟩ ?_
  obtain rfl := Option.some.inj hr
  replace hS := hS.tail
  replace hS := hS.tail
  replace hS := hS.tail
  exact ⟨_, s, rfl, (Sg.Le.refl _), rfl, hS⟩
set_option maxHeartbeats 8000000 in
theorem GuideNetoff_ok  {w : World} {s : Sg} {R : List HP} {x0 : GuideNet} {a0_0 : Option Addr} {c0_0 : Nat} {a0_1 : Option Addr} {c0_1 : Nat} {x1 : GuideRide} (hS : St w s (R)) (h0_0 : Sl 4 RApiTrain s a0_0 c0_0 x0.Day.Trains) (_h0_1 : Sl 1 (RL 1 (RI .i64)) s a0_1 c0_1 x0.Day.Turns) {r : ApiStop} (hr : GuideNetoff x0 x1 = some r) :
    Calls Tryd.prog 77 [.agg [.slice a0_0 x0.Day.Trains.length c0_0, .slice a0_1 x0.Day.Turns.length c0_1, .int .i64 x0.least].toArray, .agg (GuideRide.cells x1).toArray].toArray w (fun e w => ∃ (cs0 : List Value) (t : Sg), e = .returned (.agg cs0.toArray) ∧ s.Le t ∧ RApiStop t cs0 r ∧ St w t (R)) := by
  refine enter Tryd.func77 rfl rfl rfl fun a hE => ?_
  rw [GuideNetoff] at hr
  refine W.seq ?_
  refine W.region ?_
  refine WL.box hE hS (runs_plain rfl) rfl rfl rfl ?_; clear hE hS a w; intro b51 a w hE hS
  refine WL.box hE hS (runs_plain rfl) rfl rfl rfl ?_; clear hE hS a w; intro b52 a w hE hS
  refine WL.alloc hE hS (runs_plain rfl) zr106 rfl ?_; clear hE hS a w; intro b53 a w hE hS
  refine WL.nil ?_
  refine W.seq ?_
  refine W.gen fun K54 hK54 => ?_
  refine W.regionE (sel (fun w => St w s (pt b53 (.cells #[.int .i64 0, .int .i64 0, .int .i64 0, .int .i64 0] 106 (0, 0)) :: pt b52 (.cells (GuideRide.cells x1).toArray 47 (0, 0)) :: pt b51 (.cells #[.slice a0_0 x0.Day.Trains.length c0_0, .slice a0_1 x0.Day.Turns.length c0_1, .int .i64 x0.least] 94 (0, 0)) :: R)) (fun w => St w s (pt b52 (.cells (GuideRide.cells x1).toArray 47 (0, 0)) :: pt b51 (.cells #[.slice a0_0 x0.Day.Trains.length c0_0, .slice a0_1 x0.Day.Turns.length c0_1, .int .i64 x0.least] 94 (0, 0)) :: R))) (fun b i => cond b ([0, 1, 2, 3, 4, 5, 6, 7, 8, 9, 10, 11].contains i) ([0, 1, 2, 3, 4, 5, 6, 7, 8, 9, 10, 11, 12].contains i)) mixed ?_
  replace hS := hS.drew
  refine Rg.takeP (i := 0) hE rfl (by kernel_rfl) (runs_plain rfl) (Gives.fld hE rfl fl94_0) rfl (tw_sel (fun _ => hS) (fun _ => (hS.tail))) ?_; clear hE a; intro a hE
  refine Rg.takeP (i := 1) hE rfl (by kernel_rfl) (runs_plain rfl) (Gives.fld hE rfl fl25_0) rfl (tw_sel (fun _ => hS) (fun _ => (hS.tail))) ?_; clear hE a; intro a hE
  have hT := tw_sel (A := fun w => St w s (pt b53 (.cells #[.int .i64 0, .int .i64 0, .int .i64 0, .int .i64 0] 106 (0, 0)) :: pt b52 (.cells (GuideRide.cells x1).toArray 47 (0, 0)) :: pt b51 (.cells #[.slice a0_0 x0.Day.Trains.length c0_0, .slice a0_1 x0.Day.Turns.length c0_1, .int .i64 x0.least] 94 (0, 0)) :: R)) (B := fun w => St w s (pt b52 (.cells (GuideRide.cells x1).toArray 47 (0, 0)) :: pt b51 (.cells #[.slice a0_0 x0.Day.Trains.length c0_0, .slice a0_1 x0.Day.Turns.length c0_1, .int .i64 x0.least] 94 (0, 0)) :: R)) (w := _) (x := true) (y := true) (fun _ => hS) (fun _ => (hS.tail))
  have hF := hS; replace hS := hS
  refine Rg.take (i := 2) true rfl hE rfl (by kernel_rfl) (runs_plain rfl) (Gives.loadB hE 2 rfl rfl rfl ty22) rfl hT ?_; clear hE a; intro a hE
  replace hS := hF; clear hF hT
  refine Rg.takeP (i := 3) hE rfl (by kernel_rfl) (runs_plain rfl) (Gives.fld hE rfl fl47_0) rfl (tw_sel (fun _ => hS) (fun _ => (hS.tail))) ?_; clear hE a; intro a hE
  have hT := tw_sel (A := fun w => St w s (pt b53 (.cells #[.int .i64 0, .int .i64 0, .int .i64 0, .int .i64 0] 106 (0, 0)) :: pt b52 (.cells (GuideRide.cells x1).toArray 47 (0, 0)) :: pt b51 (.cells #[.slice a0_0 x0.Day.Trains.length c0_0, .slice a0_1 x0.Day.Turns.length c0_1, .int .i64 x0.least] 94 (0, 0)) :: R)) (B := fun w => St w s (pt b52 (.cells (GuideRide.cells x1).toArray 47 (0, 0)) :: pt b51 (.cells #[.slice a0_0 x0.Day.Trains.length c0_0, .slice a0_1 x0.Day.Turns.length c0_1, .int .i64 x0.least] 94 (0, 0)) :: R)) (w := _) (x := true) (y := true) (fun _ => hS) (fun _ => (hS.tail))
  have hF := hS; replace hS := hS
  refine Rg.take (i := 4) true rfl hE rfl (by kernel_rfl) (runs_plain rfl) (Gives.loadB hE 1 rfl rfl rfl ty3) rfl hT ?_; clear hE a; intro a hE
  replace hS := hF; clear hF hT
  obtain ⟨x55, hx56, hr⟩ := bindS hr
  obtain ⟨hi57, hlt58, hy59⟩ := gx_some hx56
  obtain ⟨cs60, hl61, hR62, hat63⟩ := h0_0.at hy59
  obtain ⟨a64, c65, a67, c68, rfl, h66, h69⟩ := hR62
  refine Rg.takeP (i := 5) hE rfl (by kernel_rfl) (runs_plain rfl) (Gives.idx hE (x1.Train).toNat rfl rfl sl22 hi57 hlt58 (h0_0.aok hlt58)) rfl (tw_sel (fun _ => hS) (fun _ => (hS.tail))) ?_; clear hE a; intro a hE
  refine Rg.takeP (i := 6) hE rfl (by kernel_rfl) (runs_plain rfl) (Gives.fld hE rfl fl44_2) rfl (tw_sel (fun _ => hS) (fun _ => (hS.tail))) ?_; clear hE a; intro a hE
  have hT := tw_sel (A := fun w => St w s (pt b53 (.cells #[.int .i64 0, .int .i64 0, .int .i64 0, .int .i64 0] 106 (0, 0)) :: pt b52 (.cells (GuideRide.cells x1).toArray 47 (0, 0)) :: pt b51 (.cells #[.slice a0_0 x0.Day.Trains.length c0_0, .slice a0_1 x0.Day.Turns.length c0_1, .int .i64 x0.least] 94 (0, 0)) :: R)) (B := fun w => St w s (pt b52 (.cells (GuideRide.cells x1).toArray 47 (0, 0)) :: pt b51 (.cells #[.slice a0_0 x0.Day.Trains.length c0_0, .slice a0_1 x0.Day.Turns.length c0_1, .int .i64 x0.least] 94 (0, 0)) :: R)) (w := _) (x := true) (y := true) (fun _ => hS) (fun _ => (hS.tail))
  have hF := hS; replace hS := hS
  refine Rg.take (i := 7) true rfl hE rfl (by kernel_rfl) (runs_plain rfl) (Gives.load1 hE rfl (fun w h => (hat63 w _ h).one rfl) ty42) rfl hT ?_; clear hE a; intro a hE
  replace hS := hF; clear hF hT
  refine Rg.takeP (i := 8) hE rfl (by kernel_rfl) (runs_plain rfl) (Gives.fld hE rfl fl47_2) rfl (tw_sel (fun _ => hS) (fun _ => (hS.tail))) ?_; clear hE a; intro a hE
  have hT := tw_sel (A := fun w => St w s (pt b53 (.cells #[.int .i64 0, .int .i64 0, .int .i64 0, .int .i64 0] 106 (0, 0)) :: pt b52 (.cells (GuideRide.cells x1).toArray 47 (0, 0)) :: pt b51 (.cells #[.slice a0_0 x0.Day.Trains.length c0_0, .slice a0_1 x0.Day.Turns.length c0_1, .int .i64 x0.least] 94 (0, 0)) :: R)) (B := fun w => St w s (pt b52 (.cells (GuideRide.cells x1).toArray 47 (0, 0)) :: pt b51 (.cells #[.slice a0_0 x0.Day.Trains.length c0_0, .slice a0_1 x0.Day.Turns.length c0_1, .int .i64 x0.least] 94 (0, 0)) :: R)) (w := _) (x := true) (y := true) (fun _ => hS) (fun _ => (hS.tail))
  have hF := hS; replace hS := hS
  refine Rg.take (i := 9) true rfl hE rfl (by kernel_rfl) (runs_plain rfl) (Gives.loadB hE 1 rfl rfl rfl ty3) rfl hT ?_; clear hE a; intro a hE
  replace hS := hF; clear hF hT
  obtain ⟨x70, hx71, hr⟩ := bindS hr
  obtain ⟨hi72, hlt73, hy74⟩ := gx_some hx71
  obtain ⟨cs75, hl76, hR77, hat78⟩ := h66.at hy74
  subst hR77
  refine Rg.takeP (i := 10) hE rfl (by kernel_rfl) (runs_plain rfl) (Gives.idx hE (x1.Off).toNat rfl rfl sl42 hi72 hlt73 (h66.aok hlt73)) rfl (tw_sel (fun _ => hS) (fun _ => (hS.tail))) ?_; clear hE a; intro a hE
  have hT := tw_sel (A := fun w => St w s (pt b53 (.cells #[.int .i64 0, .int .i64 0, .int .i64 0, .int .i64 0] 106 (0, 0)) :: pt b52 (.cells (GuideRide.cells x1).toArray 47 (0, 0)) :: pt b51 (.cells #[.slice a0_0 x0.Day.Trains.length c0_0, .slice a0_1 x0.Day.Turns.length c0_1, .int .i64 x0.least] 94 (0, 0)) :: R)) (B := fun w => St w s (pt b52 (.cells (GuideRide.cells x1).toArray 47 (0, 0)) :: pt b51 (.cells #[.slice a0_0 x0.Day.Trains.length c0_0, .slice a0_1 x0.Day.Turns.length c0_1, .int .i64 x0.least] 94 (0, 0)) :: R)) (w := _) (x := true) (y := true) (fun _ => hS) (fun _ => (hS.tail))
  have hF := hS; replace hS := hS
  refine Rg.take (i := 11) true rfl hE rfl (by kernel_rfl) (runs_plain rfl) (Gives.loadA hE rfl (fun w h => hat78 w _ h) ty106) rfl hT ?_; clear hE a; intro a hE
  replace hS := hF; clear hF hT
  refine Rg.one (i := 12) false true rfl (by kernel_rfl) (by kernel_rfl) (by kernel_rfl) ?_
  refine WL.storeI hE hS 0 rfl (ApiStop.cells x70) (runs_plain rfl) rfl rfl rfl ty106 rfl rfl rfl rfl ?_; clear hE hS a w; intro a w hE hS
  refine WL.nil ?_
  refine ⟨⟨fun h => absurd h (by decide), fun _ => (hS.tail)⟩, ?_⟩
  refine Rg.done (by kernel_rfl) ?_
  subst hK54
  refine W.ret ?_
  refine finG (fn := Tryd.f77) (rs := [.cell 4 106]) (vs := [_]) hE rfl ⟨⟨_, rfl, .inl ⟨_, rfl, hS.seesAt 0 rfl, ty106⟩⟩, trivial⟩ ?_
  obtain rfl := Option.some.inj hr
  replace hS := hS.tail
  replace hS := hS.tail
  replace hS := hS.tail
  exact ⟨_, s, rfl, (Sg.Le.refl _), rfl, hS⟩
set_option maxHeartbeats 8000000 in
theorem GuideNetbehind_ok  {w : World} {s : Sg} {R : List HP} {x0 : GuideNet} {a0_0 : Option Addr} {c0_0 : Nat} {a0_1 : Option Addr} {c0_1 : Nat} {x1 : GuideRide} (hS : St w s (R)) (h0_0 : Sl 4 RApiTrain s a0_0 c0_0 x0.Day.Trains) (h0_1 : Sl 1 (RL 1 (RI .i64)) s a0_1 c0_1 x0.Day.Turns) {r : (List GuideRide)} (hr : GuideNetbehind x0 x1 = some r) :
    Calls Tryd.prog 78 [.agg [.slice a0_0 x0.Day.Trains.length c0_0, .slice a0_1 x0.Day.Turns.length c0_1, .int .i64 x0.least].toArray, .agg (GuideRide.cells x1).toArray].toArray w (fun e w => ∃ (lb0 : List Value) (t : Sg), e = .returned (.func (.func 113) #[] lb0.toArray) ∧ s.Le t ∧ Iter Tryd.prog 113 lb0 (fun x => [Value.agg (GuideRide.cells x).toArray]) t r ∧ St w t (R)) := by
  refine enter Tryd.func78 rfl rfl rfl fun a hE => ?_
  rw [GuideNetbehind] at hr
  refine W.seq ?_
  refine W.region ?_
  refine WL.box hE hS (runs_plain rfl) rfl rfl rfl ?_; clear hE hS a w; intro b51 a w hE hS
  refine WL.box hE hS (runs_plain rfl) rfl rfl rfl ?_; clear hE hS a w; intro b52 a w hE hS
  refine WL.vS hS hE (runs_plain rfl) (Gives.p hE rfl) rfl ?_; clear hE a; intro a hE
  refine WL.nil ?_
  refine W.seq ?_
  refine W.region ?_
  refine WL.vS hS hE (runs_plain rfl) (Gives.loadBA hE 1 rfl rfl ty94) rfl ?_; clear hE a; intro a hE
  refine WL.vS hS hE (runs_plain rfl) (Gives.loadBA hE 0 rfl rfl ty47) rfl ?_; clear hE a; intro a hE
  obtain ⟨q53, hq54, hr⟩ := bindS hr
  have hc_ := GuideNetoff_ok hS h0_0 h0_1 hq54
  refine WL.fnq hE (hc_) (runs_plain rfl) bd77 rfl rfl rfl ?_
  clear hE hS hc_; rintro e w ⟨cs55, s57, rfl, hle58, h56, hS⟩; refine ⟨_, rfl, ?_⟩; clear a; intro a hE
  replace h0_0 := Sl.mono RApiTrain.mono hle58 h0_0
  replace h0_1 := Sl.mono (RL.mono RI.mono) hle58 h0_1
  subst h56
  refine WL.alloc hE hS (runs_plain rfl) zr106 rfl ?_; clear hE hS a w; intro b59 a w hE hS
  refine WL.storeI hE hS 0 rfl (ApiStop.cells q53) (runs_plain rfl) rfl rfl rfl ty106 rfl rfl rfl rfl ?_; clear hE hS a w; intro a w hE hS
  refine WL.nil ?_
  refine W.seq ?_
  refine W.region ?_
  refine WL.vS hS hE (runs_plain rfl) (Gives.loadBA hE 2 rfl rfl ty94) rfl ?_; clear hE a; intro a hE
  refine WL.vS hS hE (runs_plain rfl) (Gives.fld hE rfl fl106_0) rfl ?_; clear hE a; intro a hE
  refine WL.vS hS hE (runs_plain rfl) (Gives.loadB hE 0 rfl rfl rfl ty3) rfl ?_; clear hE a; intro a hE
  refine WL.vS hS hE (runs_plain rfl) (Gives.fld hE rfl fl106_2) rfl ?_; clear hE a; intro a hE
  refine WL.vS hS hE (runs_plain rfl) (Gives.loadB hE 0 rfl rfl rfl ty3) rfl ?_; clear hE a; intro a hE
  refine WL.vS hS hE (runs_plain rfl) (Gives.fld hE rfl fl94_1) rfl ?_; clear hE a; intro a hE
  refine WL.vS hS hE (runs_plain rfl) (Gives.loadB hE 2 rfl rfl rfl ty3) rfl ?_; clear hE a; intro a hE
  refine WL.vS hS hE (runs_plain rfl) (Gives.p hE rfl) rfl ?_; clear hE a; intro a hE
  refine WL.vS hS hE (runs_plain rfl) (Gives.fld hE rfl fl47_0) rfl ?_; clear hE a; intro a hE
  refine WL.vS hS hE (runs_plain rfl) (Gives.loadB hE 1 rfl rfl rfl ty3) rfl ?_; clear hE a; intro a hE
  obtain ⟨q60, hq61, hr⟩ := bndS hr
  have hc_ := GuideNetrides_ok hS h0_0 h0_1 hq61
  refine WL.fnq hE (hc_) (runs_plain rfl) bd72 rfl rfl rfl ?_
  clear hE hS hc_; rintro e w ⟨lb62, s64, rfl, hle65, h63, hS⟩; refine ⟨_, rfl, ?_⟩; clear a; intro a hE
  replace h0_0 := Sl.mono RApiTrain.mono hle65 h0_0
  replace h0_1 := Sl.mono (RL.mono RI.mono) hle65 h0_1
  refine WL.vS hS hE (runs_plain rfl) (Gives.p hE rfl) rfl ?_; clear hE a; intro a hE
  refine WL.nil ?_
  refine W.ret ?_
  refine finG (fn := Tryd.f78) (rs := [.tmp 4]) (vs := [_]) hE rfl ⟨rfl, trivial⟩ ?_
  obtain rfl := Option.some.inj hr
  replace hS := hS.tail
  replace hS := hS.tail
  replace hS := hS.tail
  exact ⟨lb62, s64, rfl, (Sg.Le.trans hle58 hle65), h63, hS⟩
set_option maxHeartbeats 8000000 in
theorem SlicesAppendSeqLguideRide_v1_ok  {w : World} {s : Sg} {R : List HP} {x0 : List GuideRide} {a_v0 : Option Addr} {c_v0 n_v0 : Nat} {cs_v0 : List Value} {x1 : List GuideRide} {lb1 : List Value} (hS : St w s (vecC 47 3 a_v0 c_v0 n_v0 cs_v0 :: R)) (h_v0 : Ev 3 RGuideRide s cs_v0 x0) (hn_v0 : x0.length = n_v0) (h1 : Iter Tryd.prog 113 lb1 (fun x => [Value.agg (GuideRide.cells x).toArray]) s x1) {r : (List GuideRide)} (hr : SlicesAppendSeqLguideRide_v1 x0 x1 = some r) :
    Calls Tryd.prog 112 [.slice a_v0 n_v0 c_v0, .func (.func 113) #[] lb1.toArray].toArray w (fun e w => ∃ (a0 : Option Addr) (c0 n0 : Nat) (cs0 : List Value) (t : Sg), e = .returned (.slice a0 n0 c0) ∧ s.Le t ∧ Ev 3 RGuideRide t cs0 r ∧ r.length = n0 ∧ St w t (vecC 47 3 a0 c0 n0 cs0 :: R)) := by
  refine enter Tryd.func112 rfl rfl rfl fun a hE => ?_
  rw [SlicesAppendSeqLguideRide_v1] at hr
  subst hn_v0
  refine W.seq ?_
  refine W.region ?_
  refine WL.box hE hS (runs_plain rfl) rfl rfl rfl ?_; clear hE hS a w; intro b51 a w hE hS
  refine WL.vS hS hE (runs_plain rfl) (Gives.p hE rfl) rfl ?_; clear hE a; intro a hE
  refine WL.nil ?_
  refine W.seq ?_
  refine W.seq ?_
  refine W.region ?_
  refine WL.vS hS hE (runs_plain rfl) (Gives.p hE rfl) rfl ?_; clear hE a; intro a hE
  refine WL.nil ?_
  refine W.block ?_
  obtain ⟨q53, hq52, hr⟩ := bindS hr
  refine W.cut (fun a w => ∃ (q65 : List GuideRide), ∃ (a66 : Option Addr), ∃ (c67 : Nat), ∃ (n69 : Nat), ∃ (cs70 : List Value), ∃ (D59 : Nat) (s63 : Sg), s.Le s63 ∧ q65 = q53 ∧ Ev 3 RGuideRide s63 cs70 q65 ∧ q65.length = n69 ∧ Rep a 13 [(2, .pointer (some ⟨b51, 0, none⟩)), (4294967295, .int .i64 (D59 : Nat))] ∧ St w s63 (pt D59 (.deferred (some [])) :: pt b51 (.cells #[.slice a66 n69 c67] 26 (0, 0)) :: vecC 47 3 a66 c67 n69 cs70 :: R)) ?_ ?_
  · refine W.rangeFunc (l := x1) (ps := [7]) [] rfl hE rfl hS rfl h1 bd113 (fun _ => rfl) rfl (fun pre56 s63 Q_ => ∃ (rest55 : List GuideRide), ∃ (q65 : List GuideRide), ∃ (a66 : Option Addr), ∃ (c67 : Nat), ∃ (n69 : Nat), ∃ (cs70 : List Value), x1 = pre56 ++ rest55 ∧ SlicesAppendSeqLguideRide_v1.loop1 rest55 q65 = some q53 ∧ s.Le s63 ∧ Ev 3 RGuideRide s63 cs70 q65 ∧ q65.length = n69 ∧ Q_ = pt b51 (.cells #[.slice a66 n69 c67] 26 (0, 0)) :: vecC 47 3 a66 c67 n69 cs70 :: R) (fun _ _ _ => False) (fun _ _ _ h => (by obtain ⟨rest55, q65, a66, c67, n69, cs70, _, _, hle_, _⟩ := h; exact hle_)) ⟨x1, x0, a_v0, c_v0, x0.length, cs_v0, rfl, hq52, Sg.Le.refl _, h_v0, (rfl), rfl⟩ (fun x54 (b72 : Nat) => [(2, .pointer (some ⟨b51, 0, none⟩)), (5, .pointer (some ⟨b72, 0, none⟩))]) (fun x54 (b72 : Nat) => [pt b72 (.cells (GuideRide.cells x54).toArray 47 (0, 0))]) ?_ ?_ ?_ ?_
    · intro x54 a w t62 R L60 hE hS
      refine W.region ?_
      refine WL.alloc hE hS (runs_plain rfl) zr47 rfl ?_; clear hE hS a w; intro b72 a w hE hS
      refine WL.storeI hE hS 0 rfl (GuideRide.cells x54) (runs_plain rfl) rfl rfl rfl ty47 rfl rfl rfl rfl ?_; clear hE hS a w; intro a w hE hS
      refine WL.nil ?_
      exact ⟨b72, hE.pick _ ⟨rfl, rfl, trivial⟩, hS⟩
    · intro pre56 x54 b72 s63 Q_ T_ L60 a w hpre_ hI_ hE hS
      obtain ⟨rest55, q65, a66, c67, n69, cs70, hl57, hq52, hle64, h68, rfl, rfl⟩ := hI_
      obtain ⟨rest55, rfl⟩ := pre_next hl57 hpre_
      rw [SlicesAppendSeqLguideRide_v1.loop1] at hq52
      replace hS : St w s63 (pt b72 (.cells (GuideRide.cells x54).toArray 47 (0, 0)) :: pt b51 (.cells #[.slice a66 q65.length c67] 26 (0, 0)) :: vecC 47 3 a66 c67 q65.length cs70 :: (R ++ T_)) := hS
      generalize hT73 : R ++ T_ = R at hS
      refine W.gen fun K74 hK74 => ?_
      replace h1 := Iter.mono hle64 h1
      replace h_v0 := Ev.mono RGuideRide.mono hle64 h_v0
      refine W.block ?_
      refine W.region ?_
      refine WL.vS hS hE (runs_plain rfl) (Gives.loadB hE 1 rfl rfl rfl ty26) rfl ?_; clear hE a; intro a hE
      refine WL.vS hS hE (runs_plain rfl) (Gives.loadBA hE 0 rfl rfl ty47) rfl ?_; clear hE a; intro a hE
      refine WL.lit hE hS (e := 47) (es := 3) (vs := [(0, .agg (GuideRide.cells x54).toArray)]) (cs := [.int .i64 x54.Train, .int .i64 x54.On, .int .i64 x54.Off]) (runs_plain rfl) rfl (by kernel_rfl) rfl ?_; clear hE hS a w; intro b75 a w hE hS
      obtain ⟨x76, hx77, hq52⟩ := bindS hq52
      refine WL.appD hE hS 2 (m := 1) (runs_plain rfl) rfl rfl rfl ap26 rfl h68 rfl (xs := [x54]) (Ev.cons (c1 := [.int .i64 x54.Train, .int .i64 x54.On, .int .i64 x54.Off]) rfl rfl (Ev.nil)) rfl rfl hx77 rfl ?_; clear hE hS a w; intro a78 c79 cs80 a w h81 hE hS
      refine WL.storeI hE hS 1 rfl [.slice a78 x76.length c79] (runs_plain rfl) rfl rfl rfl ty26 rfl rfl rfl rfl ?_; clear hE hS a w; intro a w hE hS
      refine WL.nil ?_
      replace hS := hS.tail
      subst hK74
      subst hT73
      exact ⟨s63, _, ⟨rest55, x76, a78, c79, x76.length, cs80, hl57.trans (by simp), hq52, hle64, h81, (rfl), rfl⟩, hS⟩
    · intro s63 Q_ D59 a w hI_ hE hS
      obtain ⟨rest55, q65, a66, c67, n69, cs70, hl57, hq52, hle64, h68, rfl, rfl⟩ := hI_
      obtain rfl := pre_end hl57
      rw [SlicesAppendSeqLguideRide_v1.loop1] at hq52
      exact ⟨q65, _, _, _, _, D59, s63, hle64, Option.some.inj hq52, h68, rfl, hE.pick _ ⟨rfl, rfl, trivial⟩, hS⟩
    · exact fun _ _ _ _ _ _ _ h => h.elim
  · clear hE hS a w; rintro a w ⟨q65, a66, c67, n69, cs70, D59, s63, hle64, rfl, h68, rfl, hE, hS⟩
    replace h1 := Iter.mono hle64 h1
    replace h_v0 := Ev.mono RGuideRide.mono hle64 h_v0
    refine W.seq ?_
    refine W.region ?_
    refine WL.vS hS hE (runs_plain rfl) (Gives.loadB hE 1 rfl rfl rfl ty26) rfl ?_; clear hE a; intro a hE
    refine WL.vS hS hE (runs_plain rfl) (Gives.p hE rfl) rfl ?_; clear hE a; intro a hE
    refine WL.nil ?_
    refine W.ret ?_
    refine finGM (fn := Tryd.f112) (rs := [.tmp 4]) (vs := [.slice a66 q65.length c67]) hE hS 0 rfl rfl ?_
    clear hS; intro w hS
    refine ⟨⟨rfl, trivial⟩, ?_⟩
    obtain rfl := Option.some.inj hr
    replace hS := hS.tail
    exact ⟨a66, c67, q65.length, cs70, s63, rfl, hle64, h68, rfl, hS⟩
set_option maxHeartbeats 8000000 in
theorem GuideNetends_ok  {w : World} {s : Sg} {R : List HP} {x0 : GuideNet} {a0_0 : Option Addr} {c0_0 : Nat} {a0_1 : Option Addr} {c0_1 : Nat} {x1 : List GuideRide} {a1 : Option Addr} {c1 : Nat} (hS : St w s (R)) (h0_0 : Sl 4 RApiTrain s a0_0 c0_0 x0.Day.Trains) (h0_1 : Sl 1 (RL 1 (RI .i64)) s a0_1 c0_1 x0.Day.Turns) (h1 : Sl 3 RGuideRide s a1 c1 x1) {r : (List (List (GuidePlace × Bool)))} (hr : GuideNetends x0 x1 = some r) :
    Calls Tryd.prog 70 [.agg [.slice a0_0 x0.Day.Trains.length c0_0, .slice a0_1 x0.Day.Turns.length c0_1, .int .i64 x0.least].toArray, .slice a1 x1.length c1].toArray w (fun e w => ∃ (bs0 : List Nat) (t : Sg), e = .returned (.agg (mcells 4 bs0).toArray) ∧ s.Le t ∧ bs0.length = 4 ∧ St w t (mapsV keyGuidePlace.f Value.bool bs0 r :: R)) := by
  refine enter Tryd.func70 rfl rfl rfl fun a hE => ?_
  rw [GuideNetends] at hr
  refine W.seq ?_
  refine W.region ?_
  refine WL.box hE hS (runs_plain rfl) rfl rfl rfl ?_; clear hE hS a w; intro b51 a w hE hS
  refine WL.alloc hE hS (runs_plain rfl) zr119 rfl ?_; clear hE hS a w; intro b52 a w hE hS
  replace hS : St w s (pt b52 (.cells (mcells 4 []).toArray 119 (0, 0)) :: pt b51 (.cells #[.slice a0_0 x0.Day.Trains.length c0_0, .slice a0_1 x0.Day.Turns.length c0_1, .int .i64 x0.least] 94 (0, 0)) :: R) := hS
  refine WL.nil ?_
  refine W.seq ?_
  refine W.region ?_
  refine WL.alloc hE hS (runs_plain rfl) zr119 rfl ?_; clear hE hS a w; intro b53 a w hE hS
  replace hS := hS.mapsNil (fk := keyGuidePlace.f) (fv := Value.bool)
  replace hS : St w s (mapsV keyGuidePlace.f Value.bool [] [] :: pt b53 (.cells (mcells 4 []).toArray 119 (0, 0)) :: pt b52 (.cells (mcells 4 []).toArray 119 (0, 0)) :: pt b51 (.cells #[.slice a0_0 x0.Day.Trains.length c0_0, .slice a0_1 x0.Day.Turns.length c0_1, .int .i64 x0.least] 94 (0, 0)) :: R) := hS
  refine WL.nil ?_
  refine W.seq ?_
  refine W.region ?_
  refine WL.vS hS hE (runs_plain rfl) (Gives.p hE rfl) rfl ?_; clear hE a; intro a hE
  refine WL.vS hS hE (runs_plain rfl) (Gives.p hE rfl) rfl ?_; clear hE a; intro a hE
  refine WL.nil ?_
  refine W.seq ?_
  refine W.seq ?_
  refine W.region ?_
  refine WL.vS hS hE (runs_plain rfl) (Gives.p hE rfl) rfl ?_; clear hE a; intro a hE
  refine WL.nil ?_
  obtain ⟨q55, hq54, hr⟩ := bindS hr
  refine W.cut (fun a w => ∃ (q65 : List GuideRide), ∃ (q69 : List (List (GuidePlace × Bool))), ∃ (a66 : Option Addr), ∃ (c67 : Nat), ∃ (bs70 : List Nat), ∃ (s63 : Sg), s.Le s63 ∧ (q65, q69) = q55 ∧ Sl 3 RGuideRide s63 a66 c67 q65 ∧ Rep a 48 [(4, .pointer (some ⟨b52, 0, none⟩)), (5, .pointer (some ⟨b53, 0, none⟩))] ∧ St w s63 (mapsV keyGuidePlace.f Value.bool bs70 q69 :: pt b53 (.cells (mcells 4 bs70).toArray 119 (0, 0)) :: pt b52 (.cells (mcells 4 []).toArray 119 (0, 0)) :: pt b51 (.cells #[.slice a0_0 x0.Day.Trains.length c0_0, .slice a0_1 x0.Day.Turns.length c0_1, .int .i64 x0.least] 94 (0, 0)) :: R)) ?_ ?_
  · refine W.block ?_
    refine W.loop (fun m a w => ∃ (rest58 : Nat) (k56 : Nat), ∃ (q65 : List GuideRide), ∃ (q69 : List (List (GuidePlace × Bool))), ∃ (a66 : Option Addr), ∃ (c67 : Nat), ∃ (bs70 : List Nat), ∃ (s63 : Sg), rest58 = m ∧ k56 + rest58 = 4 ∧ s.Le s63 ∧ GuideNetends.loop1 x0 rest58 k56 q65 q69 = some q55 ∧ Sl 3 RGuideRide s63 a66 c67 q65 ∧ Rep a 48 [(2, .pointer (some ⟨b51, 0, none⟩)), (4, .pointer (some ⟨b52, 0, none⟩)), (5, .pointer (some ⟨b53, 0, none⟩)), (6, .slice a66 q65.length c67), (13, .int .i64 ((k56 : Nat) : Int))] ∧ St w s63 (mapsV keyGuidePlace.f Value.bool bs70 q69 :: pt b53 (.cells (mcells 4 bs70).toArray 119 (0, 0)) :: pt b52 (.cells (mcells 4 []).toArray 119 (0, 0)) :: pt b51 (.cells #[.slice a0_0 x0.Day.Trains.length c0_0, .slice a0_1 x0.Day.Turns.length c0_1, .int .i64 x0.least] 94 (0, 0)) :: R)) (m := 4) ⟨4, 0, x1, [], a1, c1, [], s, rfl, by omega, (Sg.Le.refl _), hq54, h1, hE.pick _ ⟨rfl, rfl, rfl, rfl, rfl, trivial⟩, hS⟩ ?_
    clear hE hS a w hq54; rintro m62 a w ⟨rest58, k56, q65, q69, a66, c67, bs70, s63, rfl, hd59, hle64, hq54, h68, hE, hS⟩
    refine W.gen fun K71 hK71 => ?_
    replace h0_0 := Sl.mono RApiTrain.mono hle64 h0_0
    replace h0_1 := Sl.mono (RL.mono RI.mono) hle64 h0_1
    replace h1 := Sl.mono RGuideRide.mono hle64 h1
    rcases rest58 with _ | rest58
    · skip
      refine W.seq ?_
      refine W.region ?_
      refine WL.vS hS hE (runs_plain rfl) (Gives.p hE rfl) rfl ?_; clear hE a; intro a hE
      refine WL.nil ?_
      refine W.seq ?_
      refine W.condF hE rfl (decide_eq_false (by omega)) ?_
      subst hK71
      refine W.exit rfl ?_
      exact ⟨q65, q69, a66, c67, bs70, s63, hle64, Option.some.inj hq54, h68, hE.pick _ ⟨rfl, rfl, trivial⟩, hS⟩
    · have hlt60 : k56 < 4 := by omega
      rw [GuideNetends.loop1] at hq54
      refine W.seq ?_
      refine W.region ?_
      refine WL.vS hS hE (runs_plain rfl) (Gives.p hE rfl) rfl ?_; clear hE a; intro a hE
      refine WL.nil ?_
      refine W.seq ?_
      refine W.condT hE rfl (decide_eq_true (by omega)) ?_
      refine W.skip ?_
      refine W.seq ?_
      refine W.block ?_
      refine W.seq ?_
      refine W.region ?_
      refine WL.vS hS hE (runs_plain rfl) (Gives.p hE rfl) rfl ?_; clear hE a; intro a hE
      refine WL.vS hS hE (runs_plain rfl) (Gives.p hE rfl) rfl ?_; clear hE a; intro a hE
      refine WL.nil ?_
      refine W.seq ?_
      refine W.region ?_
      refine WL.vS hS hE (runs_plain rfl) (Gives.p hE rfl) rfl ?_; clear hE a; intro a hE
      refine WL.mkMap (fk := keyGuidePlace.f) (fv := Value.bool) hE hS (runs_plain rfl) rfl ?_; clear hE hS a w; intro b72 a w hE hS
      obtain ⟨_, hx73, hq54⟩ := bindS hq54
      obtain ⟨h74, h75⟩ := mst_some hx73
      have hl76 := hS.mapsLen 1 rfl
      refine WL.vS hS hE (runs_plain rfl) (Gives.idxA hE (bs70).length rfl rfl ar119 (by rw [hl76]; exact h74) (by rw [hl76]; exact h75) ⟨_, _, rfl⟩) rfl ?_; clear hE a; intro a hE
      refine WL.storeM hE hS 2 rfl (runs_plain rfl) rfl rfl ty118 (by rw [hl76]; exact h75) rfl ?_; clear hE hS a w; intro a w hE hS
      replace hS := hS.mapsSnoc 1 0 rfl rfl
      refine WL.nil ?_
      refine W.seq ?_
      refine W.region ?_
      replace hS := hS.vecNil 47 3
      refine WL.vS hS hE (runs_plain rfl) (Gives.p hE rfl) rfl ?_; clear hE a; intro a hE
      refine WL.nil ?_
      refine W.seq ?_
      refine W.seq ?_
      refine W.region ?_
      refine WL.vS hS hE (runs_plain rfl) (Gives.p hE rfl) rfl ?_; clear hE a; intro a hE
      refine WL.vS hS hE (runs_plain rfl) (Gives.len hE rfl sl26) rfl ?_; clear hE a; intro a hE
      refine WL.vS hS hE (runs_plain rfl) (Gives.p hE rfl) rfl ?_; clear hE a; intro a hE
      refine WL.nil ?_
      obtain ⟨q79, hq78, hq54⟩ := bindS hq54
      refine W.cut (fun a w => ∃ (q89 : List GuideRide), ∃ (q96 : List (List (GuidePlace × Bool))), ∃ (a90 : Option Addr), ∃ (c91 : Nat), ∃ (n93 : Nat), ∃ (cs94 : List Value), ∃ (bs97 : List Nat), ∃ (s87 : Sg), s63.Le s87 ∧ (q89, q96) = q79 ∧ Ev 3 RGuideRide s87 cs94 q89 ∧ q89.length = n93 ∧ Rep a 48 [(2, .pointer (some ⟨b51, 0, none⟩)), (4, .pointer (some ⟨b52, 0, none⟩)), (5, .pointer (some ⟨b53, 0, none⟩)), (8, .slice a90 n93 c91), (13, .int .i64 ((k56 : Nat) : Int))] ∧ St w s87 (vecC 47 3 a90 c91 n93 cs94 :: mapsV keyGuidePlace.f Value.bool bs97 q96 :: pt b53 (.cells (mcells 4 bs97).toArray 119 (0, 0)) :: pt b52 (.cells (mcells 4 []).toArray 119 (0, 0)) :: pt b51 (.cells #[.slice a0_0 x0.Day.Trains.length c0_0, .slice a0_1 x0.Day.Turns.length c0_1, .int .i64 x0.least] 94 (0, 0)) :: R)) ?_ ?_
      · refine W.block ?_
        refine W.loop (fun m a w => ∃ (rest82 : List GuideRide) (k80 : Nat), ∃ (q89 : List GuideRide), ∃ (q96 : List (List (GuidePlace × Bool))), ∃ (a90 : Option Addr), ∃ (c91 : Nat), ∃ (n93 : Nat), ∃ (cs94 : List Value), ∃ (bs97 : List Nat), ∃ (s87 : Sg), rest82.length = m ∧ q65.drop k80 = rest82 ∧ s63.Le s87 ∧ GuideNetends.loop2 x0 k56 rest82 q89 q96 = some q79 ∧ Ev 3 RGuideRide s87 cs94 q89 ∧ q89.length = n93 ∧ Rep a 48 [(2, .pointer (some ⟨b51, 0, none⟩)), (4, .pointer (some ⟨b52, 0, none⟩)), (5, .pointer (some ⟨b53, 0, none⟩)), (7, .int .i64 ((k56 : Nat) : Int)), (8, .slice a90 n93 c91), (13, .int .i64 ((k56 : Nat) : Int)), (19, .slice a66 q65.length c67), (20, .int .i64 ((q65).length : Int)), (21, .int .i64 ((k80 : Nat) : Int))] ∧ St w s87 (vecC 47 3 a90 c91 n93 cs94 :: mapsV keyGuidePlace.f Value.bool bs97 q96 :: pt b53 (.cells (mcells 4 bs97).toArray 119 (0, 0)) :: pt b52 (.cells (mcells 4 []).toArray 119 (0, 0)) :: pt b51 (.cells #[.slice a0_0 x0.Day.Trains.length c0_0, .slice a0_1 x0.Day.Turns.length c0_1, .int .i64 x0.least] 94 (0, 0)) :: R)) (m := q65.length) ⟨q65, 0, [], (q69 ++ [[]]), none, 0, 0, [], (bs70 ++ [b72]), s63, rfl, rfl, (Sg.Le.refl _), hq78, (Ev.nil), (rfl), hE.pick _ ⟨rfl, rfl, rfl, rfl, rfl, rfl, rfl, rfl, rfl, trivial⟩, hS⟩ ?_
        clear hE hS a w hq78; rintro m86 a w ⟨rest82, k80, q89, q96, a90, c91, n93, cs94, bs97, s87, rfl, hd83, hle88, hq78, h92, rfl, hE, hS⟩
        refine W.gen fun K98 hK98 => ?_
        replace h68 := Sl.mono RGuideRide.mono hle88 h68
        replace h0_0 := Sl.mono RApiTrain.mono hle88 h0_0
        replace h0_1 := Sl.mono (RL.mono RI.mono) hle88 h0_1
        rcases rest82 with _ | ⟨x81, rest82⟩
        · have hlt84 := drop_nil hd83
          refine W.seq ?_
          refine W.region ?_
          refine WL.vS hS hE (runs_plain rfl) (Gives.p hE rfl) rfl ?_; clear hE a; intro a hE
          refine WL.nil ?_
          refine W.seq ?_
          refine W.condF hE rfl (decide_eq_false (by omega)) ?_
          subst hK98
          refine W.exit rfl ?_
          exact ⟨q89, q96, a90, c91, q89.length, cs94, bs97, s87, hle88, Option.some.inj hq78, h92, rfl, hE.pick _ ⟨rfl, rfl, rfl, rfl, rfl, trivial⟩, hS⟩
        · obtain ⟨hlt84, hx85, hd83⟩ := drop_cons hd83
          rw [GuideNetends.loop2] at hq78
          refine W.seq ?_
          refine W.region ?_
          refine WL.vS hS hE (runs_plain rfl) (Gives.p hE rfl) rfl ?_; clear hE a; intro a hE
          refine WL.nil ?_
          refine W.seq ?_
          refine W.condT hE rfl (decide_eq_true (by omega)) ?_
          refine W.skip ?_
          refine W.seq ?_
          refine W.block ?_
          refine W.seq ?_
          refine W.region ?_
          obtain ⟨cs99, hl100, hR101, hat102⟩ := h68.at hx85
          subst hR101
          refine WL.vS hS hE (runs_plain rfl) (Gives.idx hE k80 rfl rfl sl26 rfl hlt84 (h68.aok hlt84)) rfl ?_; clear hE a; intro a hE
          refine WL.vS hS hE (runs_plain rfl) (Gives.loadA hE rfl (fun w h => hat102 w _ h) ty47) rfl ?_; clear hE a; intro a hE
          refine WL.alloc hE hS (runs_plain rfl) zr47 rfl ?_; clear hE hS a w; intro b103 a w hE hS
          refine WL.storeI hE hS 0 rfl (GuideRide.cells x81) (runs_plain rfl) rfl rfl rfl ty47 rfl rfl rfl rfl ?_; clear hE hS a w; intro a w hE hS
          refine WL.nil ?_
          refine W.seq ?_
          refine W.region ?_
          refine WL.vS hS hE (runs_plain rfl) (Gives.fld hE rfl fl47_0) rfl ?_; clear hE a; intro a hE
          refine WL.vS hS hE (runs_plain rfl) (Gives.loadB hE 0 rfl rfl rfl ty3) rfl ?_; clear hE a; intro a hE
          refine WL.vS hS hE (runs_plain rfl) (Gives.fld hE rfl fl47_2) rfl ?_; clear hE a; intro a hE
          refine WL.vS hS hE (runs_plain rfl) (Gives.loadB hE 0 rfl rfl rfl ty3) rfl ?_; clear hE a; intro a hE
          refine WL.vS hS hE (runs_plain rfl) (Gives.build hE (vs := [(0, .int .i64 x81.Train), (1, .int .i64 x81.Off)]) [.int .i64 x81.Train, .int .i64 x81.Off] rfl (by kernel_rfl)) rfl ?_; clear hE a; intro a hE
          refine WL.alloc hE hS (runs_plain rfl) zr126 rfl ?_; clear hE hS a w; intro b104 a w hE hS
          refine WL.storeI hE hS 0 rfl [.int .i64 x81.Train, .int .i64 x81.Off] (runs_plain rfl) rfl rfl rfl ty126 rfl rfl rfl rfl ?_; clear hE hS a w; intro a w hE hS
          refine WL.nil ?_
          refine W.seq ?_
          refine W.seq ?_
          refine W.regionQ (C := fun w => St w s87 (pt b104 (.cells #[.int .i64 x81.Train, .int .i64 x81.Off] 126 (0, 0)) :: pt b103 (.cells (GuideRide.cells x81).toArray 47 (0, 0)) :: vecC 47 3 a90 c91 q89.length cs94 :: mapsV keyGuidePlace.f Value.bool bs97 q96 :: pt b53 (.cells (mcells 4 bs97).toArray 119 (0, 0)) :: pt b52 (.cells (mcells 4 []).toArray 119 (0, 0)) :: pt b51 (.cells #[.slice a0_0 x0.Day.Trains.length c0_0, .slice a0_1 x0.Day.Turns.length c0_1, .int .i64 x0.least] 94 (0, 0)) :: R)) mixed (by kernel_rfl) hS.drew ?_
          refine QL.v hE (runs_plain rfl) (Gives.p hE rfl) rfl ?_; clear hE a; intro a hE
          obtain ⟨x105, hx106, hq78⟩ := bindS hq78
          obtain ⟨hi107, hlt108, hy109⟩ := mgx_some hx106
          obtain ⟨b110, hb111⟩ := hS.mapsAt 3 rfl hy109
          refine QL.v hE (runs_plain rfl) (Gives.idxA hE ((((k56 : Nat) : Int)).toNat) rfl rfl ar119 hi107 hlt108 ⟨_, _, rfl⟩) rfl ?_; clear hE a; intro a hE
          refine QL.v hE (runs_plain rfl) (Gives.load1 hE rfl (fun w h => St.mapsSees h 4 rfl hb111) ty118) rfl ?_; clear hE a; intro a hE
          refine QL.v hE (runs_plain rfl) (Gives.loadBA hE 0 rfl rfl ty126) rfl ?_; clear hE a; intro a hE
          refine QL.v hE (runs_plain rfl) (Gives.mapsGetS keyGuidePlace hE 3 (k := (GuidePlace.mk x81.Train x81.Off)) (z := false) hb111 hy109 rfl rfl rfl mp118 zm4) rfl ?_; clear hE a; intro a hE
          refine QL.nil ?_; clear hS w; intro w hS
          refine W.cond hE rfl (fun hc112 => ?_) (fun hc112 => ?_)
          · replace hq78 := iteT hc112 hq78
            refine W.exit rfl ?_
            refine W.region ?_
            refine WL.vS hS hE (runs_plain rfl) (Gives.inc hE rfl (by have := h68.small; omega)) rfl ?_; clear hE a; intro a hE
            refine WL.vS hS hE (runs_plain rfl) (Gives.p hE rfl) rfl ?_; clear hE a; intro a hE
            refine WL.nil ?_
            replace hS := hS.tail
            replace hS := hS.tail
            subst hK98
            exact ⟨rest82.length, Nat.lt_succ_self _, rest82, k80 + 1, q89, q96, a90, c91, q89.length, cs94, bs97, s87, rfl, hd83, hle88, hq78, h92, rfl, hE.pick _ ⟨rfl, rfl, rfl, rfl, rfl, rfl, rfl, rfl, rfl, trivial⟩, hS⟩
          · replace hq78 := iteF hc112 hq78
            refine W.skip ?_
            refine W.seq ?_
            refine W.gen fun K113 hK113 => ?_
            refine W.regionE (sel (fun w => St w s87 (pt b104 (.cells #[.int .i64 x81.Train, .int .i64 x81.Off] 126 (0, 0)) :: pt b103 (.cells (GuideRide.cells x81).toArray 47 (0, 0)) :: vecC 47 3 a90 c91 q89.length cs94 :: mapsV keyGuidePlace.f Value.bool bs97 q96 :: pt b53 (.cells (mcells 4 bs97).toArray 119 (0, 0)) :: pt b52 (.cells (mcells 4 []).toArray 119 (0, 0)) :: pt b51 (.cells #[.slice a0_0 x0.Day.Trains.length c0_0, .slice a0_1 x0.Day.Turns.length c0_1, .int .i64 x0.least] 94 (0, 0)) :: R)) (fun w => St w s87 (pt b104 (.cells #[.int .i64 x81.Train, .int .i64 x81.Off] 126 (0, 0)) :: pt b103 (.cells (GuideRide.cells x81).toArray 47 (0, 0)) :: vecC 47 3 a90 c91 q89.length cs94 :: pt b52 (.cells (mcells 4 []).toArray 119 (0, 0)) :: pt b51 (.cells #[.slice a0_0 x0.Day.Trains.length c0_0, .slice a0_1 x0.Day.Turns.length c0_1, .int .i64 x0.least] 94 (0, 0)) :: R))) (fun b i => cond b ([0, 1, 2, 3].contains i) ([0, 1, 2, 3, 4].contains i)) mixed ?_
            replace hS := hS.drew
            refine Rg.takeP (i := 0) hE rfl (by kernel_rfl) (runs_plain rfl) (Gives.p hE rfl) rfl (tw_sel (fun _ => hS) (fun _ => ((hS.dropAt 3).dropAt 3))) ?_; clear hE a; intro a hE
            obtain ⟨x114, hx115, hq78⟩ := bindS hq78
            obtain ⟨hi116, hlt117, hy118⟩ := mgx_some hx115
            obtain ⟨b119, hb120⟩ := hS.mapsAt 3 rfl hy118
            refine Rg.takeP (i := 1) hE rfl (by kernel_rfl) (runs_plain rfl) (Gives.idxA hE ((((k56 : Nat) : Int)).toNat) rfl rfl ar119 hi116 hlt117 ⟨_, _, rfl⟩) rfl (tw_sel (fun _ => hS) (fun _ => ((hS.dropAt 3).dropAt 3))) ?_; clear hE a; intro a hE
            have hT := tw_sel (A := fun w => St w s87 (pt b104 (.cells #[.int .i64 x81.Train, .int .i64 x81.Off] 126 (0, 0)) :: pt b103 (.cells (GuideRide.cells x81).toArray 47 (0, 0)) :: vecC 47 3 a90 c91 q89.length cs94 :: mapsV keyGuidePlace.f Value.bool bs97 q96 :: pt b53 (.cells (mcells 4 bs97).toArray 119 (0, 0)) :: pt b52 (.cells (mcells 4 []).toArray 119 (0, 0)) :: pt b51 (.cells #[.slice a0_0 x0.Day.Trains.length c0_0, .slice a0_1 x0.Day.Turns.length c0_1, .int .i64 x0.least] 94 (0, 0)) :: R)) (B := fun w => St w s87 (pt b104 (.cells #[.int .i64 x81.Train, .int .i64 x81.Off] 126 (0, 0)) :: pt b103 (.cells (GuideRide.cells x81).toArray 47 (0, 0)) :: vecC 47 3 a90 c91 q89.length cs94 :: pt b52 (.cells (mcells 4 []).toArray 119 (0, 0)) :: pt b51 (.cells #[.slice a0_0 x0.Day.Trains.length c0_0, .slice a0_1 x0.Day.Turns.length c0_1, .int .i64 x0.least] 94 (0, 0)) :: R)) (w := _) (x := true) (y := true) (fun _ => hS) (fun _ => ((hS.dropAt 3).dropAt 3))
            have hF := hS; replace hS := hS
            refine Rg.take (i := 2) true rfl hE rfl (by kernel_rfl) (runs_plain rfl) (Gives.load1 hE rfl (fun w h => St.mapsSees h 4 rfl hb120) ty118) rfl hT ?_; clear hE a; intro a hE
            replace hS := hF; clear hF hT
            have hT := tw_sel (A := fun w => St w s87 (pt b104 (.cells #[.int .i64 x81.Train, .int .i64 x81.Off] 126 (0, 0)) :: pt b103 (.cells (GuideRide.cells x81).toArray 47 (0, 0)) :: vecC 47 3 a90 c91 q89.length cs94 :: mapsV keyGuidePlace.f Value.bool bs97 q96 :: pt b53 (.cells (mcells 4 bs97).toArray 119 (0, 0)) :: pt b52 (.cells (mcells 4 []).toArray 119 (0, 0)) :: pt b51 (.cells #[.slice a0_0 x0.Day.Trains.length c0_0, .slice a0_1 x0.Day.Turns.length c0_1, .int .i64 x0.least] 94 (0, 0)) :: R)) (B := fun w => St w s87 (pt b104 (.cells #[.int .i64 x81.Train, .int .i64 x81.Off] 126 (0, 0)) :: pt b103 (.cells (GuideRide.cells x81).toArray 47 (0, 0)) :: vecC 47 3 a90 c91 q89.length cs94 :: pt b52 (.cells (mcells 4 []).toArray 119 (0, 0)) :: pt b51 (.cells #[.slice a0_0 x0.Day.Trains.length c0_0, .slice a0_1 x0.Day.Turns.length c0_1, .int .i64 x0.least] 94 (0, 0)) :: R)) (w := _) (x := true) (y := true) (fun _ => hS) (fun _ => ((hS.dropAt 3).dropAt 3))
            have hF := hS; replace hS := hS
            refine Rg.take (i := 3) true rfl hE rfl (by kernel_rfl) (runs_plain rfl) (Gives.loadBA hE 0 rfl rfl ty126) rfl hT ?_; clear hE a; intro a hE
            replace hS := hF; clear hF hT
            refine Rg.one (i := 4) false true rfl (by kernel_rfl) (by kernel_rfl) (by kernel_rfl) ?_
            refine WL.mapsSetS keyGuidePlace hE hS 3 (k := (GuidePlace.mk x81.Train x81.Off)) (v := true) (.inl rfl) hb120 hy118 (runs_plain rfl) rfl rfl rfl rfl mp118 rfl ?_; clear hE hS a w; intro a w hE hS
            refine WL.nil ?_
            refine ⟨⟨fun h => absurd h (by decide), fun _ => ((hS.dropAt 3).dropAt 3)⟩, ?_⟩
            refine Rg.done (by kernel_rfl) ?_
            subst hK113
            refine W.region ?_
            refine WL.vS hS hE (runs_plain rfl) (Gives.p hE rfl) rfl ?_; clear hE a; intro a hE
            refine WL.vS hS hE (runs_plain rfl) (Gives.loadBA hE 6 rfl rfl ty94) rfl ?_; clear hE a; intro a hE
            refine WL.vS hS hE (runs_plain rfl) (Gives.loadBA hE 1 rfl rfl ty47) rfl ?_; clear hE a; intro a hE
            obtain ⟨q121, hq122, hq78⟩ := bindS hq78
            have hc_ := GuideNetbehind_ok hS h0_0 h0_1 hq122
            refine WL.fnq hE (hc_) (runs_plain rfl) bd78 rfl rfl rfl ?_
            clear hE hS hc_; rintro e w ⟨lb123, s125, rfl, hle126, h124, hS⟩; refine ⟨_, rfl, ?_⟩; clear a; intro a hE
            replace h68 := Sl.mono RGuideRide.mono hle126 h68
            replace h0_0 := Sl.mono RApiTrain.mono hle126 h0_0
            replace h0_1 := Sl.mono (RL.mono RI.mono) hle126 h0_1
            replace h92 := Ev.mono RGuideRide.mono hle126 h92
            obtain ⟨q127, hq128, hq78⟩ := bindS hq78
            replace hS := hS.front 2 rfl
            have hc_ := SlicesAppendSeqLguideRide_v1_ok hS h92 rfl h124 hq128
            refine WL.fnq hE (hc_) (runs_plain rfl) bd112 rfl rfl rfl ?_
            clear hE hS hc_; rintro e w ⟨a129, c130, n131, cs132, s135, rfl, hle136, h133, rfl, hS⟩; refine ⟨_, rfl, ?_⟩; clear a; intro a hE
            replace h68 := Sl.mono RGuideRide.mono hle136 h68
            replace h0_0 := Sl.mono RApiTrain.mono hle136 h0_0
            replace h0_1 := Sl.mono (RL.mono RI.mono) hle136 h0_1
            replace h124 := Iter.mono hle136 h124
            replace h92 := Ev.mono RGuideRide.mono hle136 h92
            refine WL.vS hS hE (runs_plain rfl) (Gives.p hE rfl) rfl ?_; clear hE a; intro a hE
            refine WL.nil ?_
            refine W.region ?_
            refine WL.vS hS hE (runs_plain rfl) (Gives.inc hE rfl (by have := h68.small; omega)) rfl ?_; clear hE a; intro a hE
            refine WL.vS hS hE (runs_plain rfl) (Gives.p hE rfl) rfl ?_; clear hE a; intro a hE
            refine WL.nil ?_
            replace hS := hS.dropAt 1
            replace hS := hS.dropAt 1
            subst hK98
            exact ⟨rest82.length, Nat.lt_succ_self _, rest82, k80 + 1, q127, (q96.set ((((k56 : Nat) : Int)).toNat) (mput x114 (GuidePlace.mk x81.Train x81.Off) true)), a129, c130, q127.length, cs132, bs97, s135, rfl, hd83, (Sg.Le.trans (Sg.Le.trans hle88 hle126) hle136), hq78, h133, rfl, hE.pick _ ⟨rfl, rfl, rfl, rfl, rfl, rfl, rfl, rfl, rfl, trivial⟩, hS⟩
      · clear hE hS a w; rintro a w ⟨q89, q96, a90, c91, n93, cs94, bs97, s87, hle88, rfl, h92, rfl, hE, hS⟩
        dsimp only at hq54
        replace h68 := Sl.mono RGuideRide.mono hle88 h68
        replace h0_0 := Sl.mono RApiTrain.mono hle88 h0_0
        replace h0_1 := Sl.mono (RL.mono RI.mono) hle88 h0_1
        refine W.region ?_
        refine WL.vS hS hE (runs_plain rfl) (Gives.p hE rfl) rfl ?_; clear hE a; intro a hE
        refine WL.vS hS hE (runs_plain rfl) (Gives.p hE rfl) rfl ?_; clear hE a; intro a hE
        refine WL.nil ?_
        refine W.region ?_
        refine WL.vS hS hE (runs_plain rfl) (Gives.inc hE rfl (by omega)) rfl ?_; clear hE a; intro a hE
        refine WL.vS hS hE (runs_plain rfl) (Gives.p hE rfl) rfl ?_; clear hE a; intro a hE
        refine WL.nil ?_
        have hF := hS.fixD RGuideRide.mono 0 rfl h92 rfl; clear hS; obtain ⟨s137, hle138, hS, h139⟩ := hF
        replace h0_0 := Sl.mono RApiTrain.mono hle138 h0_0
        replace h0_1 := Sl.mono (RL.mono RI.mono) hle138 h0_1
        subst hK71
        exact ⟨rest58, Nat.lt_succ_self _, rest58, k56 + 1, q89, q96, a90, c91, bs97, s137, rfl, (by omega), (Sg.Le.trans (Sg.Le.trans hle64 hle88) hle138), hq54, h139, hE.pick _ ⟨rfl, rfl, rfl, rfl, rfl, trivial⟩, hS⟩
  · clear hE hS a w; rintro a w ⟨q65, q69, a66, c67, bs70, s63, hle64, rfl, h68, hE, hS⟩
    dsimp only at hr
    replace h0_0 := Sl.mono RApiTrain.mono hle64 h0_0
    replace h0_1 := Sl.mono (RL.mono RI.mono) hle64 h0_1
    replace h1 := Sl.mono RGuideRide.mono hle64 h1
    refine W.seq ?_
    refine W.region ?_
    obtain ⟨_, hx140, hr⟩ := bindS hr
    have hl141 : (bs70).length = 4 := (hS.mapsLen 0 rfl).trans (mall_some hx140)
    refine WL.vS hS hE (runs_plain rfl) (Gives.loadBA hE 1 rfl rfl (by rw [mcells_len (by omega)]; exact ty119)) rfl ?_; clear hE a; intro a hE
    refine WL.storeMA hE hS 2 rfl (runs_plain rfl) rfl rfl ty119 (by decide) (by omega) rfl ?_; clear hE hS a w; intro a w hE hS
    refine WL.nil ?_
    refine W.ret ?_
    refine finG (fn := Tryd.f70) (rs := [.cell 4 119]) (vs := [_]) hE rfl ⟨⟨_, rfl, .inl ⟨_, rfl, hS.seesAt 2 rfl, (by rw [mcells_len (by omega)]; exact ty119)⟩⟩, trivial⟩ ?_
    obtain rfl := Option.some.inj hr
    replace hS := hS.dropAt 1
    replace hS := hS.dropAt 1
    replace hS := hS.dropAt 1
    exact ⟨bs70, s63, rfl, hle64, hl141, hS⟩
set_option maxHeartbeats 8000000 in
theorem MathBitsLen64_ok  {w : World} {s : Sg} {R : List HP} {x0 : Int} (hS : St w s (R))  {r : Int} (hr : MathBitsLen64 x0 = some r) :
    Calls Tryd.prog 136 [.int .u64 x0].toArray w (fun e w => e = .returned (.int .i64 r) ∧ St w s (R)) := by
  refine enter Tryd.func136 rfl rfl rfl fun a hE => ?_
  rw [MathBitsLen64] at hr
  refine W.seq ?_
  refine W.region ?_
  refine WL.vS hS hE (runs_plain rfl) (Gives.p hE rfl) rfl ?_; clear hE a; intro a hE
  refine WL.nil ?_
  refine W.seq ?_
  refine W.seq ?_
  refine W.region ?_
  refine WL.vS hS hE (runs_plain rfl) (Gives.p hE rfl) rfl ?_; clear hE a; intro a hE
  refine WL.vS hS hE (runs_plain rfl) (Gives.p hE rfl) rfl ?_; clear hE a; intro a hE
  refine WL.nil ?_
  obtain ⟨q52, hq51, hr⟩ := bndS hr
  refine W.cut (fun a w => ∃ (q55 : Int), ∃ (q56 : Int), (q55, q56) = q52 ∧ Rep a 25 [(0, .int .u64 q55), (2, .int .i64 q56)] ∧ St w s (R)) ?_ ?_
  · refine W.gen fun K57 hK57 => ?_
    refine W.cond hE rfl (fun hc58 => ?_) (fun hc58 => ?_)
    · replace hq51 := iteT hc58 hq51
      refine W.seq ?_
      refine W.region ?_
      refine WL.vS hS hE (runs_plain rfl) (Gives.p hE rfl) rfl ?_; clear hE a; intro a hE
      refine WL.vS hS hE (runs_plain rfl) (Gives.shr hE rfl rfl (by decide)) rfl ?_; clear hE a; intro a hE
      refine WL.vS hS hE (runs_plain rfl) (Gives.p hE rfl) rfl ?_; clear hE a; intro a hE
      refine WL.nil ?_
      refine W.region ?_
      refine WL.vS hS hE (runs_plain rfl) (Gives.p hE rfl) rfl ?_; clear hE a; intro a hE
      refine WL.nil ?_
      subst hK57
      exact ⟨Int.fdiv x0 (2 ^ (min (Int.toNat 32) (IntKind.bits .u64))), 32, hq51, hE.pick _ ⟨rfl, rfl, trivial⟩, hS⟩
    · replace hq51 := iteF hc58 hq51
      refine W.skip ?_
      subst hK57
      exact ⟨x0, 0, hq51, hE.pick _ ⟨rfl, rfl, trivial⟩, hS⟩
  · clear hE hS a w; rintro a w ⟨q55, q56, rfl, hE, hS⟩
    dsimp only at hr
    refine W.seq ?_
    refine W.seq ?_
    refine W.region ?_
    refine WL.vS hS hE (runs_plain rfl) (Gives.p hE rfl) rfl ?_; clear hE a; intro a hE
    refine WL.vS hS hE (runs_plain rfl) (Gives.p hE rfl) rfl ?_; clear hE a; intro a hE
    refine WL.nil ?_
    obtain ⟨q60, hq59, hr⟩ := bndS hr
    refine W.cut (fun a w => ∃ (q63 : Int), ∃ (q64 : Int), (q63, q64) = q60 ∧ Rep a 25 [(0, .int .u64 q63), (2, .int .i64 q64)] ∧ St w s (R)) ?_ ?_
    · refine W.gen fun K65 hK65 => ?_
      refine W.cond hE rfl (fun hc66 => ?_) (fun hc66 => ?_)
      · replace hq59 := iteT hc66 hq59
        refine W.seq ?_
        refine W.region ?_
        refine WL.vS hS hE (runs_plain rfl) (Gives.p hE rfl) rfl ?_; clear hE a; intro a hE
        refine WL.vS hS hE (runs_plain rfl) (Gives.shr hE rfl rfl (by decide)) rfl ?_; clear hE a; intro a hE
        refine WL.vS hS hE (runs_plain rfl) (Gives.p hE rfl) rfl ?_; clear hE a; intro a hE
        refine WL.nil ?_
        refine W.region ?_
        refine WL.vS hS hE (runs_plain rfl) (Gives.p hE rfl) rfl ?_; clear hE a; intro a hE
        refine WL.vS hS hE (runs_plain rfl) (Gives.p hE rfl) rfl ?_; clear hE a; intro a hE
        refine WL.vS hS hE (runs_plain rfl) (Gives.p hE rfl) rfl ?_; clear hE a; intro a hE
        refine WL.nil ?_
        subst hK65
        exact ⟨Int.fdiv q55 (2 ^ (min (Int.toNat 16) (IntKind.bits .u64))), w64 (q56 + 16), hq59, hE.pick _ ⟨rfl, rfl, trivial⟩, hS⟩
      · replace hq59 := iteF hc66 hq59
        refine W.skip ?_
        subst hK65
        exact ⟨q55, q56, hq59, hE.pick _ ⟨rfl, rfl, trivial⟩, hS⟩
    · clear hE hS a w; rintro a w ⟨q63, q64, rfl, hE, hS⟩
      dsimp only at hr
      refine W.seq ?_
      refine W.seq ?_
      refine W.region ?_
      refine WL.vS hS hE (runs_plain rfl) (Gives.p hE rfl) rfl ?_; clear hE a; intro a hE
      refine WL.vS hS hE (runs_plain rfl) (Gives.p hE rfl) rfl ?_; clear hE a; intro a hE
      refine WL.nil ?_
      obtain ⟨q68, hq67, hr⟩ := bndS hr
      refine W.cut (fun a w => ∃ (q71 : Int), ∃ (q72 : Int), (q71, q72) = q68 ∧ Rep a 25 [(0, .int .u64 q71), (2, .int .i64 q72)] ∧ St w s (R)) ?_ ?_
      · refine W.gen fun K73 hK73 => ?_
        refine W.cond hE rfl (fun hc74 => ?_) (fun hc74 => ?_)
        · replace hq67 := iteT hc74 hq67
          refine W.seq ?_
          refine W.region ?_
          refine WL.vS hS hE (runs_plain rfl) (Gives.p hE rfl) rfl ?_; clear hE a; intro a hE
          refine WL.vS hS hE (runs_plain rfl) (Gives.shr hE rfl rfl (by decide)) rfl ?_; clear hE a; intro a hE
          refine WL.vS hS hE (runs_plain rfl) (Gives.p hE rfl) rfl ?_; clear hE a; intro a hE
          refine WL.nil ?_
          refine W.region ?_
          refine WL.vS hS hE (runs_plain rfl) (Gives.p hE rfl) rfl ?_; clear hE a; intro a hE
          refine WL.vS hS hE (runs_plain rfl) (Gives.p hE rfl) rfl ?_; clear hE a; intro a hE
          refine WL.vS hS hE (runs_plain rfl) (Gives.p hE rfl) rfl ?_; clear hE a; intro a hE
          refine WL.nil ?_
          subst hK73
          exact ⟨Int.fdiv q63 (2 ^ (min (Int.toNat 8) (IntKind.bits .u64))), w64 (q64 + 8), hq67, hE.pick _ ⟨rfl, rfl, trivial⟩, hS⟩
        · replace hq67 := iteF hc74 hq67
          refine W.skip ?_
          subst hK73
          exact ⟨q63, q64, hq67, hE.pick _ ⟨rfl, rfl, trivial⟩, hS⟩
      · clear hE hS a w; rintro a w ⟨q71, q72, rfl, hE, hS⟩
        dsimp only at hr
        refine W.seq ?_
        refine W.region ?_
        refine WL.vS hS hE (runs_plain rfl) (Gives.p hE rfl) rfl ?_; clear hE a; intro a hE
        refine WL.vS hS hE (runs_plain rfl) (Gives.p hE rfl) rfl ?_; clear hE a; intro a hE
        refine WL.vS hS hE (runs_plain rfl) (Gives.conv hE rfl hu197 ui5) rfl ?_; clear hE a; intro a hE
        obtain ⟨x75, hx76, hr⟩ := bindS hr
        refine WL.vS hS hE (runs_plain rfl) (Gives.idxS hE st9 rfl rfl hx76) rfl ?_; clear hE a; intro a hE
        refine WL.vS hS hE (runs_plain rfl) (Gives.conv hE rfl hu5 ui3) rfl ?_; clear hE a; intro a hE
        refine WL.vS hS hE (runs_plain rfl) (Gives.p hE rfl) rfl ?_; clear hE a; intro a hE
        refine WL.vS hS hE (runs_plain rfl) (Gives.p hE rfl) rfl ?_; clear hE a; intro a hE
        refine WL.nil ?_
        refine W.ret ?_
        refine finG (fn := Tryd.f136) (rs := [.tmp 2]) (vs := [_]) hE rfl ⟨rfl, trivial⟩ ?_
        obtain rfl := Option.some.inj hr
        exact ⟨rfl, hS⟩
set_option maxHeartbeats 8000000 in
theorem MathBitsLen_ok  {w : World} {s : Sg} {R : List HP} {x0 : Int} (hS : St w s (R))  {r : Int} (hr : MathBitsLen x0 = some r) :
    Calls Tryd.prog 95 [.int .u64 x0].toArray w (fun e w => e = .returned (.int .i64 r) ∧ St w s (R)) := by
  refine enter Tryd.func95 rfl rfl rfl fun a hE => ?_
  rw [MathBitsLen] at hr
  refine W.seq ?_
  refine W.region ?_
  refine WL.vS hS hE (runs_plain rfl) (Gives.p hE rfl) rfl ?_; clear hE a; intro a hE
  refine WL.nil ?_
  refine W.seq ?_
  refine W.condF hE rfl rfl ?_
  refine W.skip ?_
  refine W.seq ?_
  refine W.region ?_
  refine WL.vS hS hE (runs_plain rfl) (Gives.p hE rfl) rfl ?_; clear hE a; intro a hE
  obtain ⟨q51, hq52, hr⟩ := bindS hr
  have hc_ := MathBitsLen64_ok hS  hq52
  refine WL.fnq hE (hc_) (runs_plain rfl) bd136 rfl rfl rfl ?_
  clear hE hS hc_; rintro e w ⟨rfl, hS⟩; refine ⟨_, rfl, ?_⟩; clear a; intro a hE
  refine WL.vS hS hE (runs_plain rfl) (Gives.p hE rfl) rfl ?_; clear hE a; intro a hE
  refine WL.nil ?_
  refine W.ret ?_
  refine finG (fn := Tryd.f95) (rs := [.tmp 2]) (vs := [_]) hE rfl ⟨rfl, trivial⟩ ?_
  obtain rfl := Option.some.inj hr
  exact ⟨rfl, hS⟩
set_option maxHeartbeats 8000000 in
theorem CmpisNaNint_ok  {w : World} {s : Sg} {R : List HP} {x0 : Int} (hS : St w s (R))  {r : Bool} (hr : CmpisNaNint x0 = r) :
    Calls Tryd.prog 101 [.int .i64 x0].toArray w (fun e w => e = .returned (.bool r) ∧ St w s (R)) := by
  refine enter Tryd.func101 rfl rfl rfl fun a hE => ?_
  rw [CmpisNaNint] at hr
  refine W.seq ?_
  refine W.region ?_
  refine WL.vS hS hE (runs_plain rfl) (Gives.p hE rfl) rfl ?_; clear hE a; intro a hE
  refine WL.nil ?_
  refine W.seq ?_
  refine W.region ?_
  refine WL.vS hS hE (runs_plain rfl) (Gives.p hE rfl) rfl ?_; clear hE a; intro a hE
  refine WL.vS hS hE (runs_plain rfl) (Gives.p hE rfl) rfl ?_; clear hE a; intro a hE
  refine WL.vS hS hE (runs_plain rfl) (Gives.p hE rfl) rfl ?_; clear hE a; intro a hE
  refine WL.vS hS hE (runs_plain rfl) (Gives.p hE rfl) rfl ?_; clear hE a; intro a hE
  refine WL.nil ?_
  refine W.ret ?_
  refine finG (fn := Tryd.f101) (rs := [.tmp 2]) (vs := [_]) hE rfl ⟨rfl, trivial⟩ ?_
  subst hr
  exact ⟨rfl, hS⟩
set_option maxHeartbeats 8000000 in
theorem CmpCompareint_ok  {w : World} {s : Sg} {R : List HP} {x0 : Int} {x1 : Int} (hS : St w s (R))  {r : Int} (hr : CmpCompareint x0 x1 = r) :
    Calls Tryd.prog 54 [.int .i64 x0, .int .i64 x1].toArray w (fun e w => e = .returned (.int .i64 r) ∧ St w s (R)) := by
  refine enter Tryd.func54 rfl rfl rfl fun a hE => ?_
  rw [CmpCompareint] at hr
  refine W.seq ?_
  refine W.region ?_
  refine WL.vS hS hE (runs_plain rfl) (Gives.p hE rfl) rfl ?_; clear hE a; intro a hE
  refine WL.nil ?_
  refine W.seq ?_
  refine W.region ?_
  refine WL.vS hS hE (runs_plain rfl) (Gives.p hE rfl) rfl ?_; clear hE a; intro a hE
  refine WL.fnq hE (CmpisNaNint_ok hS  rfl (r := CmpisNaNint x0)) (runs_plain rfl) bd101 rfl rfl rfl ?_
  clear hE hS; rintro e w ⟨rfl, hS⟩; refine ⟨_, rfl, ?_⟩; clear a; intro a hE
  refine WL.vS hS hE (runs_plain rfl) (Gives.p hE rfl) rfl ?_; clear hE a; intro a hE
  refine WL.nil ?_
  refine W.seq ?_
  refine W.region ?_
  refine WL.vS hS hE (runs_plain rfl) (Gives.p hE rfl) rfl ?_; clear hE a; intro a hE
  refine WL.fnq hE (CmpisNaNint_ok hS  rfl (r := CmpisNaNint x1)) (runs_plain rfl) bd101 rfl rfl rfl ?_
  clear hE hS; rintro e w ⟨rfl, hS⟩; refine ⟨_, rfl, ?_⟩; clear a; intro a hE
  refine WL.vS hS hE (runs_plain rfl) (Gives.p hE rfl) rfl ?_; clear hE a; intro a hE
  refine WL.nil ?_
  refine W.seq ?_
  refine W.seq ?_
  refine W.region ?_
  refine WL.vS hS hE (runs_plain rfl) (Gives.p hE rfl) rfl ?_; clear hE a; intro a hE
  refine WL.nil ?_
  refine W.cond hE rfl (fun hc51 => ?_) (fun hc51 => ?_)
  · replace hr := iteT hc51 hr
    refine W.seq ?_
    refine W.seq ?_
    refine W.region ?_
    refine WL.vS hS hE (runs_plain rfl) (Gives.p hE rfl) rfl ?_; clear hE a; intro a hE
    refine WL.nil ?_
    refine W.cond hE rfl (fun hc52 => ?_) (fun hc52 => ?_)
    · replace hr := iteT hc52 hr
      refine W.seq ?_
      refine W.region ?_
      refine WL.vS hS hE (runs_plain rfl) (Gives.p hE rfl) rfl ?_; clear hE a; intro a hE
      refine WL.nil ?_
      refine W.ret ?_
      refine finG (fn := Tryd.f54) (rs := [.tmp 4]) (vs := [_]) hE rfl ⟨rfl, trivial⟩ ?_
      subst hr
      exact ⟨rfl, hS⟩
    · replace hr := iteF hc52 hr
      refine W.skip ?_
      refine W.seq ?_
      refine W.region ?_
      refine WL.vS hS hE (runs_plain rfl) (Gives.p hE rfl) rfl ?_; clear hE a; intro a hE
      refine WL.nil ?_
      refine W.ret ?_
      refine finG (fn := Tryd.f54) (rs := [.tmp 4]) (vs := [_]) hE rfl ⟨rfl, trivial⟩ ?_
      subst hr
      exact ⟨rfl, hS⟩
  · replace hr := iteF hc51 hr
    refine W.skip ?_
    refine W.seq ?_
    refine W.seq ?_
    refine W.region ?_
    refine WL.vS hS hE (runs_plain rfl) (Gives.p hE rfl) rfl ?_; clear hE a; intro a hE
    refine WL.nil ?_
    refine W.cond hE rfl (fun hc53 => ?_) (fun hc53 => ?_)
    · replace hr := iteT hc53 hr
      refine W.seq ?_
      refine W.region ?_
      refine WL.vS hS hE (runs_plain rfl) (Gives.p hE rfl) rfl ?_; clear hE a; intro a hE
      refine WL.nil ?_
      refine W.ret ?_
      refine finG (fn := Tryd.f54) (rs := [.tmp 4]) (vs := [_]) hE rfl ⟨rfl, trivial⟩ ?_
      subst hr
      exact ⟨rfl, hS⟩
    · replace hr := iteF hc53 hr
      refine W.skip ?_
      refine W.seq ?_
      refine W.seq ?_
      refine W.region ?_
      refine WL.vS hS hE (runs_plain rfl) (Gives.p hE rfl) rfl ?_; clear hE a; intro a hE
      refine WL.vS hS hE (runs_plain rfl) (Gives.p hE rfl) rfl ?_; clear hE a; intro a hE
      refine WL.vS hS hE (runs_plain rfl) (Gives.p hE rfl) rfl ?_; clear hE a; intro a hE
      refine WL.nil ?_
      refine W.cond hE rfl (fun hc54 => ?_) (fun hc54 => ?_)
      · replace hr := iteT hc54 hr
        refine W.seq ?_
        refine W.region ?_
        refine WL.vS hS hE (runs_plain rfl) (Gives.p hE rfl) rfl ?_; clear hE a; intro a hE
        refine WL.nil ?_
        refine W.ret ?_
        refine finG (fn := Tryd.f54) (rs := [.tmp 4]) (vs := [_]) hE rfl ⟨rfl, trivial⟩ ?_
        subst hr
        exact ⟨rfl, hS⟩
      · replace hr := iteF hc54 hr
        refine W.skip ?_
        refine W.seq ?_
        refine W.seq ?_
        refine W.region ?_
        refine WL.vS hS hE (runs_plain rfl) (Gives.p hE rfl) rfl ?_; clear hE a; intro a hE
        refine WL.vS hS hE (runs_plain rfl) (Gives.p hE rfl) rfl ?_; clear hE a; intro a hE
        refine WL.vS hS hE (runs_plain rfl) (Gives.p hE rfl) rfl ?_; clear hE a; intro a hE
        refine WL.nil ?_
        refine W.cond hE rfl (fun hc55 => ?_) (fun hc55 => ?_)
        · replace hr := iteT hc55 hr
          refine W.seq ?_
          refine W.region ?_
          refine WL.vS hS hE (runs_plain rfl) (Gives.p hE rfl) rfl ?_; clear hE a; intro a hE
          refine WL.nil ?_
          refine W.ret ?_
          refine finG (fn := Tryd.f54) (rs := [.tmp 4]) (vs := [_]) hE rfl ⟨rfl, trivial⟩ ?_
          subst hr
          exact ⟨rfl, hS⟩
        · replace hr := iteF hc55 hr
          refine W.skip ?_
          refine W.seq ?_
          refine W.region ?_
          refine WL.vS hS hE (runs_plain rfl) (Gives.p hE rfl) rfl ?_; clear hE a; intro a hE
          refine WL.nil ?_
          refine W.ret ?_
          refine finG (fn := Tryd.f54) (rs := [.tmp 4]) (vs := [_]) hE rfl ⟨rfl, trivial⟩ ?_
          subst hr
          exact ⟨rfl, hS⟩
set_option maxHeartbeats 8000000 in
theorem CmpOrint_ok  {w : World} {s : Sg} {R : List HP} {x0 : List Int} {a0 : Option Addr} {c0 : Nat} (hS : St w s (R)) (h0 : Sl 1 (RI .i64) s a0 c0 x0) {r : Int} (hr : CmpOrint x0 = r) :
    Calls Tryd.prog 53 [.slice a0 x0.length c0].toArray w (fun e w => e = .returned (.int .i64 r) ∧ St w s (R)) := by
  refine enter Tryd.func53 rfl rfl rfl fun a hE => ?_
  rw [CmpOrint] at hr
  refine W.seq ?_
  refine W.region ?_
  refine WL.vS hS hE (runs_plain rfl) (Gives.p hE rfl) rfl ?_; clear hE a; intro a hE
  refine WL.nil ?_
  refine W.seq ?_
  refine W.region ?_
  refine WL.vS hS hE (runs_plain rfl) (Gives.p hE rfl) rfl ?_; clear hE a; intro a hE
  refine WL.nil ?_
  refine W.seq ?_
  refine W.seq ?_
  refine W.region ?_
  refine WL.vS hS hE (runs_plain rfl) (Gives.p hE rfl) rfl ?_; clear hE a; intro a hE
  refine WL.vS hS hE (runs_plain rfl) (Gives.len hE rfl sl45) rfl ?_; clear hE a; intro a hE
  refine WL.vS hS hE (runs_plain rfl) (Gives.p hE rfl) rfl ?_; clear hE a; intro a hE
  refine WL.nil ?_
  obtain ⟨q52, hq51, hr⟩ := bndS hr
  refine W.cut (fun a w => (.next ()) = q52 ∧ Rep a 18 [(3, .int .i64 0)] ∧ St w s (R)) ?_ ?_
  · refine W.block ?_
    refine W.loop (fun m a w => ∃ (rest55 : List Int) (k53 : Nat), rest55.length = m ∧ x0.drop k53 = rest55 ∧ CmpOrint.loop1 rest55 = q52 ∧ Rep a 18 [(3, .int .i64 0), (6, .slice a0 x0.length c0), (7, .int .i64 ((x0).length : Int)), (8, .int .i64 ((k53 : Nat) : Int))] ∧ St w s (R)) (m := x0.length) ⟨x0, 0, rfl, rfl, hq51, hE.pick _ ⟨rfl, rfl, rfl, rfl, trivial⟩, hS⟩ ?_
    clear hE hS a w hq51; rintro m59 a w ⟨rest55, k53, rfl, hd56, hq51, hE, hS⟩
    refine W.gen fun K62 hK62 => ?_
    rcases rest55 with _ | ⟨x54, rest55⟩
    · have hlt57 := drop_nil hd56
      refine W.seq ?_
      refine W.region ?_
      refine WL.vS hS hE (runs_plain rfl) (Gives.p hE rfl) rfl ?_; clear hE a; intro a hE
      refine WL.nil ?_
      refine W.seq ?_
      refine W.condF hE rfl (decide_eq_false (by omega)) ?_
      subst hK62
      refine W.exit rfl ?_
      exact ⟨hq51, hE.pick _ ⟨rfl, trivial⟩, hS⟩
    · obtain ⟨hlt57, hx58, hd56⟩ := drop_cons hd56
      rw [CmpOrint.loop1] at hq51
      refine W.seq ?_
      refine W.region ?_
      refine WL.vS hS hE (runs_plain rfl) (Gives.p hE rfl) rfl ?_; clear hE a; intro a hE
      refine WL.nil ?_
      refine W.seq ?_
      refine W.condT hE rfl (decide_eq_true (by omega)) ?_
      refine W.skip ?_
      refine W.seq ?_
      refine W.block ?_
      refine W.seq ?_
      refine W.region ?_
      obtain ⟨cs63, hl64, hR65, hat66⟩ := h0.at hx58
      subst hR65
      refine WL.vS hS hE (runs_plain rfl) (Gives.idx hE k53 rfl rfl sl45 rfl hlt57 (h0.aok hlt57)) rfl ?_; clear hE a; intro a hE
      refine WL.vS hS hE (runs_plain rfl) (Gives.load1 hE rfl (fun w h => hat66 w _ h) ty3) rfl ?_; clear hE a; intro a hE
      refine WL.vS hS hE (runs_plain rfl) (Gives.p hE rfl) rfl ?_; clear hE a; intro a hE
      refine WL.nil ?_
      refine W.seq ?_
      refine W.region ?_
      refine WL.vS hS hE (runs_plain rfl) (Gives.p hE rfl) rfl ?_; clear hE a; intro a hE
      refine WL.vS hS hE (runs_plain rfl) (Gives.p hE rfl) rfl ?_; clear hE a; intro a hE
      refine WL.vS hS hE (runs_plain rfl) (Gives.p hE rfl) rfl ?_; clear hE a; intro a hE
      refine WL.nil ?_
      refine W.cond hE rfl (fun hc67 => ?_) (fun hc67 => ?_)
      · replace hq51 := iteT hc67 hq51
        refine W.seq ?_
        refine W.region ?_
        refine WL.vS hS hE (runs_plain rfl) (Gives.p hE rfl) rfl ?_; clear hE a; intro a hE
        refine WL.vS hS hE (runs_plain rfl) (Gives.p hE rfl) rfl ?_; clear hE a; intro a hE
        refine WL.nil ?_
        refine W.ret ?_
        subst hK62
        rw [← hq51] at hr
        dsimp only at hr
        refine finG (fn := Tryd.f53) (rs := [.tmp 2]) (vs := [_]) hE rfl ⟨rfl, trivial⟩ ?_
        subst hr
        exact ⟨rfl, hS⟩
      · replace hq51 := iteF hc67 hq51
        refine W.skip ?_
        refine W.region ?_
        refine WL.vS hS hE (runs_plain rfl) (Gives.inc hE rfl (by have := h0.small; omega)) rfl ?_; clear hE a; intro a hE
        refine WL.vS hS hE (runs_plain rfl) (Gives.p hE rfl) rfl ?_; clear hE a; intro a hE
        refine WL.nil ?_
        subst hK62
        exact ⟨rest55.length, Nat.lt_succ_self _, rest55, k53 + 1, rfl, hd56, hq51, hE.pick _ ⟨rfl, rfl, rfl, rfl, trivial⟩, hS⟩
  · clear hE hS a w; rintro a w ⟨rfl, hE, hS⟩
    dsimp only at hr
    refine W.seq ?_
    refine W.region ?_
    refine WL.vS hS hE (runs_plain rfl) (Gives.p hE rfl) rfl ?_; clear hE a; intro a hE
    refine WL.vS hS hE (runs_plain rfl) (Gives.p hE rfl) rfl ?_; clear hE a; intro a hE
    refine WL.nil ?_
    refine W.ret ?_
    refine finG (fn := Tryd.f53) (rs := [.tmp 2]) (vs := [_]) hE rfl ⟨rfl, trivial⟩ ?_
    subst hr
    exact ⟨rfl, hS⟩
set_option maxHeartbeats 8000000 in
theorem GuidecomparePoints_ok  {w : World} {s : Sg} {R : List HP} {x0 : GuidePoint} {x1 : GuidePoint} (hS : St w s (R))  {r : Int} (hr : GuidecomparePoints x0 x1 = r) :
    Calls Tryd.prog 100 [.agg (GuidePoint.cells x0).toArray, .agg (GuidePoint.cells x1).toArray].toArray w (fun e w => e = .returned (.int .i64 r) ∧ St w s (R)) := by
  refine enter Tryd.func100 rfl rfl rfl fun a hE => ?_
  rw [GuidecomparePoints] at hr
  refine W.seq ?_
  refine W.region ?_
  refine WL.box hE hS (runs_plain rfl) rfl rfl rfl ?_; clear hE hS a w; intro b51 a w hE hS
  refine WL.box hE hS (runs_plain rfl) rfl rfl rfl ?_; clear hE hS a w; intro b52 a w hE hS
  refine WL.vS hS hE (runs_plain rfl) (Gives.p hE rfl) rfl ?_; clear hE a; intro a hE
  refine WL.nil ?_
  refine W.seq ?_
  refine W.gen fun K53 hK53 => ?_
  refine W.regionE (sel (fun w => St w s (pt b52 (.cells (GuidePoint.cells x1).toArray 62 (0, 0)) :: pt b51 (.cells (GuidePoint.cells x0).toArray 62 (0, 0)) :: R)) (fun w => St w s (pt b52 (.cells (GuidePoint.cells x1).toArray 62 (0, 0)) :: pt b51 (.cells (GuidePoint.cells x0).toArray 62 (0, 0)) :: R))) (fun b i => cond b ([0, 1, 2, 3, 4, 5, 6, 7, 8, 9, 10, 11, 12, 13, 14, 15, 16, 17].contains i) ([0, 1, 2, 3, 4, 5, 6, 7, 8, 9, 10, 11, 12, 13, 14, 15, 16, 17].contains i)) mixed ?_
  replace hS := hS.drew
  refine Rg.takeP (i := 0) hE rfl (by kernel_rfl) (runs_plain rfl) (Gives.fld hE rfl fl62_0) rfl (tw_sel (fun _ => hS) (fun _ => hS)) ?_; clear hE a; intro a hE
  have hT := tw_sel (A := fun w => St w s (pt b52 (.cells (GuidePoint.cells x1).toArray 62 (0, 0)) :: pt b51 (.cells (GuidePoint.cells x0).toArray 62 (0, 0)) :: R)) (B := fun w => St w s (pt b52 (.cells (GuidePoint.cells x1).toArray 62 (0, 0)) :: pt b51 (.cells (GuidePoint.cells x0).toArray 62 (0, 0)) :: R)) (w := _) (x := true) (y := true) (fun _ => hS) (fun _ => hS)
  have hF := hS; replace hS := hS
  refine Rg.take (i := 1) true rfl hE rfl (by kernel_rfl) (runs_plain rfl) (Gives.loadB hE 1 rfl rfl rfl ty3) rfl hT ?_; clear hE a; intro a hE
  replace hS := hF; clear hF hT
  refine Rg.takeP (i := 2) hE rfl (by kernel_rfl) (runs_plain rfl) (Gives.fld hE rfl fl62_0) rfl (tw_sel (fun _ => hS) (fun _ => hS)) ?_; clear hE a; intro a hE
  have hT := tw_sel (A := fun w => St w s (pt b52 (.cells (GuidePoint.cells x1).toArray 62 (0, 0)) :: pt b51 (.cells (GuidePoint.cells x0).toArray 62 (0, 0)) :: R)) (B := fun w => St w s (pt b52 (.cells (GuidePoint.cells x1).toArray 62 (0, 0)) :: pt b51 (.cells (GuidePoint.cells x0).toArray 62 (0, 0)) :: R)) (w := _) (x := true) (y := true) (fun _ => hS) (fun _ => hS)
  have hF := hS; replace hS := hS
  refine Rg.take (i := 3) true rfl hE rfl (by kernel_rfl) (runs_plain rfl) (Gives.loadB hE 0 rfl rfl rfl ty3) rfl hT ?_; clear hE a; intro a hE
  replace hS := hF; clear hF hT
  refine Rg.takeP (i := 5) hE rfl (by kernel_rfl) (runs_plain rfl) (Gives.fld hE rfl fl62_1) rfl (tw_sel (fun _ => hS) (fun _ => hS)) ?_; clear hE a; intro a hE
  have hT := tw_sel (A := fun w => St w s (pt b52 (.cells (GuidePoint.cells x1).toArray 62 (0, 0)) :: pt b51 (.cells (GuidePoint.cells x0).toArray 62 (0, 0)) :: R)) (B := fun w => St w s (pt b52 (.cells (GuidePoint.cells x1).toArray 62 (0, 0)) :: pt b51 (.cells (GuidePoint.cells x0).toArray 62 (0, 0)) :: R)) (w := _) (x := true) (y := true) (fun _ => hS) (fun _ => hS)
  have hF := hS; replace hS := hS
  refine Rg.take (i := 6) true rfl hE rfl (by kernel_rfl) (runs_plain rfl) (Gives.loadB hE 1 rfl rfl rfl ty3) rfl hT ?_; clear hE a; intro a hE
  replace hS := hF; clear hF hT
  refine Rg.takeP (i := 7) hE rfl (by kernel_rfl) (runs_plain rfl) (Gives.fld hE rfl fl62_1) rfl (tw_sel (fun _ => hS) (fun _ => hS)) ?_; clear hE a; intro a hE
  have hT := tw_sel (A := fun w => St w s (pt b52 (.cells (GuidePoint.cells x1).toArray 62 (0, 0)) :: pt b51 (.cells (GuidePoint.cells x0).toArray 62 (0, 0)) :: R)) (B := fun w => St w s (pt b52 (.cells (GuidePoint.cells x1).toArray 62 (0, 0)) :: pt b51 (.cells (GuidePoint.cells x0).toArray 62 (0, 0)) :: R)) (w := _) (x := true) (y := true) (fun _ => hS) (fun _ => hS)
  have hF := hS; replace hS := hS
  refine Rg.take (i := 8) true rfl hE rfl (by kernel_rfl) (runs_plain rfl) (Gives.loadB hE 0 rfl rfl rfl ty3) rfl hT ?_; clear hE a; intro a hE
  replace hS := hF; clear hF hT
  refine Rg.takeP (i := 10) hE rfl (by kernel_rfl) (runs_plain rfl) (Gives.fld hE rfl fl62_2) rfl (tw_sel (fun _ => hS) (fun _ => hS)) ?_; clear hE a; intro a hE
  have hT := tw_sel (A := fun w => St w s (pt b52 (.cells (GuidePoint.cells x1).toArray 62 (0, 0)) :: pt b51 (.cells (GuidePoint.cells x0).toArray 62 (0, 0)) :: R)) (B := fun w => St w s (pt b52 (.cells (GuidePoint.cells x1).toArray 62 (0, 0)) :: pt b51 (.cells (GuidePoint.cells x0).toArray 62 (0, 0)) :: R)) (w := _) (x := true) (y := true) (fun _ => hS) (fun _ => hS)
  have hF := hS; replace hS := hS
  refine Rg.take (i := 11) true rfl hE rfl (by kernel_rfl) (runs_plain rfl) (Gives.loadB hE 1 rfl rfl rfl ty3) rfl hT ?_; clear hE a; intro a hE
  replace hS := hF; clear hF hT
  refine Rg.takeP (i := 12) hE rfl (by kernel_rfl) (runs_plain rfl) (Gives.fld hE rfl fl62_2) rfl (tw_sel (fun _ => hS) (fun _ => hS)) ?_; clear hE a; intro a hE
  have hT := tw_sel (A := fun w => St w s (pt b52 (.cells (GuidePoint.cells x1).toArray 62 (0, 0)) :: pt b51 (.cells (GuidePoint.cells x0).toArray 62 (0, 0)) :: R)) (B := fun w => St w s (pt b52 (.cells (GuidePoint.cells x1).toArray 62 (0, 0)) :: pt b51 (.cells (GuidePoint.cells x0).toArray 62 (0, 0)) :: R)) (w := _) (x := true) (y := true) (fun _ => hS) (fun _ => hS)
  have hF := hS; replace hS := hS
  refine Rg.take (i := 13) true rfl hE rfl (by kernel_rfl) (runs_plain rfl) (Gives.loadB hE 0 rfl rfl rfl ty3) rfl hT ?_; clear hE a; intro a hE
  replace hS := hF; clear hF hT
  refine Rg.one (i := 4) true true rfl (by kernel_rfl) (by kernel_rfl) (by kernel_rfl) ?_
  refine WL.fnq hE (CmpCompareint_ok hS  rfl (r := CmpCompareint x0.Dep x1.Dep)) (runs_plain rfl) bd54 rfl rfl rfl ?_
  clear hE hS; rintro e w ⟨rfl, hS⟩; refine ⟨_, rfl, ?_⟩; clear a; intro a hE
  refine WL.nil ?_
  refine ⟨⟨fun _ => hS, fun _ => hS⟩, ?_⟩
  refine Rg.one (i := 9) true true rfl (by kernel_rfl) (by kernel_rfl) (by kernel_rfl) ?_
  refine WL.fnq hE (CmpCompareint_ok hS  rfl (r := CmpCompareint x0.Arr x1.Arr)) (runs_plain rfl) bd54 rfl rfl rfl ?_
  clear hE hS; rintro e w ⟨rfl, hS⟩; refine ⟨_, rfl, ?_⟩; clear a; intro a hE
  refine WL.nil ?_
  refine ⟨⟨fun _ => hS, fun _ => hS⟩, ?_⟩
  refine Rg.one (i := 14) true true rfl (by kernel_rfl) (by kernel_rfl) (by kernel_rfl) ?_
  refine WL.fnq hE (CmpCompareint_ok hS  rfl (r := CmpCompareint x0.Rides x1.Rides)) (runs_plain rfl) bd54 rfl rfl rfl ?_
  clear hE hS; rintro e w ⟨rfl, hS⟩; refine ⟨_, rfl, ?_⟩; clear a; intro a hE
  refine WL.nil ?_
  refine ⟨⟨fun _ => hS, fun _ => hS⟩, ?_⟩
  refine Rg.one (i := 15) true true rfl (by kernel_rfl) (by kernel_rfl) (by kernel_rfl) ?_
  refine WL.lit hE hS (e := 3) (es := 1) (vs := [(0, .int .i64 (CmpCompareint x0.Dep x1.Dep)), (1, .int .i64 (CmpCompareint x0.Arr x1.Arr)), (2, .int .i64 (CmpCompareint x0.Rides x1.Rides))]) (cs := [.int .i64 (CmpCompareint x0.Dep x1.Dep), .int .i64 (CmpCompareint x0.Arr x1.Arr), .int .i64 (CmpCompareint x0.Rides x1.Rides)]) (runs_plain rfl) rfl (by kernel_rfl) rfl ?_; clear hE hS a w; intro b54 a w hE hS
  replace hS := hS.ptVec (es := 1) (m := 3) rfl (by decide)
  have h56 : Ev 1 (RI .i64) s [.int .i64 (CmpCompareint x0.Dep x1.Dep), .int .i64 (CmpCompareint x0.Arr x1.Arr), .int .i64 (CmpCompareint x0.Rides x1.Rides)] [(CmpCompareint x0.Dep x1.Dep), (CmpCompareint x0.Arr x1.Arr), (CmpCompareint x0.Rides x1.Rides)] := (Ev.cons (c1 := [.int .i64 (CmpCompareint x0.Dep x1.Dep)]) rfl rfl (Ev.cons (c1 := [.int .i64 (CmpCompareint x0.Arr x1.Arr)]) rfl rfl (Ev.cons (c1 := [.int .i64 (CmpCompareint x0.Rides x1.Rides)]) rfl rfl (Ev.nil))))
  have hF := hS.fixD RI.mono 0 rfl h56 (rfl); clear hS; obtain ⟨s57, hle58, hS, h59⟩ := hF
  refine WL.nil ?_
  refine ⟨⟨fun _ => (St.down hle58 hS), fun _ => (St.down hle58 hS)⟩, ?_⟩
  refine Rg.one (i := 16) true true rfl (by kernel_rfl) (by kernel_rfl) (by kernel_rfl) ?_
  refine WL.fnq hE (CmpOrint_ok hS h59 rfl (r := CmpOrint [(CmpCompareint x0.Dep x1.Dep), (CmpCompareint x0.Arr x1.Arr), (CmpCompareint x0.Rides x1.Rides)])) (runs_plain rfl) bd53 rfl rfl rfl ?_
  clear hE hS; rintro e w ⟨rfl, hS⟩; refine ⟨_, rfl, ?_⟩; clear a; intro a hE
  refine WL.nil ?_
  refine ⟨⟨fun _ => (St.down hle58 hS), fun _ => (St.down hle58 hS)⟩, ?_⟩
  refine Rg.takeP (i := 17) hE rfl (by kernel_rfl) (runs_plain rfl) (Gives.p hE rfl) rfl (tw_sel (fun _ => (St.down hle58 hS)) (fun _ => (St.down hle58 hS))) ?_; clear hE a; intro a hE
  refine Rg.done (by kernel_rfl) ?_
  subst hK53
  refine W.ret ?_
  refine finG (fn := Tryd.f100) (rs := [.tmp 4]) (vs := [_]) hE rfl ⟨rfl, trivial⟩ ?_
  subst hr
  replace hS := hS.tail
  replace hS := hS.tail
  exact ⟨rfl, (hS.down hle58)⟩
set_option maxHeartbeats 8000000 in
theorem SlicesinsertionSortCmpFuncguidePoint_v1_ok {fu : Nat}  {w : World} {s : Sg} {R : List HP} {x0 : List GuidePoint} {a_v0 : Option Addr} {c_v0 n_v0 : Nat} {cs_v0 : List Value} {x1 : Int} {x2 : Int} (hS : St w s (vecC 62 3 a_v0 c_v0 n_v0 cs_v0 :: R)) (h_v0 : Ev 3 RGuidePoint s cs_v0 x0) (hn_v0 : x0.length = n_v0) {r : (List GuidePoint)} (hr : SlicesinsertionSortCmpFuncguidePoint_v1 fu x0 x1 x2 = some r) :
    Calls Tryd.prog 141 [.slice a_v0 n_v0 c_v0, .int .i64 x1, .int .i64 x2, .func (.func 100) #[] #[]].toArray w (fun e w => ∃ (cs55 : List Value), e = .returned (.tuple #[]) ∧ Ev 3 RGuidePoint s cs55 r ∧ r.length = n_v0 ∧ St w s (vecC 62 3 a_v0 c_v0 n_v0 cs55 :: R)) := by
  refine enter Tryd.func141 rfl rfl rfl fun a hE => ?_
  rw [SlicesinsertionSortCmpFuncguidePoint_v1] at hr
  subst hn_v0
  refine W.seq ?_
  refine W.region ?_
  refine WL.vS hS hE (runs_plain rfl) (Gives.p hE rfl) rfl ?_; clear hE a; intro a hE
  refine WL.vS hS hE (runs_plain rfl) (Gives.p hE rfl) rfl ?_; clear hE a; intro a hE
  refine WL.vS hS hE (runs_plain rfl) (Gives.p hE rfl) rfl ?_; clear hE a; intro a hE
  refine WL.nil ?_
  obtain ⟨q58, hq57, hr⟩ := bindS hr
  refine W.cut (fun a w => ∃ (q63 : Int), ∃ (q64 : List GuidePoint), ∃ (cs68 : List Value), (q63, q64) = q58 ∧ Ev 3 RGuidePoint s cs68 q64 ∧ q64.length = x0.length ∧ Rep a 53 [] ∧ St w s (vecC 62 3 a_v0 c_v0 x0.length cs68 :: R)) ?_ ?_
  · refine W.block ?_
    refine W.loop (fun m a w => ∃ (n59 : Nat), ∃ (q63 : Int), ∃ (q64 : List GuidePoint), ∃ (cs68 : List Value), n59 = m ∧ SlicesinsertionSortCmpFuncguidePoint_v1.loop1 x1 x2 fu n59 q63 q64 = some q58 ∧ Ev 3 RGuidePoint s cs68 q64 ∧ q64.length = x0.length ∧ Rep a 53 [(0, .slice a_v0 x0.length c_v0), (1, .int .i64 x1), (2, .int .i64 x2), (3, .func (.func 100) #[] #[]), (8, .int .i64 q63)] ∧ St w s (vecC 62 3 a_v0 c_v0 x0.length cs68 :: R)) (m := fu) ⟨fu, (w64 (x1 + 1)), x0, cs_v0, rfl, hq57, h_v0, (rfl), hE.pick _ ⟨rfl, rfl, rfl, rfl, rfl, trivial⟩, hS⟩ ?_
    clear hE hS a w hq57; rintro m60 a w ⟨n59, q63, q64, cs68, rfl, hq57, h67, hn69, hE, hS⟩
    refine W.gen fun K70 hK70 => ?_
    rcases n59 with _ | n59
    · rw [SlicesinsertionSortCmpFuncguidePoint_v1.loop1] at hq57; exact absurd hq57 (by simp)
    rw [SlicesinsertionSortCmpFuncguidePoint_v1.loop1] at hq57
    refine W.seq ?_
    refine W.seq ?_
    refine W.region ?_
    refine WL.vS hS hE (runs_plain rfl) (Gives.p hE rfl) rfl ?_; clear hE a; intro a hE
    refine WL.vS hS hE (runs_plain rfl) (Gives.p hE rfl) rfl ?_; clear hE a; intro a hE
    refine WL.vS hS hE (runs_plain rfl) (Gives.p hE rfl) rfl ?_; clear hE a; intro a hE
    refine WL.nil ?_
    refine W.cond hE rfl (fun hc71 => ?_) (fun hc71 => ?_)
    · replace hq57 := iteT hc71 hq57
      refine W.skip ?_
      refine W.seq ?_
      refine W.block ?_
      refine W.seq ?_
      refine W.region ?_
      refine WL.vS hS hE (runs_plain rfl) (Gives.p hE rfl) rfl ?_; clear hE a; intro a hE
      refine WL.vS hS hE (runs_plain rfl) (Gives.p hE rfl) rfl ?_; clear hE a; intro a hE
      refine WL.nil ?_
      obtain ⟨q73, hq72, hq57⟩ := bindS hq57
      refine W.cut (fun a w => ∃ (q78 : Int), ∃ (q79 : List GuidePoint), ∃ (cs83 : List Value), (q78, q79) = q73 ∧ Ev 3 RGuidePoint s cs83 q79 ∧ q79.length = x0.length ∧ Rep a 53 [(0, .slice a_v0 x0.length c_v0), (1, .int .i64 x1), (2, .int .i64 x2), (3, .func (.func 100) #[] #[]), (8, .int .i64 q63)] ∧ St w s (vecC 62 3 a_v0 c_v0 x0.length cs83 :: R)) ?_ ?_
      · refine W.block ?_
        refine W.loop (fun m a w => ∃ (n74 : Nat), ∃ (q78 : Int), ∃ (q79 : List GuidePoint), ∃ (cs83 : List Value), n74 = m ∧ SlicesinsertionSortCmpFuncguidePoint_v1.loop2 x1 n74 q78 q79 = some q73 ∧ Ev 3 RGuidePoint s cs83 q79 ∧ q79.length = x0.length ∧ Rep a 53 [(0, .slice a_v0 x0.length c_v0), (1, .int .i64 x1), (2, .int .i64 x2), (3, .func (.func 100) #[] #[]), (8, .int .i64 q63), (9, .int .i64 q78)] ∧ St w s (vecC 62 3 a_v0 c_v0 x0.length cs83 :: R)) (m := fu) ⟨fu, q63, q64, cs68, rfl, hq72, h67, hn69, hE.pick _ ⟨rfl, rfl, rfl, rfl, rfl, rfl, trivial⟩, hS⟩ ?_
        clear hE hS a w hq72; rintro m75 a w ⟨n74, q78, q79, cs83, rfl, hq72, h82, hn84, hE, hS⟩
        refine W.gen fun K85 hK85 => ?_
        rcases n74 with _ | n74
        · rw [SlicesinsertionSortCmpFuncguidePoint_v1.loop2] at hq72; exact absurd hq72 (by simp)
        rw [SlicesinsertionSortCmpFuncguidePoint_v1.loop2] at hq72
        refine W.seq ?_
        refine W.seq ?_
        obtain ⟨q87, hq86, hq72⟩ := bindS hq72
        refine W.cut (fun a w => ∃ (q90 : Bool), q90 = q87 ∧ Rep a 53 [(0, .slice a_v0 x0.length c_v0), (1, .int .i64 x1), (2, .int .i64 x2), (3, .func (.func 100) #[] #[]), (8, .int .i64 q63), (9, .int .i64 q78), (34, .bool q90)] ∧ St w s (vecC 62 3 a_v0 c_v0 x0.length cs83 :: R)) ?_ ?_
        · refine W.gen fun K91 hK91 => ?_
          refine W.regionQ (C := fun w => St w s (vecC 62 3 a_v0 c_v0 x0.length cs83 :: R)) mixed (by kernel_rfl) hS.drew ?_
          refine QL.v hE (runs_plain rfl) (Gives.p hE rfl) rfl ?_; clear hE a; intro a hE
          refine QL.v hE (runs_plain rfl) (Gives.p hE rfl) rfl ?_; clear hE a; intro a hE
          refine QL.v hE (runs_plain rfl) (Gives.p hE rfl) rfl ?_; clear hE a; intro a hE
          refine QL.v hE (runs_plain rfl) (Gives.p hE rfl) rfl ?_; clear hE a; intro a hE
          rcases Bool.eq_false_or_eq_true (decide (q78 > x1)) with hg92 | hg92
          · replace hq86 := iteT hg92 hq86
            refine QL.v hE (runs_if hE rfl rfl rfl hg92) (Gives.p hE rfl) rfl ?_; clear hE a; intro a hE
            refine QL.v hE (runs_if hE rfl rfl rfl hg92) (Gives.p hE rfl) rfl ?_; clear hE a; intro a hE
            refine QL.v hE (runs_if hE rfl rfl rfl hg92) (Gives.p hE rfl) rfl ?_; clear hE a; intro a hE
            obtain ⟨x93, hx94, hq86⟩ := bindS hq86
            obtain ⟨hi95, hlt96, hy97⟩ := gx_some hx94
            obtain ⟨vs98, hl99, hR100, hd101, hget102⟩ := h82.at hy97
            subst hR100
            refine QL.v hE (runs_if hE rfl rfl rfl hg92) (Gives.idx hE ((q78).toNat) rfl rfl sl55 hi95 (by have := hn84; omega) (hS.vecAok 0 rfl (by have := hn84; omega : (q78).toNat < x0.length))) rfl ?_; clear hE a; intro a hE
            refine QL.v hE (runs_if hE rfl rfl rfl hg92) (Gives.loadA hE rfl (fun w h => St.vecSees h 0 rfl ((q78).toNat * 3) _ hget102) ty62) rfl ?_; clear hE a; intro a hE
            refine QL.v hE (runs_if hE rfl rfl rfl hg92) (Gives.p hE rfl) rfl ?_; clear hE a; intro a hE
            refine QL.v hE (runs_if hE rfl rfl rfl hg92) (Gives.p hE rfl) rfl ?_; clear hE a; intro a hE
            refine QL.v hE (runs_if hE rfl rfl rfl hg92) (Gives.p hE rfl) rfl ?_; clear hE a; intro a hE
            obtain ⟨x103, hx104, hq86⟩ := bindS hq86
            obtain ⟨hi105, hlt106, hy107⟩ := gx_some hx104
            obtain ⟨vs108, hl109, hR110, hd111, hget112⟩ := h82.at hy107
            subst hR110
            refine QL.v hE (runs_if hE rfl rfl rfl hg92) (Gives.idx hE ((w64 (q78 - 1)).toNat) rfl rfl sl55 hi105 (by have := hn84; omega) (hS.vecAok 0 rfl (by have := hn84; omega : (w64 (q78 - 1)).toNat < x0.length))) rfl ?_; clear hE a; intro a hE
            refine QL.v hE (runs_if hE rfl rfl rfl hg92) (Gives.loadA hE rfl (fun w h => St.vecSees h 0 rfl ((w64 (q78 - 1)).toNat * 3) _ hget112) ty62) rfl ?_; clear hE a; intro a hE
            refine QL.fnw hE (fun w hS => GuidecomparePoints_ok hS  rfl (r := GuidecomparePoints x93 x103)) rfl (runs_if hE rfl rfl rfl hg92) bd100 rfl rfl rfl ?_; clear hE a; intro a hE
            refine QL.v hE (runs_if hE rfl rfl rfl hg92) (Gives.p hE rfl) rfl ?_; clear hE a; intro a hE
            refine QL.v hE (runs_plain rfl) (Gives.pickT hE rfl hg92 rfl) rfl ?_; clear hE a; intro a hE
            refine QL.nil ?_; clear hS w; intro w hS
            subst hK91
            exact ⟨decide ((GuidecomparePoints x93 x103) < 0), Option.some.inj hq86, hE.pick _ ⟨rfl, rfl, rfl, rfl, rfl, rfl, rfl, trivial⟩, hS⟩
          · replace hq86 := iteF hg92 hq86
            refine QL.no hE (runs_not hE rfl rfl rfl (by rw [hg92]; decide)) rfl ?_; clear hE a; intro a hE
            refine QL.no hE (runs_not hE rfl rfl rfl (by rw [hg92]; decide)) rfl ?_; clear hE a; intro a hE
            refine QL.no hE (runs_not hE rfl rfl rfl (by rw [hg92]; decide)) rfl ?_; clear hE a; intro a hE
            refine QL.no hE (runs_not hE rfl rfl rfl (by rw [hg92]; decide)) rfl ?_; clear hE a; intro a hE
            refine QL.no hE (runs_not hE rfl rfl rfl (by rw [hg92]; decide)) rfl ?_; clear hE a; intro a hE
            refine QL.no hE (runs_not hE rfl rfl rfl (by rw [hg92]; decide)) rfl ?_; clear hE a; intro a hE
            refine QL.no hE (runs_not hE rfl rfl rfl (by rw [hg92]; decide)) rfl ?_; clear hE a; intro a hE
            refine QL.no hE (runs_not hE rfl rfl rfl (by rw [hg92]; decide)) rfl ?_; clear hE a; intro a hE
            refine QL.no hE (runs_not hE rfl rfl rfl (by rw [hg92]; decide)) rfl ?_; clear hE a; intro a hE
            refine QL.no hE (runs_not hE rfl rfl rfl (by rw [hg92]; decide)) rfl ?_; clear hE a; intro a hE
            refine QL.no hE (runs_not hE rfl rfl rfl (by rw [hg92]; decide)) rfl ?_; clear hE a; intro a hE
            refine QL.no hE (runs_not hE rfl rfl rfl (by rw [hg92]; decide)) rfl ?_; clear hE a; intro a hE
            refine QL.v hE (runs_plain rfl) (Gives.pickF hE rfl hg92 rfl) rfl ?_; clear hE a; intro a hE
            refine QL.nil ?_; clear hS w; intro w hS
            subst hK91
            exact ⟨false, Option.some.inj hq86, hE.pick _ ⟨rfl, rfl, rfl, rfl, rfl, rfl, rfl, trivial⟩, hS⟩
        · clear hE hS a w; rintro a w ⟨q90, rfl, hE, hS⟩
          refine W.cond hE rfl (fun hc113 => ?_) (fun hc113 => ?_)
          · replace hq72 := iteT hc113 hq72
            refine W.skip ?_
            refine W.seq ?_
            refine W.block ?_
            refine W.gen fun K114 hK114 => ?_
            refine W.regionE (sel (fun w => St w s (vecC 62 3 a_v0 c_v0 x0.length cs83 :: R)) (fun w => St w s (R))) (fun b i => cond b ([0, 1, 2, 3, 4, 5, 6, 7, 8, 9, 10, 11, 12, 13, 14, 16].contains i) ([0, 1, 2, 3, 4, 5, 6, 7, 8, 9, 10, 11, 12, 13, 14, 15, 16, 17].contains i)) mixed ?_
            replace hS := hS.drew
            refine Rg.takeP (i := 0) hE rfl (by kernel_rfl) (runs_plain rfl) (Gives.p hE rfl) rfl (tw_sel (fun _ => hS) (fun _ => (hS.tail))) ?_; clear hE a; intro a hE
            refine Rg.takeP (i := 1) hE rfl (by kernel_rfl) (runs_plain rfl) (Gives.p hE rfl) rfl (tw_sel (fun _ => hS) (fun _ => (hS.tail))) ?_; clear hE a; intro a hE
            refine Rg.takeP (i := 2) hE rfl (by kernel_rfl) (runs_plain rfl) (Gives.p hE rfl) rfl (tw_sel (fun _ => hS) (fun _ => (hS.tail))) ?_; clear hE a; intro a hE
            refine Rg.takeP (i := 3) hE rfl (by kernel_rfl) (runs_plain rfl) (Gives.p hE rfl) rfl (tw_sel (fun _ => hS) (fun _ => (hS.tail))) ?_; clear hE a; intro a hE
            refine Rg.takeP (i := 4) hE rfl (by kernel_rfl) (runs_plain rfl) (Gives.p hE rfl) rfl (tw_sel (fun _ => hS) (fun _ => (hS.tail))) ?_; clear hE a; intro a hE
            refine Rg.takeP (i := 5) hE rfl (by kernel_rfl) (runs_plain rfl) (Gives.p hE rfl) rfl (tw_sel (fun _ => hS) (fun _ => (hS.tail))) ?_; clear hE a; intro a hE
            refine Rg.takeP (i := 6) hE rfl (by kernel_rfl) (runs_plain rfl) (Gives.p hE rfl) rfl (tw_sel (fun _ => hS) (fun _ => (hS.tail))) ?_; clear hE a; intro a hE
            refine Rg.takeP (i := 7) hE rfl (by kernel_rfl) (runs_plain rfl) (Gives.p hE rfl) rfl (tw_sel (fun _ => hS) (fun _ => (hS.tail))) ?_; clear hE a; intro a hE
            obtain ⟨x115, hx116, hq72⟩ := bindS hq72
            obtain ⟨hi117, hlt118, hy119⟩ := gx_some hx116
            obtain ⟨vs120, hl121, hR122, hd123, hget124⟩ := h82.at hy119
            subst hR122
            refine Rg.takeP (i := 8) hE rfl (by kernel_rfl) (runs_plain rfl) (Gives.idx hE ((w64 (q78 - 1)).toNat) rfl rfl sl55 hi117 (by have := hn84; omega) (hS.vecAok 0 rfl (by have := hn84; omega : (w64 (q78 - 1)).toNat < x0.length))) rfl (tw_sel (fun _ => hS) (fun _ => (hS.tail))) ?_; clear hE a; intro a hE
            have hT := tw_sel (A := fun w => St w s (vecC 62 3 a_v0 c_v0 x0.length cs83 :: R)) (B := fun w => St w s (R)) (w := _) (x := true) (y := true) (fun _ => hS) (fun _ => (hS.tail))
            have hF := hS; replace hS := hS
            refine Rg.take (i := 9) true rfl hE rfl (by kernel_rfl) (runs_plain rfl) (Gives.loadA hE rfl (fun w h => St.vecSees h 0 rfl ((w64 (q78 - 1)).toNat * 3) _ hget124) ty62) rfl hT ?_; clear hE a; intro a hE
            replace hS := hF; clear hF hT
            refine Rg.takeP (i := 10) hE rfl (by kernel_rfl) (runs_plain rfl) (Gives.p hE rfl) rfl (tw_sel (fun _ => hS) (fun _ => (hS.tail))) ?_; clear hE a; intro a hE
            refine Rg.takeP (i := 11) hE rfl (by kernel_rfl) (runs_plain rfl) (Gives.p hE rfl) rfl (tw_sel (fun _ => hS) (fun _ => (hS.tail))) ?_; clear hE a; intro a hE
            obtain ⟨x125, hx126, hq72⟩ := bindS hq72
            obtain ⟨hi127, hlt128, hy129⟩ := gx_some hx126
            obtain ⟨vs130, hl131, hR132, hd133, hget134⟩ := h82.at hy129
            subst hR132
            refine Rg.takeP (i := 12) hE rfl (by kernel_rfl) (runs_plain rfl) (Gives.idx hE ((q78).toNat) rfl rfl sl55 hi127 (by have := hn84; omega) (hS.vecAok 0 rfl (by have := hn84; omega : (q78).toNat < x0.length))) rfl (tw_sel (fun _ => hS) (fun _ => (hS.tail))) ?_; clear hE a; intro a hE
            have hT := tw_sel (A := fun w => St w s (vecC 62 3 a_v0 c_v0 x0.length cs83 :: R)) (B := fun w => St w s (R)) (w := _) (x := true) (y := true) (fun _ => hS) (fun _ => (hS.tail))
            have hF := hS; replace hS := hS
            refine Rg.take (i := 13) true rfl hE rfl (by kernel_rfl) (runs_plain rfl) (Gives.loadA hE rfl (fun w h => St.vecSees h 0 rfl ((q78).toNat * 3) _ hget134) ty62) rfl hT ?_; clear hE a; intro a hE
            replace hS := hF; clear hF hT
            obtain ⟨_, hx136, hq72⟩ := bindS hq72
            obtain ⟨h137, h138⟩ := ix_some hx136
            refine Rg.takeP (i := 14) hE rfl (by kernel_rfl) (runs_plain rfl) (Gives.idx hE ((q78).toNat) rfl rfl sl55 h137 (by have := hn84; omega) (hS.vecAok 0 rfl (by have := hn84; omega : (q78).toNat < x0.length))) rfl (tw_sel (fun _ => hS) (fun _ => (hS.tail))) ?_; clear hE a; intro a hE
            refine Rg.one (i := 15) false true rfl (by kernel_rfl) (by kernel_rfl) (by kernel_rfl) ?_
            obtain ⟨x140, hx141, hq72⟩ := bindS hq72
            refine WL.setD hE hS 0 rfl (runs_plain rfl) rfl rfl (vs := [.int .i64 x115.Dep, .int .i64 x115.Arr, .int .i64 x115.Rides]) rfl ty62 rfl rfl rfl h82 hn84 (sx_some hx141).1 hx141 rfl rfl ?_; clear hE hS a w; intro cs142 a w h143 hn144 hE hS
            refine WL.nil ?_
            refine ⟨⟨fun h => absurd h (by decide), fun _ => (hS.tail)⟩, ?_⟩
            obtain ⟨_, hx146, hq72⟩ := bindS hq72
            obtain ⟨h147, h148⟩ := ix_some hx146
            refine Rg.takeP (i := 16) hE rfl (by kernel_rfl) (runs_plain rfl) (Gives.idx hE ((w64 (q78 - 1)).toNat) rfl rfl sl55 h147 (by have := hn144; omega) (hS.vecAok 0 rfl (by have := hn144; omega : (w64 (q78 - 1)).toNat < x0.length))) rfl (tw_sel (fun h => absurd h (by decide)) (fun _ => (hS.tail))) ?_; clear hE a; intro a hE
            refine Rg.one (i := 17) false true rfl (by kernel_rfl) (by kernel_rfl) (by kernel_rfl) ?_
            obtain ⟨x150, hx151, hq72⟩ := bindS hq72
            refine WL.setD hE hS 0 rfl (runs_plain rfl) rfl rfl (vs := [.int .i64 x125.Dep, .int .i64 x125.Arr, .int .i64 x125.Rides]) rfl ty62 rfl rfl rfl h143 hn144 (sx_some hx151).1 hx151 rfl rfl ?_; clear hE hS a w; intro cs152 a w h153 hn154 hE hS
            refine WL.nil ?_
            refine ⟨⟨fun h => absurd h (by decide), fun _ => (hS.tail)⟩, ?_⟩
            refine Rg.done (by kernel_rfl) ?_
            subst hK114
            refine W.region ?_
            refine WL.vS hS hE (runs_plain rfl) (Gives.p hE rfl) rfl ?_; clear hE a; intro a hE
            refine WL.vS hS hE (runs_plain rfl) (Gives.p hE rfl) rfl ?_; clear hE a; intro a hE
            refine WL.vS hS hE (runs_plain rfl) (Gives.p hE rfl) rfl ?_; clear hE a; intro a hE
            refine WL.nil ?_
            subst hK85
            exact ⟨n74, Nat.lt_succ_self _, n74, (w64 (q78 - 1)), x150, cs152, rfl, hq72, h153, hn154, hE.pick _ ⟨rfl, rfl, rfl, rfl, rfl, rfl, trivial⟩, hS⟩
          · replace hq72 := iteF hc113 hq72
            subst hK85
            refine W.exit rfl ?_
            exact ⟨q78, q79, cs83, Option.some.inj hq72, h82, hn84, hE.pick _ ⟨rfl, rfl, rfl, rfl, rfl, trivial⟩, hS⟩
      · clear hE hS a w; rintro a w ⟨q78, q79, cs83, rfl, h82, hn84, hE, hS⟩
        dsimp only at hq57
        refine W.region ?_
        refine WL.vS hS hE (runs_plain rfl) (Gives.p hE rfl) rfl ?_; clear hE a; intro a hE
        refine WL.vS hS hE (runs_plain rfl) (Gives.p hE rfl) rfl ?_; clear hE a; intro a hE
        refine WL.vS hS hE (runs_plain rfl) (Gives.p hE rfl) rfl ?_; clear hE a; intro a hE
        refine WL.nil ?_
        subst hK70
        exact ⟨n59, Nat.lt_succ_self _, n59, (w64 (q63 + 1)), q79, cs83, rfl, hq57, h82, hn84, hE.pick _ ⟨rfl, rfl, rfl, rfl, rfl, trivial⟩, hS⟩
    · replace hq57 := iteF hc71 hq57
      subst hK70
      refine W.exit rfl ?_
      exact ⟨q63, q64, cs68, Option.some.inj hq57, h67, hn69, hE.pick _ trivial, hS⟩
  · clear hE hS a w; rintro a w ⟨q63, q64, cs68, rfl, h67, hn69, hE, hS⟩
    dsimp only at hr
    refine finG (fn := Tryd.f141) (rs := []) (vs := []) hE rfl trivial ?_
    obtain rfl := Option.some.inj hr
    exact ⟨cs68, rfl, h67, hn69, hS⟩
set_option maxHeartbeats 8000000 in
theorem SlicespdqsortCmpFuncguidePoint_v1_ok {fu : Nat}  {w : World} {s : Sg} {R : List HP} {x0 : List GuidePoint} {a_v0 : Option Addr} {c_v0 n_v0 : Nat} {cs_v0 : List Value} {x1 : Int} {x2 : Int} {x3 : Int} (hS : St w s (vecC 62 3 a_v0 c_v0 n_v0 cs_v0 :: R)) (h_v0 : Ev 3 RGuidePoint s cs_v0 x0) (hn_v0 : x0.length = n_v0) {r : (List GuidePoint)} (hr : SlicespdqsortCmpFuncguidePoint_v1 fu x0 x1 x2 x3 = some r) :
    Calls Tryd.prog 115 [.slice a_v0 n_v0 c_v0, .int .i64 x1, .int .i64 x2, .int .i64 x3, .func (.func 100) #[] #[]].toArray w (fun e w => ∃ (cs55 : List Value), e = .returned (.tuple #[]) ∧ Ev 3 RGuidePoint s cs55 r ∧ r.length = n_v0 ∧ St w s (vecC 62 3 a_v0 c_v0 n_v0 cs55 :: R)) := by
  refine enter Tryd.func115 rfl rfl rfl fun a hE => ?_
  rw [SlicespdqsortCmpFuncguidePoint_v1] at hr
  subst hn_v0
  refine W.seq ?_
  refine W.region ?_
  refine WL.vS hS hE (runs_plain rfl) (Gives.p hE rfl) rfl ?_; clear hE a; intro a hE
  refine WL.nil ?_
  refine W.seq ?_
  refine W.region ?_
  refine WL.vS hS hE (runs_plain rfl) (Gives.p hE rfl) rfl ?_; clear hE a; intro a hE
  refine WL.nil ?_
  obtain ⟨q58, hq57, hr⟩ := bindS hr
  refine W.cut (fun _ _ => False) ?_ ?_
  · refine W.block ?_
    refine W.loop (fun m a w => ∃ (n59 : Nat), ∃ (q63 : Int), ∃ (q64 : Int), ∃ (q65 : Int), ∃ (q66 : Bool), ∃ (q67 : Bool), ∃ (q68 : List GuidePoint), ∃ (cs72 : List Value), n59 = m ∧ SlicespdqsortCmpFuncguidePoint_v1.loop1 fu n59 q63 q64 q65 q66 q67 q68 = some q58 ∧ Ev 3 RGuidePoint s cs72 q68 ∧ q68.length = x0.length ∧ Rep a 148 [(0, .slice a_v0 x0.length c_v0), (1, .int .i64 q63), (2, .int .i64 q64), (3, .int .i64 q65), (4, .func (.func 100) #[] #[]), (10, .bool q66), (11, .bool q67)] ∧ St w s (vecC 62 3 a_v0 c_v0 x0.length cs72 :: R)) (m := fu) ⟨fu, x1, x2, x3, true, true, x0, cs_v0, rfl, hq57, h_v0, (rfl), hE.pick _ ⟨rfl, rfl, rfl, rfl, rfl, rfl, rfl, trivial⟩, hS⟩ ?_
    clear hE hS a w hq57; rintro m60 a w ⟨n59, q63, q64, q65, q66, q67, q68, cs72, rfl, hq57, h71, hn73, hE, hS⟩
    refine W.gen fun K74 hK74 => ?_
    rcases n59 with _ | n59
    · rw [SlicespdqsortCmpFuncguidePoint_v1.loop1] at hq57; exact absurd hq57 (by simp)
    rw [SlicespdqsortCmpFuncguidePoint_v1.loop1] at hq57
    refine W.block ?_
    refine W.seq ?_
    refine W.region ?_
    refine WL.vS hS hE (runs_plain rfl) (Gives.p hE rfl) rfl ?_; clear hE a; intro a hE
    refine WL.vS hS hE (runs_plain rfl) (Gives.p hE rfl) rfl ?_; clear hE a; intro a hE
    refine WL.vS hS hE (runs_plain rfl) (Gives.p hE rfl) rfl ?_; clear hE a; intro a hE
    refine WL.vS hS hE (runs_plain rfl) (Gives.p hE rfl) rfl ?_; clear hE a; intro a hE
    refine WL.nil ?_
    refine W.seq ?_
    refine W.seq ?_
    refine W.region ?_
    refine WL.vS hS hE (runs_plain rfl) (Gives.p hE rfl) rfl ?_; clear hE a; intro a hE
    refine WL.vS hS hE (runs_plain rfl) (Gives.p hE rfl) rfl ?_; clear hE a; intro a hE
    refine WL.nil ?_
    refine W.cond hE rfl (fun hc75 => ?_) (fun hc75 => ?_)
    · replace hq57 := iteT hc75 hq57
      refine W.seq ?_
      refine W.region ?_
      refine WL.vS hS hE (runs_plain rfl) (Gives.p hE rfl) rfl ?_; clear hE a; intro a hE
      refine WL.vS hS hE (runs_plain rfl) (Gives.p hE rfl) rfl ?_; clear hE a; intro a hE
      refine WL.vS hS hE (runs_plain rfl) (Gives.p hE rfl) rfl ?_; clear hE a; intro a hE
      refine WL.vS hS hE (runs_plain rfl) (Gives.p hE rfl) rfl ?_; clear hE a; intro a hE
      obtain ⟨q76, hq77, hq57⟩ := bindS hq57
      have hc_ := SlicesinsertionSortCmpFuncguidePoint_v1_ok hS h71 hn73 hq77
      refine WL.fnq hE (hc_) (runs_plain rfl) bd141 rfl rfl rfl ?_
      clear hE hS hc_; rintro e w ⟨cs78, rfl, h79, hn80, hS⟩; refine ⟨_, rfl, ?_⟩; clear a; intro a hE
      refine WL.nil ?_
      refine W.ret ?_
      subst hK74
      rw [← Option.some.inj hq57] at hr
      dsimp only at hr
      refine finG (fn := Tryd.f115) (rs := []) (vs := []) hE rfl trivial ?_
      obtain rfl := Option.some.inj hr
      exact ⟨cs78, rfl, h79, hn80, hS⟩
    · replace hq57 := iteF hc75 hq57
      refine W.skip ?_
      refine W.seq ?_
      refine W.seq ?_
      refine W.region ?_
      refine WL.vS hS hE (runs_plain rfl) (Gives.p hE rfl) rfl ?_; clear hE a; intro a hE
      refine WL.vS hS hE (runs_plain rfl) (Gives.p hE rfl) rfl ?_; clear hE a; intro a hE
      refine WL.nil ?_
      refine W.cond hE rfl (fun hc81 => ?_) (fun hc81 => ?_)
      · replace hq57 := iteT hc81 hq57
        refine W.seq ?_
        refine W.region ?_
        refine WL.vS hS hE (runs_plain rfl) (Gives.p hE rfl) rfl ?_; clear hE a; intro a hE
        refine WL.vS hS hE (runs_plain rfl) (Gives.p hE rfl) rfl ?_; clear hE a; intro a hE
        refine WL.vS hS hE (runs_plain rfl) (Gives.p hE rfl) rfl ?_; clear hE a; intro a hE
        refine WL.vS hS hE (runs_plain rfl) (Gives.p hE rfl) rfl ?_; clear hE a; intro a hE
        exact absurd hq57 (by simp)
      · replace hq57 := iteF hc81 hq57
        refine W.skip ?_
        refine W.seq ?_
        refine W.seq ?_
        refine W.region ?_
        refine WL.vS hS hE (runs_plain rfl) (Gives.p hE rfl) rfl ?_; clear hE a; intro a hE
        refine WL.vS hS hE (runs_plain rfl) (Gives.p hE rfl) rfl ?_; clear hE a; intro a hE
        refine WL.nil ?_
        obtain ⟨q83, hq82, hq57⟩ := bindS hq57
        refine W.cut (fun a w => ∃ (q86 : Int), ∃ (q87 : List GuidePoint), ∃ (cs91 : List Value), (q86, q87) = q83 ∧ Ev 3 RGuidePoint s cs91 q87 ∧ q87.length = x0.length ∧ Rep a 148 [(0, .slice a_v0 x0.length c_v0), (1, .int .i64 q63), (2, .int .i64 q64), (3, .int .i64 q86), (4, .func (.func 100) #[] #[]), (10, .bool q66), (11, .bool q67), (12, .int .i64 (w64 (q64 - q63)))] ∧ St w s (vecC 62 3 a_v0 c_v0 x0.length cs91 :: R)) ?_ ?_
        · refine W.gen fun K93 hK93 => ?_
          refine W.cond hE rfl (fun hc94 => ?_) (fun hc94 => ?_)
          · replace hq82 := iteT hc94 hq82
            refine W.seq ?_
            refine W.region ?_
            refine WL.vS hS hE (runs_plain rfl) (Gives.p hE rfl) rfl ?_; clear hE a; intro a hE
            refine WL.vS hS hE (runs_plain rfl) (Gives.p hE rfl) rfl ?_; clear hE a; intro a hE
            refine WL.vS hS hE (runs_plain rfl) (Gives.p hE rfl) rfl ?_; clear hE a; intro a hE
            refine WL.vS hS hE (runs_plain rfl) (Gives.p hE rfl) rfl ?_; clear hE a; intro a hE
            exact absurd hq82 (by simp)
          · replace hq82 := iteF hc94 hq82
            refine W.skip ?_
            subst hK93
            exact ⟨q65, q68, cs72, Option.some.inj hq82, h71, hn73, hE.pick _ ⟨rfl, rfl, rfl, rfl, rfl, rfl, rfl, rfl, trivial⟩, hS⟩
        · clear hE hS a w; rintro a w ⟨q86, q87, cs91, rfl, h90, hn92, hE, hS⟩
          dsimp only at hq57
          refine W.seq ?_
          refine W.region ?_
          refine WL.vS hS hE (runs_plain rfl) (Gives.p hE rfl) rfl ?_; clear hE a; intro a hE
          refine WL.vS hS hE (runs_plain rfl) (Gives.p hE rfl) rfl ?_; clear hE a; intro a hE
          refine WL.vS hS hE (runs_plain rfl) (Gives.p hE rfl) rfl ?_; clear hE a; intro a hE
          refine WL.vS hS hE (runs_plain rfl) (Gives.p hE rfl) rfl ?_; clear hE a; intro a hE
          exact absurd hq57 (by simp)
  · exact fun _ _ h => h.elim
set_option maxHeartbeats 8000000 in
theorem SlicesSortFuncLguidePoint_v1_ok {fu : Nat}  {w : World} {s : Sg} {R : List HP} {x0 : List GuidePoint} {a_v0 : Option Addr} {c_v0 n_v0 : Nat} {cs_v0 : List Value} (hS : St w s (vecC 62 3 a_v0 c_v0 n_v0 cs_v0 :: R)) (h_v0 : Ev 3 RGuidePoint s cs_v0 x0) (hn_v0 : x0.length = n_v0) {r : (List GuidePoint)} (hr : SlicesSortFuncLguidePoint_v1 fu x0 = some r) :
    Calls Tryd.prog 80 [.slice a_v0 n_v0 c_v0, .func (.func 100) #[] #[]].toArray w (fun e w => ∃ (cs55 : List Value), e = .returned (.tuple #[]) ∧ Ev 3 RGuidePoint s cs55 r ∧ r.length = n_v0 ∧ St w s (vecC 62 3 a_v0 c_v0 n_v0 cs55 :: R)) := by
  refine enter Tryd.func80 rfl rfl rfl fun a hE => ?_
  rw [SlicesSortFuncLguidePoint_v1] at hr
  subst hn_v0
  refine W.seq ?_
  refine W.region ?_
  refine WL.vS hS hE (runs_plain rfl) (Gives.p hE rfl) rfl ?_; clear hE a; intro a hE
  refine WL.vS hS hE (runs_plain rfl) (Gives.len hE rfl sl55) rfl ?_; clear hE a; intro a hE
  refine WL.vS hS hE (runs_plain rfl) (Gives.p hE rfl) rfl ?_; clear hE a; intro a hE
  refine WL.nil ?_
  refine W.region ?_
  refine WL.vS hS hE (runs_plain rfl) (Gives.p hE rfl) rfl ?_; clear hE a; intro a hE
  refine WL.vS hS hE (runs_plain rfl) (Gives.p hE rfl) rfl ?_; clear hE a; intro a hE
  refine WL.vS hS hE (runs_plain rfl) (Gives.p hE rfl) rfl ?_; clear hE a; intro a hE
  refine WL.vS hS hE (runs_plain rfl) (Gives.conv hE rfl hu3 ui154) rfl ?_; clear hE a; intro a hE
  obtain ⟨q57, hq58, hr⟩ := bindS hr
  have hc_ := MathBitsLen_ok hS  hq58
  refine WL.fnq hE (hc_) (runs_plain rfl) bd95 rfl rfl rfl ?_
  clear hE hS hc_; rintro e w ⟨rfl, hS⟩; refine ⟨_, rfl, ?_⟩; clear a; intro a hE
  refine WL.vS hS hE (runs_plain rfl) (Gives.p hE rfl) rfl ?_; clear hE a; intro a hE
  obtain ⟨q59, hq60, hr⟩ := bindS hr
  have hc_ := SlicespdqsortCmpFuncguidePoint_v1_ok hS h_v0 (rfl) hq60
  refine WL.fnq hE (hc_) (runs_plain rfl) bd115 rfl rfl rfl ?_
  clear hE hS hc_; rintro e w ⟨cs61, rfl, h62, hn63, hS⟩; refine ⟨_, rfl, ?_⟩; clear a; intro a hE
  refine WL.nil ?_
  refine finG (fn := Tryd.f80) (rs := []) (vs := []) hE rfl trivial ?_
  obtain rfl := Option.some.inj hr
  exact ⟨cs61, rfl, h62, hn63, hS⟩
set_option maxHeartbeats 8000000 in
theorem GuideNetpoints_ok {fu : Nat}  {w : World} {s : Sg} {R : List HP} {x0 : GuideNet} {a0_0 : Option Addr} {c0_0 : Nat} {a0_1 : Option Addr} {c0_1 : Nat} {x1 : Int} {x2 : Int} (hS : St w s (R)) (h0_0 : Sl 4 RApiTrain s a0_0 c0_0 x0.Day.Trains) (h0_1 : Sl 1 (RL 1 (RI .i64)) s a0_1 c0_1 x0.Day.Turns) {r : (List GuidePoint)} (hr : GuideNetpoints fu x0 x1 x2 = some r) :
    Calls Tryd.prog 49 [.agg [.slice a0_0 x0.Day.Trains.length c0_0, .slice a0_1 x0.Day.Turns.length c0_1, .int .i64 x0.least].toArray, .int .i64 x1, .int .i64 x2].toArray w (fun e w => ∃ (a0 : Option Addr) (c0 n0 : Nat) (cs0 : List Value) (t : Sg), e = .returned (.slice a0 n0 c0) ∧ s.Le t ∧ Ev 3 RGuidePoint t cs0 r ∧ r.length = n0 ∧ St w t (vecC 62 3 a0 c0 n0 cs0 :: R)) := by
  refine enter Tryd.func49 rfl rfl rfl fun a hE => ?_
  rw [GuideNetpoints] at hr
  replace hr := same_some hr; unfold GuideNetpoints.o at hr
  refine W.seq ?_
  refine W.region ?_
  refine WL.box hE hS (runs_plain rfl) rfl rfl rfl ?_; clear hE hS a w; intro b51 a w hE hS
  refine WL.vS hS hE (runs_plain rfl) (Gives.p hE rfl) rfl ?_; clear hE a; intro a hE
  refine WL.nil ?_
  refine W.seq ?_
  refine W.region ?_
  refine WL.mkMap (fk := keyI.f) (fv := In.cell) hE hS (runs_plain rfl) rfl ?_; clear hE hS a w; intro b52 a w hE hS
  replace hS := hS.msNew (Te := 47) (es := 3)
  refine WL.alloc hE hS (runs_plain rfl) zr156 rfl ?_; clear hE hS a w; intro b53 a w hE hS
  refine WL.storeI hE hS 0 rfl [.map (some b52)] (runs_plain rfl) rfl rfl rfl ty156 rfl rfl rfl rfl ?_; clear hE hS a w; intro a w hE hS
  refine WL.nil ?_
  refine W.seq ?_
  refine W.seq ?_
  refine W.region ?_
  refine WL.vS hS hE (runs_plain rfl) (Gives.loadBA hE 2 rfl rfl ty94) rfl ?_; clear hE a; intro a hE
  refine WL.vS hS hE (runs_plain rfl) (Gives.p hE rfl) rfl ?_; clear hE a; intro a hE
  obtain ⟨q54, hq55, hr⟩ := AllO.bnd hr
  have hc_ := GuideNetrides_ok hS h0_0 h0_1 hq55
  refine WL.fnq hE (hc_) (runs_plain rfl) bd72 rfl rfl rfl ?_
  clear hE hS hc_; rintro e w ⟨lb56, s58, rfl, hle59, h57, hS⟩; refine ⟨_, rfl, ?_⟩; clear a; intro a hE
  replace h0_0 := Sl.mono RApiTrain.mono hle59 h0_0
  replace h0_1 := Sl.mono (RL.mono RI.mono) hle59 h0_1
  refine WL.nil ?_
  refine W.block ?_
  obtain ⟨q61, hq60, hr⟩ := AllO.bind hr
  refine W.cut (fun a w => ∃ (q73 : List (Int × (List GuideRide))), ∃ (l74 : List (Int × In)), ∃ (D67 : Nat) (s71 : Sg), s58.Le s71 ∧ q73 = q61 ∧ MEv 3 RGuideRide s71 l74 q73 ∧ Rep a 96 [(2, .int .i64 x2), (3, .pointer (some ⟨b51, 0, none⟩)), (7, .pointer (some ⟨b53, 0, none⟩)), (4294967295, .int .i64 (D67 : Nat))] ∧ St w s71 (pt D67 (.deferred (some [])) :: pt b53 (.cells #[.map (some b52)] 156 (0, 0)) :: mapSC keyI.f 47 3 b52 l74 :: pt b51 (.cells #[.slice a0_0 x0.Day.Trains.length c0_0, .slice a0_1 x0.Day.Turns.length c0_1, .int .i64 x0.least] 94 (0, 0)) :: R)) ?_ ?_
  · refine W.rangeFunc (l := q54) (ps := [22]) [] rfl hE rfl hS rfl h57 bd113 (fun _ => rfl) rfl (fun pre64 s71 Q_ => ∃ (rest63 : List GuideRide), ∃ (q73 : List (Int × (List GuideRide))), ∃ (l74 : List (Int × In)), q54 = pre64 ++ rest63 ∧ GuideNetpoints.loop1 x0 rest63 q73 = some q61 ∧ s58.Le s71 ∧ MEv 3 RGuideRide s71 l74 q73 ∧ Q_ = pt b53 (.cells #[.map (some b52)] 156 (0, 0)) :: mapSC keyI.f 47 3 b52 l74 :: pt b51 (.cells #[.slice a0_0 x0.Day.Trains.length c0_0, .slice a0_1 x0.Day.Turns.length c0_1, .int .i64 x0.least] 94 (0, 0)) :: R) (fun _ _ _ => False) (fun _ _ _ h => (by obtain ⟨rest63, q73, l74, _, _, hle_, _⟩ := h; exact hle_)) ⟨q54, [], ([] : List (Int × In)), rfl, hq60, Sg.Le.refl _, (show MEv 3 RGuideRide s ([] : List (Int × In)) ([] : List (Int × List GuideRide)) from trivial), rfl⟩ (fun x62 (b76 : Nat) => [(3, .pointer (some ⟨b51, 0, none⟩)), (7, .pointer (some ⟨b53, 0, none⟩)), (8, .pointer (some ⟨b76, 0, none⟩))]) (fun x62 (b76 : Nat) => [pt b76 (.cells (GuideRide.cells x62).toArray 47 (0, 0))]) ?_ ?_ ?_ ?_
    · intro x62 a w t70 R L68 hE hS
      refine W.region ?_
      refine WL.alloc hE hS (runs_plain rfl) zr47 rfl ?_; clear hE hS a w; intro b76 a w hE hS
      refine WL.storeI hE hS 0 rfl (GuideRide.cells x62) (runs_plain rfl) rfl rfl rfl ty47 rfl rfl rfl rfl ?_; clear hE hS a w; intro a w hE hS
      refine WL.nil ?_
      exact ⟨b76, hE.pick _ ⟨rfl, rfl, rfl, trivial⟩, hS⟩
    · intro pre64 x62 b76 s71 Q_ T_ L68 a w hpre_ hI_ hE hS
      obtain ⟨rest63, q73, l74, hl65, hq60, hle72, h75, rfl⟩ := hI_
      obtain ⟨rest63, rfl⟩ := pre_next hl65 hpre_
      rw [GuideNetpoints.loop1] at hq60
      replace hS : St w s71 (pt b76 (.cells (GuideRide.cells x62).toArray 47 (0, 0)) :: pt b53 (.cells #[.map (some b52)] 156 (0, 0)) :: mapSC keyI.f 47 3 b52 l74 :: pt b51 (.cells #[.slice a0_0 x0.Day.Trains.length c0_0, .slice a0_1 x0.Day.Turns.length c0_1, .int .i64 x0.least] 94 (0, 0)) :: (R ++ T_)) := hS
      generalize hT77 : R ++ T_ = R at hS
      refine W.gen fun K78 hK78 => ?_
      replace h0_0 := Sl.mono RApiTrain.mono hle72 h0_0
      replace h0_1 := Sl.mono (RL.mono RI.mono) hle72 h0_1
      replace h57 := Iter.mono hle72 h57
      refine W.block ?_
      refine W.gen fun K79 hK79 => ?_
      refine W.regionE (sel (fun w => St w s71 (pt b76 (.cells (GuideRide.cells x62).toArray 47 (0, 0)) :: pt b53 (.cells #[.map (some b52)] 156 (0, 0)) :: mapSC keyI.f 47 3 b52 l74 :: pt b51 (.cells #[.slice a0_0 x0.Day.Trains.length c0_0, .slice a0_1 x0.Day.Turns.length c0_1, .int .i64 x0.least] 94 (0, 0)) :: R)) (fun w => St w s71 (pt b76 (.cells (GuideRide.cells x62).toArray 47 (0, 0)) :: pt b53 (.cells #[.map (some b52)] 156 (0, 0)) :: pt b51 (.cells #[.slice a0_0 x0.Day.Trains.length c0_0, .slice a0_1 x0.Day.Turns.length c0_1, .int .i64 x0.least] 94 (0, 0)) :: R))) (fun b i => cond b ([0, 1, 2, 3, 4, 5, 6, 7, 8, 9, 10, 11, 12].contains i) ([0, 1, 2, 3, 4, 5, 6, 7, 8, 9, 10, 11, 12, 13, 14].contains i)) mixed ?_
      replace hS := hS.drew
      have hT := tw_sel (A := fun w => St w s71 (pt b76 (.cells (GuideRide.cells x62).toArray 47 (0, 0)) :: pt b53 (.cells #[.map (some b52)] 156 (0, 0)) :: mapSC keyI.f 47 3 b52 l74 :: pt b51 (.cells #[.slice a0_0 x0.Day.Trains.length c0_0, .slice a0_1 x0.Day.Turns.length c0_1, .int .i64 x0.least] 94 (0, 0)) :: R)) (B := fun w => St w s71 (pt b76 (.cells (GuideRide.cells x62).toArray 47 (0, 0)) :: pt b53 (.cells #[.map (some b52)] 156 (0, 0)) :: pt b51 (.cells #[.slice a0_0 x0.Day.Trains.length c0_0, .slice a0_1 x0.Day.Turns.length c0_1, .int .i64 x0.least] 94 (0, 0)) :: R)) (w := _) (x := true) (y := true) (fun _ => hS) (fun _ => (hS.dropAt 2))
      have hF := hS; replace hS := (hS.dropAt 2)
      refine Rg.take (i := 0) false rfl hE rfl (by kernel_rfl) (runs_plain rfl) (Gives.loadB hE 1 rfl rfl rfl ty156) rfl hT ?_; clear hE a; intro a hE
      replace hS := hF; clear hF hT
      have hT := tw_sel (A := fun w => St w s71 (pt b76 (.cells (GuideRide.cells x62).toArray 47 (0, 0)) :: pt b53 (.cells #[.map (some b52)] 156 (0, 0)) :: mapSC keyI.f 47 3 b52 l74 :: pt b51 (.cells #[.slice a0_0 x0.Day.Trains.length c0_0, .slice a0_1 x0.Day.Turns.length c0_1, .int .i64 x0.least] 94 (0, 0)) :: R)) (B := fun w => St w s71 (pt b76 (.cells (GuideRide.cells x62).toArray 47 (0, 0)) :: pt b53 (.cells #[.map (some b52)] 156 (0, 0)) :: pt b51 (.cells #[.slice a0_0 x0.Day.Trains.length c0_0, .slice a0_1 x0.Day.Turns.length c0_1, .int .i64 x0.least] 94 (0, 0)) :: R)) (w := _) (x := true) (y := true) (fun _ => hS) (fun _ => (hS.dropAt 2))
      have hF := hS; replace hS := (hS.dropAt 2)
      refine Rg.take (i := 1) false rfl hE rfl (by kernel_rfl) (runs_plain rfl) (Gives.loadBA hE 2 rfl rfl ty94) rfl hT ?_; clear hE a; intro a hE
      replace hS := hF; clear hF hT
      have hT := tw_sel (A := fun w => St w s71 (pt b76 (.cells (GuideRide.cells x62).toArray 47 (0, 0)) :: pt b53 (.cells #[.map (some b52)] 156 (0, 0)) :: mapSC keyI.f 47 3 b52 l74 :: pt b51 (.cells #[.slice a0_0 x0.Day.Trains.length c0_0, .slice a0_1 x0.Day.Turns.length c0_1, .int .i64 x0.least] 94 (0, 0)) :: R)) (B := fun w => St w s71 (pt b76 (.cells (GuideRide.cells x62).toArray 47 (0, 0)) :: pt b53 (.cells #[.map (some b52)] 156 (0, 0)) :: pt b51 (.cells #[.slice a0_0 x0.Day.Trains.length c0_0, .slice a0_1 x0.Day.Turns.length c0_1, .int .i64 x0.least] 94 (0, 0)) :: R)) (w := _) (x := true) (y := true) (fun _ => hS) (fun _ => (hS.dropAt 2))
      have hF := hS; replace hS := (hS.dropAt 2)
      refine Rg.take (i := 2) false rfl hE rfl (by kernel_rfl) (runs_plain rfl) (Gives.loadBA hE 0 rfl rfl ty47) rfl hT ?_; clear hE a; intro a hE
      replace hS := hF; clear hF hT
      have hT := tw_sel (A := fun w => St w s71 (pt b76 (.cells (GuideRide.cells x62).toArray 47 (0, 0)) :: pt b53 (.cells #[.map (some b52)] 156 (0, 0)) :: mapSC keyI.f 47 3 b52 l74 :: pt b51 (.cells #[.slice a0_0 x0.Day.Trains.length c0_0, .slice a0_1 x0.Day.Turns.length c0_1, .int .i64 x0.least] 94 (0, 0)) :: R)) (B := fun w => St w s71 (pt b76 (.cells (GuideRide.cells x62).toArray 47 (0, 0)) :: pt b53 (.cells #[.map (some b52)] 156 (0, 0)) :: pt b51 (.cells #[.slice a0_0 x0.Day.Trains.length c0_0, .slice a0_1 x0.Day.Turns.length c0_1, .int .i64 x0.least] 94 (0, 0)) :: R)) (w := _) (x := true) (y := true) (fun _ => hS) (fun _ => (hS.dropAt 2))
      have hF := hS; replace hS := (hS.dropAt 2)
      refine Rg.take (i := 5) false rfl hE rfl (by kernel_rfl) (runs_plain rfl) (Gives.loadB hE 1 rfl rfl rfl ty156) rfl hT ?_; clear hE a; intro a hE
      replace hS := hF; clear hF hT
      have hT := tw_sel (A := fun w => St w s71 (pt b76 (.cells (GuideRide.cells x62).toArray 47 (0, 0)) :: pt b53 (.cells #[.map (some b52)] 156 (0, 0)) :: mapSC keyI.f 47 3 b52 l74 :: pt b51 (.cells #[.slice a0_0 x0.Day.Trains.length c0_0, .slice a0_1 x0.Day.Turns.length c0_1, .int .i64 x0.least] 94 (0, 0)) :: R)) (B := fun w => St w s71 (pt b76 (.cells (GuideRide.cells x62).toArray 47 (0, 0)) :: pt b53 (.cells #[.map (some b52)] 156 (0, 0)) :: pt b51 (.cells #[.slice a0_0 x0.Day.Trains.length c0_0, .slice a0_1 x0.Day.Turns.length c0_1, .int .i64 x0.least] 94 (0, 0)) :: R)) (w := _) (x := true) (y := true) (fun _ => hS) (fun _ => (hS.dropAt 2))
      have hF := hS; replace hS := (hS.dropAt 2)
      refine Rg.take (i := 6) false rfl hE rfl (by kernel_rfl) (runs_plain rfl) (Gives.loadBA hE 2 rfl rfl ty94) rfl hT ?_; clear hE a; intro a hE
      replace hS := hF; clear hF hT
      have hT := tw_sel (A := fun w => St w s71 (pt b76 (.cells (GuideRide.cells x62).toArray 47 (0, 0)) :: pt b53 (.cells #[.map (some b52)] 156 (0, 0)) :: mapSC keyI.f 47 3 b52 l74 :: pt b51 (.cells #[.slice a0_0 x0.Day.Trains.length c0_0, .slice a0_1 x0.Day.Turns.length c0_1, .int .i64 x0.least] 94 (0, 0)) :: R)) (B := fun w => St w s71 (pt b76 (.cells (GuideRide.cells x62).toArray 47 (0, 0)) :: pt b53 (.cells #[.map (some b52)] 156 (0, 0)) :: pt b51 (.cells #[.slice a0_0 x0.Day.Trains.length c0_0, .slice a0_1 x0.Day.Turns.length c0_1, .int .i64 x0.least] 94 (0, 0)) :: R)) (w := _) (x := true) (y := true) (fun _ => hS) (fun _ => (hS.dropAt 2))
      have hF := hS; replace hS := (hS.dropAt 2)
      refine Rg.take (i := 7) false rfl hE rfl (by kernel_rfl) (runs_plain rfl) (Gives.loadBA hE 0 rfl rfl ty47) rfl hT ?_; clear hE a; intro a hE
      replace hS := hF; clear hF hT
      have hT := tw_sel (A := fun w => St w s71 (pt b76 (.cells (GuideRide.cells x62).toArray 47 (0, 0)) :: pt b53 (.cells #[.map (some b52)] 156 (0, 0)) :: mapSC keyI.f 47 3 b52 l74 :: pt b51 (.cells #[.slice a0_0 x0.Day.Trains.length c0_0, .slice a0_1 x0.Day.Turns.length c0_1, .int .i64 x0.least] 94 (0, 0)) :: R)) (B := fun w => St w s71 (pt b76 (.cells (GuideRide.cells x62).toArray 47 (0, 0)) :: pt b53 (.cells #[.map (some b52)] 156 (0, 0)) :: pt b51 (.cells #[.slice a0_0 x0.Day.Trains.length c0_0, .slice a0_1 x0.Day.Turns.length c0_1, .int .i64 x0.least] 94 (0, 0)) :: R)) (w := _) (x := true) (y := true) (fun _ => hS) (fun _ => (hS.dropAt 2))
      have hF := hS; replace hS := (hS.dropAt 2)
      refine Rg.take (i := 11) false rfl hE rfl (by kernel_rfl) (runs_plain rfl) (Gives.loadBA hE 0 rfl rfl ty47) rfl hT ?_; clear hE a; intro a hE
      replace hS := hF; clear hF hT
      obtain ⟨q80, hq81, hq60⟩ := bindS hq60
      obtain ⟨q86, hq87, hq60⟩ := bindS hq60
      obtain rfl := Option.some.inj (hq81.symm.trans hq87)
      obtain ⟨x92, hx93, hq60⟩ := bndS hq60
      obtain ⟨x101, hx102, hq60⟩ := bindS hq60
      suffices key : ∀ s90 a103 c104 cs105 (a : Act) (w : World), s71.Le s90 → MEv 3 RGuideRide s90 (mput l74 q80.Dep ⟨a103, c104, x101.length, cs105⟩) (mput q73 q80.Dep x101) → Sl 4 RApiTrain s90 a0_0 c0_0 x0.Day.Trains → Sl 1 (RL 1 (RI .i64)) s90 a0_1 c0_1 x0.Day.Turns → Rep a 96 [] → St w s90 (pt b76 (.cells (GuideRide.cells x62).toArray 47 (0, 0)) :: pt b53 (.cells #[.map (some b52)] 156 (0, 0)) :: mapSC keyI.f 47 3 b52 (mput l74 q80.Dep ⟨a103, c104, x101.length, cs105⟩) :: pt b51 (.cells #[.slice a0_0 x0.Day.Trains.length c0_0, .slice a0_1 x0.Day.Turns.length c0_1, .int .i64 x0.least] 94 (0, 0)) :: R) → K79.nor a w by
        refine Rg.many 3 [12] (by kernel_rfl) ⟨?_, ?_, trivial⟩
        · refine Br.mk (i := 3) true true rfl (by kernel_rfl) (by kernel_rfl) ?_
          have hc_ := GuideNeton_ok hS h0_0 h0_1 hq81
          refine WL.fnq hE (hc_) (runs_plain rfl) bd99 rfl rfl rfl ?_
          clear hE hS hc_; rintro e w ⟨cs82, s84, rfl, hle85, h83, hS⟩; refine ⟨_, rfl, ?_⟩; clear a; intro a hE
          replace h0_0 := Sl.mono RApiTrain.mono hle85 h0_0
          replace h0_1 := Sl.mono (RL.mono RI.mono) hle85 h0_1
          replace h75 := MEv.mono RGuideRide.mono hle85 h75
          subst h83
          refine WL.nil ?_
          refine ⟨⟨fun _ => (St.down hle85 hS), fun _ => (St.down hle85 (hS.dropAt 2))⟩, ?_⟩
          refine Rg.takeP (i := 4) hE rfl (by kernel_rfl) (runs_plain rfl) (Gives.field1 hE rfl fd106_3 ty3 rfl) rfl (tw_sel (fun _ => (St.down hle85 hS)) (fun _ => (St.down hle85 (hS.dropAt 2)))) ?_; clear hE a; intro a hE
          refine Rg.many 8 [12] (by kernel_rfl) ⟨?_, ?_, trivial⟩
          · refine Br.mk (i := 8) true true rfl (by kernel_rfl) (by kernel_rfl) ?_
            have hc_ := GuideNeton_ok hS h0_0 h0_1 hq87
            refine WL.fnq hE (hc_) (runs_plain rfl) bd99 rfl rfl rfl ?_
            clear hE hS hc_; rintro e w ⟨cs88, s90, rfl, hle91, h89, hS⟩; refine ⟨_, rfl, ?_⟩; clear a; intro a hE
            replace h0_0 := Sl.mono RApiTrain.mono hle91 h0_0
            replace h0_1 := Sl.mono (RL.mono RI.mono) hle91 h0_1
            replace h75 := MEv.mono RGuideRide.mono hle91 h75
            subst h89
            refine WL.nil ?_
            refine ⟨⟨fun _ => (St.down (Sg.Le.trans hle85 hle91) hS), fun _ => (St.down (Sg.Le.trans hle85 hle91) (hS.dropAt 2))⟩, ?_⟩
            refine Rg.takeP (i := 9) hE rfl (by kernel_rfl) (runs_plain rfl) (Gives.field1 hE rfl fd106_3 ty3 rfl) rfl (tw_sel (fun _ => (St.down (Sg.Le.trans hle85 hle91) hS)) (fun _ => (St.down (Sg.Le.trans hle85 hle91) (hS.dropAt 2)))) ?_; clear hE a; intro a hE
            have hT := tw_sel (A := fun w => St w s71 (pt b76 (.cells (GuideRide.cells x62).toArray 47 (0, 0)) :: pt b53 (.cells #[.map (some b52)] 156 (0, 0)) :: mapSC keyI.f 47 3 b52 l74 :: pt b51 (.cells #[.slice a0_0 x0.Day.Trains.length c0_0, .slice a0_1 x0.Day.Turns.length c0_1, .int .i64 x0.least] 94 (0, 0)) :: R)) (B := fun w => St w s71 (pt b76 (.cells (GuideRide.cells x62).toArray 47 (0, 0)) :: pt b53 (.cells #[.map (some b52)] 156 (0, 0)) :: pt b51 (.cells #[.slice a0_0 x0.Day.Trains.length c0_0, .slice a0_1 x0.Day.Turns.length c0_1, .int .i64 x0.least] 94 (0, 0)) :: R)) (w := _) (x := true) (y := true) (fun _ => (St.down (Sg.Le.trans hle85 hle91) hS)) (fun _ => (St.down (Sg.Le.trans hle85 hle91) (hS.dropAt 2)))
            have hF := hS; replace hS := (St.down (Sg.Le.trans hle85 hle91) hS)
            obtain ⟨a94, c95, cs96, e97, hev98⟩ := MEv.at h75 q80.Dep
            rw [hx93] at e97 hev98
            refine Rg.take (i := 10) true rfl hE rfl (by kernel_rfl) (runs_plain rfl) (Gives.msGet keyI hE 2 (k := q80.Dep) rfl rfl rfl mp156 zs26 e97) rfl hT ?_; clear hE a; intro a hE
            replace hS := hF; clear hF hT
            refine Rg.one (i := 12) true true rfl (by kernel_rfl) (by kernel_rfl) (by kernel_rfl) ?_
            refine WL.lit hE hS (e := 47) (es := 3) (vs := [(0, .agg (GuideRide.cells x62).toArray)]) (cs := [.int .i64 x62.Train, .int .i64 x62.On, .int .i64 x62.Off]) (runs_plain rfl) rfl (by kernel_rfl) rfl ?_; clear hE hS a w; intro b99 a w hE hS
            refine WL.nil ?_
            refine ⟨⟨fun _ => (St.down (Sg.Le.trans hle85 hle91) (hS.tail)), fun _ => (St.down (Sg.Le.trans hle85 hle91) ((hS.tail).dropAt 2))⟩, ?_⟩
            refine Rg.one (i := 13) false true rfl (by kernel_rfl) (by kernel_rfl) (by kernel_rfl) ?_
            replace hS := hS.msOpen 3 rfl e97
            replace hS : St w s90 (vecC 47 3 a94 c95 x92.length cs96 :: pt b99 (.cells #[.int .i64 x62.Train, .int .i64 x62.On, .int .i64 x62.Off] 47 (0, 0)) :: pt b76 (.cells (GuideRide.cells x62).toArray 47 (0, 0)) :: pt b53 (.cells #[.map (some b52)] 156 (0, 0)) :: mapSH keyI.f 47 3 b52 l74 q80.Dep :: pt b51 (.cells #[.slice a0_0 x0.Day.Trains.length c0_0, .slice a0_1 x0.Day.Turns.length c0_1, .int .i64 x0.least] 94 (0, 0)) :: R) := hS
            replace hS := hS.front 1 rfl
            refine WL.appD hE hS 0 (m := 1) (runs_plain rfl) rfl rfl rfl ap26 rfl hev98 (rfl) (xs := [x62]) (Ev.cons (c1 := [.int .i64 x62.Train, .int .i64 x62.On, .int .i64 x62.Off]) rfl rfl (Ev.nil)) rfl rfl hx102 rfl ?_; clear hE hS a w; intro a103 c104 cs105 a w h106 hE hS
            refine WL.nil ?_
            refine ⟨⟨fun h => absurd h (by decide), fun _ => (St.down (Sg.Le.trans hle85 hle91) ((hS.tail).dropAt 2))⟩, ?_⟩
            refine Rg.one (i := 14) false true rfl (by kernel_rfl) (by kernel_rfl) (by kernel_rfl) ?_
            refine WL.msSet keyI hE hS 2 (k := q80.Dep) (.inl rfl) (runs_plain rfl) rfl rfl rfl rfl mp156 rfl ?_; clear hE hS a w; intro a w hE hS
            refine WL.nil ?_
            refine ⟨⟨fun h => absurd h (by decide), fun _ => (St.down (Sg.Le.trans hle85 hle91) (hS.dropAt 2))⟩, ?_⟩
            refine Rg.done (by kernel_rfl) ?_
            exact key _ _ _ _ _ _ (Sg.Le.trans hle85 hle91) (MEv.put h106 (rfl) h75 q80.Dep) h0_0 h0_1 (hE.pick _ trivial) hS
          · refine Br.mk (i := 12) true true rfl (by kernel_rfl) (by kernel_rfl) ?_
            refine WL.lit hE hS (e := 47) (es := 3) (vs := [(0, .agg (GuideRide.cells x62).toArray)]) (cs := [.int .i64 x62.Train, .int .i64 x62.On, .int .i64 x62.Off]) (runs_plain rfl) rfl (by kernel_rfl) rfl ?_; clear hE hS a w; intro b99 a w hE hS
            refine WL.nil ?_
            refine ⟨⟨fun _ => (St.down hle85 (hS.tail)), fun _ => (St.down hle85 ((hS.tail).dropAt 2))⟩, ?_⟩
            refine Rg.one (i := 8) true true rfl (by kernel_rfl) (by kernel_rfl) (by kernel_rfl) ?_
            have hc_ := GuideNeton_ok hS h0_0 h0_1 hq87
            refine WL.fnq hE (hc_) (runs_plain rfl) bd99 rfl rfl rfl ?_
            clear hE hS hc_; rintro e w ⟨cs88, s90, rfl, hle91, h89, hS⟩; refine ⟨_, rfl, ?_⟩; clear a; intro a hE
            replace h0_0 := Sl.mono RApiTrain.mono hle91 h0_0
            replace h0_1 := Sl.mono (RL.mono RI.mono) hle91 h0_1
            replace h75 := MEv.mono RGuideRide.mono hle91 h75
            subst h89
            refine WL.nil ?_
            refine ⟨⟨fun _ => (St.down (Sg.Le.trans hle85 hle91) (hS.tail)), fun _ => (St.down (Sg.Le.trans hle85 hle91) ((hS.tail).dropAt 2))⟩, ?_⟩
            refine Rg.takeP (i := 9) hE rfl (by kernel_rfl) (runs_plain rfl) (Gives.field1 hE rfl fd106_3 ty3 rfl) rfl (tw_sel (fun _ => (St.down (Sg.Le.trans hle85 hle91) (hS.tail))) (fun _ => (St.down (Sg.Le.trans hle85 hle91) ((hS.tail).dropAt 2)))) ?_; clear hE a; intro a hE
            have hT := tw_sel (A := fun w => St w s71 (pt b76 (.cells (GuideRide.cells x62).toArray 47 (0, 0)) :: pt b53 (.cells #[.map (some b52)] 156 (0, 0)) :: mapSC keyI.f 47 3 b52 l74 :: pt b51 (.cells #[.slice a0_0 x0.Day.Trains.length c0_0, .slice a0_1 x0.Day.Turns.length c0_1, .int .i64 x0.least] 94 (0, 0)) :: R)) (B := fun w => St w s71 (pt b76 (.cells (GuideRide.cells x62).toArray 47 (0, 0)) :: pt b53 (.cells #[.map (some b52)] 156 (0, 0)) :: pt b51 (.cells #[.slice a0_0 x0.Day.Trains.length c0_0, .slice a0_1 x0.Day.Turns.length c0_1, .int .i64 x0.least] 94 (0, 0)) :: R)) (w := _) (x := true) (y := true) (fun _ => (St.down (Sg.Le.trans hle85 hle91) (hS.tail))) (fun _ => (St.down (Sg.Le.trans hle85 hle91) ((hS.tail).dropAt 2)))
            have hF := hS; replace hS := (St.down (Sg.Le.trans hle85 hle91) (hS.tail))
            obtain ⟨a94, c95, cs96, e97, hev98⟩ := MEv.at h75 q80.Dep
            rw [hx93] at e97 hev98
            refine Rg.take (i := 10) true rfl hE rfl (by kernel_rfl) (runs_plain rfl) (Gives.msGet keyI hE 2 (k := q80.Dep) rfl rfl rfl mp156 zs26 e97) rfl hT ?_; clear hE a; intro a hE
            replace hS := hF; clear hF hT
            refine Rg.one (i := 13) false true rfl (by kernel_rfl) (by kernel_rfl) (by kernel_rfl) ?_
            replace hS := hS.msOpen 3 rfl e97
            replace hS : St w s90 (vecC 47 3 a94 c95 x92.length cs96 :: pt b99 (.cells #[.int .i64 x62.Train, .int .i64 x62.On, .int .i64 x62.Off] 47 (0, 0)) :: pt b76 (.cells (GuideRide.cells x62).toArray 47 (0, 0)) :: pt b53 (.cells #[.map (some b52)] 156 (0, 0)) :: mapSH keyI.f 47 3 b52 l74 q80.Dep :: pt b51 (.cells #[.slice a0_0 x0.Day.Trains.length c0_0, .slice a0_1 x0.Day.Turns.length c0_1, .int .i64 x0.least] 94 (0, 0)) :: R) := hS
            replace hS := hS.front 1 rfl
            refine WL.appD hE hS 0 (m := 1) (runs_plain rfl) rfl rfl rfl ap26 rfl hev98 (rfl) (xs := [x62]) (Ev.cons (c1 := [.int .i64 x62.Train, .int .i64 x62.On, .int .i64 x62.Off]) rfl rfl (Ev.nil)) rfl rfl hx102 rfl ?_; clear hE hS a w; intro a103 c104 cs105 a w h106 hE hS
            refine WL.nil ?_
            refine ⟨⟨fun h => absurd h (by decide), fun _ => (St.down (Sg.Le.trans hle85 hle91) ((hS.tail).dropAt 2))⟩, ?_⟩
            refine Rg.one (i := 14) false true rfl (by kernel_rfl) (by kernel_rfl) (by kernel_rfl) ?_
            refine WL.msSet keyI hE hS 2 (k := q80.Dep) (.inl rfl) (runs_plain rfl) rfl rfl rfl rfl mp156 rfl ?_; clear hE hS a w; intro a w hE hS
            refine WL.nil ?_
            refine ⟨⟨fun h => absurd h (by decide), fun _ => (St.down (Sg.Le.trans hle85 hle91) (hS.dropAt 2))⟩, ?_⟩
            refine Rg.done (by kernel_rfl) ?_
            exact key _ _ _ _ _ _ (Sg.Le.trans hle85 hle91) (MEv.put h106 (rfl) h75 q80.Dep) h0_0 h0_1 (hE.pick _ trivial) hS
        · refine Br.mk (i := 12) true true rfl (by kernel_rfl) (by kernel_rfl) ?_
          refine WL.lit hE hS (e := 47) (es := 3) (vs := [(0, .agg (GuideRide.cells x62).toArray)]) (cs := [.int .i64 x62.Train, .int .i64 x62.On, .int .i64 x62.Off]) (runs_plain rfl) rfl (by kernel_rfl) rfl ?_; clear hE hS a w; intro b99 a w hE hS
          refine WL.nil ?_
          refine ⟨⟨fun _ => (hS.tail), fun _ => ((hS.tail).dropAt 2)⟩, ?_⟩
          refine Rg.one (i := 3) true true rfl (by kernel_rfl) (by kernel_rfl) (by kernel_rfl) ?_
          have hc_ := GuideNeton_ok hS h0_0 h0_1 hq81
          refine WL.fnq hE (hc_) (runs_plain rfl) bd99 rfl rfl rfl ?_
          clear hE hS hc_; rintro e w ⟨cs82, s84, rfl, hle85, h83, hS⟩; refine ⟨_, rfl, ?_⟩; clear a; intro a hE
          replace h0_0 := Sl.mono RApiTrain.mono hle85 h0_0
          replace h0_1 := Sl.mono (RL.mono RI.mono) hle85 h0_1
          replace h75 := MEv.mono RGuideRide.mono hle85 h75
          subst h83
          refine WL.nil ?_
          refine ⟨⟨fun _ => (St.down hle85 (hS.tail)), fun _ => (St.down hle85 ((hS.tail).dropAt 2))⟩, ?_⟩
          refine Rg.takeP (i := 4) hE rfl (by kernel_rfl) (runs_plain rfl) (Gives.field1 hE rfl fd106_3 ty3 rfl) rfl (tw_sel (fun _ => (St.down hle85 (hS.tail))) (fun _ => (St.down hle85 ((hS.tail).dropAt 2)))) ?_; clear hE a; intro a hE
          refine Rg.one (i := 8) true true rfl (by kernel_rfl) (by kernel_rfl) (by kernel_rfl) ?_
          have hc_ := GuideNeton_ok hS h0_0 h0_1 hq87
          refine WL.fnq hE (hc_) (runs_plain rfl) bd99 rfl rfl rfl ?_
          clear hE hS hc_; rintro e w ⟨cs88, s90, rfl, hle91, h89, hS⟩; refine ⟨_, rfl, ?_⟩; clear a; intro a hE
          replace h0_0 := Sl.mono RApiTrain.mono hle91 h0_0
          replace h0_1 := Sl.mono (RL.mono RI.mono) hle91 h0_1
          replace h75 := MEv.mono RGuideRide.mono hle91 h75
          subst h89
          refine WL.nil ?_
          refine ⟨⟨fun _ => (St.down (Sg.Le.trans hle85 hle91) (hS.tail)), fun _ => (St.down (Sg.Le.trans hle85 hle91) ((hS.tail).dropAt 2))⟩, ?_⟩
          refine Rg.takeP (i := 9) hE rfl (by kernel_rfl) (runs_plain rfl) (Gives.field1 hE rfl fd106_3 ty3 rfl) rfl (tw_sel (fun _ => (St.down (Sg.Le.trans hle85 hle91) (hS.tail))) (fun _ => (St.down (Sg.Le.trans hle85 hle91) ((hS.tail).dropAt 2)))) ?_; clear hE a; intro a hE
          have hT := tw_sel (A := fun w => St w s71 (pt b76 (.cells (GuideRide.cells x62).toArray 47 (0, 0)) :: pt b53 (.cells #[.map (some b52)] 156 (0, 0)) :: mapSC keyI.f 47 3 b52 l74 :: pt b51 (.cells #[.slice a0_0 x0.Day.Trains.length c0_0, .slice a0_1 x0.Day.Turns.length c0_1, .int .i64 x0.least] 94 (0, 0)) :: R)) (B := fun w => St w s71 (pt b76 (.cells (GuideRide.cells x62).toArray 47 (0, 0)) :: pt b53 (.cells #[.map (some b52)] 156 (0, 0)) :: pt b51 (.cells #[.slice a0_0 x0.Day.Trains.length c0_0, .slice a0_1 x0.Day.Turns.length c0_1, .int .i64 x0.least] 94 (0, 0)) :: R)) (w := _) (x := true) (y := true) (fun _ => (St.down (Sg.Le.trans hle85 hle91) (hS.tail))) (fun _ => (St.down (Sg.Le.trans hle85 hle91) ((hS.tail).dropAt 2)))
          have hF := hS; replace hS := (St.down (Sg.Le.trans hle85 hle91) (hS.tail))
          obtain ⟨a94, c95, cs96, e97, hev98⟩ := MEv.at h75 q80.Dep
          rw [hx93] at e97 hev98
          refine Rg.take (i := 10) true rfl hE rfl (by kernel_rfl) (runs_plain rfl) (Gives.msGet keyI hE 2 (k := q80.Dep) rfl rfl rfl mp156 zs26 e97) rfl hT ?_; clear hE a; intro a hE
          replace hS := hF; clear hF hT
          refine Rg.one (i := 13) false true rfl (by kernel_rfl) (by kernel_rfl) (by kernel_rfl) ?_
          replace hS := hS.msOpen 3 rfl e97
          replace hS : St w s90 (vecC 47 3 a94 c95 x92.length cs96 :: pt b99 (.cells #[.int .i64 x62.Train, .int .i64 x62.On, .int .i64 x62.Off] 47 (0, 0)) :: pt b76 (.cells (GuideRide.cells x62).toArray 47 (0, 0)) :: pt b53 (.cells #[.map (some b52)] 156 (0, 0)) :: mapSH keyI.f 47 3 b52 l74 q80.Dep :: pt b51 (.cells #[.slice a0_0 x0.Day.Trains.length c0_0, .slice a0_1 x0.Day.Turns.length c0_1, .int .i64 x0.least] 94 (0, 0)) :: R) := hS
          replace hS := hS.front 1 rfl
          refine WL.appD hE hS 0 (m := 1) (runs_plain rfl) rfl rfl rfl ap26 rfl hev98 (rfl) (xs := [x62]) (Ev.cons (c1 := [.int .i64 x62.Train, .int .i64 x62.On, .int .i64 x62.Off]) rfl rfl (Ev.nil)) rfl rfl hx102 rfl ?_; clear hE hS a w; intro a103 c104 cs105 a w h106 hE hS
          refine WL.nil ?_
          refine ⟨⟨fun h => absurd h (by decide), fun _ => (St.down (Sg.Le.trans hle85 hle91) ((hS.tail).dropAt 2))⟩, ?_⟩
          refine Rg.one (i := 14) false true rfl (by kernel_rfl) (by kernel_rfl) (by kernel_rfl) ?_
          refine WL.msSet keyI hE hS 2 (k := q80.Dep) (.inl rfl) (runs_plain rfl) rfl rfl rfl rfl mp156 rfl ?_; clear hE hS a w; intro a w hE hS
          refine WL.nil ?_
          refine ⟨⟨fun h => absurd h (by decide), fun _ => (St.down (Sg.Le.trans hle85 hle91) (hS.dropAt 2))⟩, ?_⟩
          refine Rg.done (by kernel_rfl) ?_
          exact key _ _ _ _ _ _ (Sg.Le.trans hle85 hle91) (MEv.put h106 (rfl) h75 q80.Dep) h0_0 h0_1 (hE.pick _ trivial) hS
      clear hE hS a w; intro s90 a103 c104 cs105 a w hle108 h107 h0_0 h0_1 hE hS
      subst hK79
      replace hS := hS.tail
      subst hK78
      subst hT77
      exact ⟨s90, _, ⟨rest63, (mput q73 q80.Dep x101), (mput l74 q80.Dep ⟨a103, c104, x101.length, cs105⟩), hl65.trans (by simp), hq60, (Sg.Le.trans hle72 hle108), h107, rfl⟩, hS⟩
    · intro s71 Q_ D67 a w hI_ hE hS
      obtain ⟨rest63, q73, l74, hl65, hq60, hle72, h75, rfl⟩ := hI_
      obtain rfl := pre_end hl65
      rw [GuideNetpoints.loop1] at hq60
      exact ⟨q73, _, D67, s71, hle72, Option.some.inj hq60, h75, hE.pick _ ⟨rfl, rfl, rfl, rfl, trivial⟩, hS⟩
    · exact fun _ _ _ _ _ _ _ h => h.elim
  · clear hE hS a w; rintro a w ⟨q73, l74, D67, s71, hle72, rfl, h75, hE, hS⟩
    replace h0_0 := Sl.mono RApiTrain.mono hle72 h0_0
    replace h0_1 := Sl.mono (RL.mono RI.mono) hle72 h0_1
    replace h57 := Iter.mono hle72 h57
    refine W.seq ?_
    refine W.region ?_
    refine WL.mkMap (fk := keyGuidePoint.f) (fv := Value.bool) hE hS (runs_plain rfl) rfl ?_; clear hE hS a w; intro b109 a w hE hS
    refine WL.vS hS hE (runs_plain rfl) (Gives.p hE rfl) rfl ?_; clear hE a; intro a hE
    refine WL.nil ?_
    refine W.seq ?_
    refine W.region ?_
    replace hS := hS.vecNil 62 3
    refine WL.vS hS hE (runs_plain rfl) (Gives.p hE rfl) rfl ?_; clear hE a; intro a hE
    refine WL.nil ?_
    refine W.seq ?_
    refine W.seq ?_
    refine W.region ?_
    refine WL.vS hS hE (runs_plain rfl) (Gives.loadB hE 3 rfl rfl rfl ty156) rfl ?_; clear hE a; intro a hE
    have hF := hS.msFix RGuideRide.mono 4 rfl h75; clear hS; obtain ⟨s113, hle114, hS, h115⟩ := hF
    replace h0_0 := Sl.mono RApiTrain.mono hle114 h0_0
    replace h0_1 := Sl.mono (RL.mono RI.mono) hle114 h0_1
    refine WL.rangeI hE hS 4 rfl rfl um156 (runs_plain rfl) rfl ?_; clear hE hS a w; intro r112 a w hE hS
    refine WL.nil ?_
    obtain ⟨Q118, hO116, hr⟩ := AllO.bindP hr
    refine W.cut (fun a w => ∃ (q132 : List GuidePoint), ∃ (q139 : List (GuidePoint × Bool)), ∃ (a133 : Option Addr), ∃ (c134 : Nat), ∃ (n136 : Nat), ∃ (cs137 : List Value), ∃ (s120 : Sg), s113.Le s120 ∧ Q118 (q132, q139) ∧ Ev 3 RGuidePoint s120 cs137 q132 ∧ q132.length = n136 ∧ Rep a 96 [(10, .slice a133 n136 c134), (4294967295, .int .i64 (D67 : Nat))] ∧ St w s120 (vecC 62 3 a133 c134 n136 cs137 :: mapC keyGuidePoint.f Value.bool b109 q139 :: pt D67 (.deferred (some [])) :: pt b53 (.cells #[.map (some b52)] 156 (0, 0)) :: mapC keyI.f In.cell b52 l74 :: pt b51 (.cells #[.slice a0_0 x0.Day.Trains.length c0_0, .slice a0_1 x0.Day.Turns.length c0_1, .int .i64 x0.least] 94 (0, 0)) :: R)) ?_ ?_
    · unfold GuideNetpoints.loop2 at hO116
      refine W.block ?_
      refine W.loop (fun m a w => ∃ (rest122 : List (Int × (List GuideRide))) (ix123 : List Nat) (nn124 : Nat), ∃ (q132 : List GuidePoint), ∃ (q139 : List (GuidePoint × Bool)), ∃ (a133 : Option Addr), ∃ (c134 : Nat), ∃ (n136 : Nat), ∃ (cs137 : List Value), ∃ (s120 : Sg), rest122.length = m ∧ rest122.Perm (remI ix123 q73) ∧ rest122.length ≤ nn124 ∧ s113.Le s120 ∧ AllO (rngO (fun x st => GuideNetpoints.loop2.step x0 x2 x.1 x.2 st.1 st.2) nn124 rest122 (q132, q139)) Q118 ∧ Ev 3 RGuidePoint s120 cs137 q132 ∧ q132.length = n136 ∧ Rep a 96 [(2, .int .i64 x2), (3, .pointer (some ⟨b51, 0, none⟩)), (9, .map (some b109)), (10, .slice a133 n136 c134), (39, .pointer (some ⟨r112, 0, none⟩)), (4294967295, .int .i64 (D67 : Nat))] ∧ St w s120 (vecC 62 3 a133 c134 n136 cs137 :: mapC keyGuidePoint.f Value.bool b109 q139 :: pt D67 (.deferred (some [])) :: pt b53 (.cells #[.map (some b52)] 156 (0, 0)) :: iterI keyI.f In.cell b52 r112 l74 ix123 :: pt b51 (.cells #[.slice a0_0 x0.Day.Trains.length c0_0, .slice a0_1 x0.Day.Turns.length c0_1, .int .i64 x0.least] 94 (0, 0)) :: R)) (m := (q73).length) ⟨q73, [], (q73).length, [], [], none, 0, 0, [], s113, rfl, by rw [remI_nil], Nat.le_refl _, (Sg.Le.refl _), hO116, (Ev.nil), (rfl), hE.pick _ ⟨rfl, rfl, rfl, rfl, rfl, rfl, trivial⟩, hS⟩ ?_
      clear hE hS a w hO116; rintro m119 a w ⟨rest122, ix123, nn124, q132, q139, a133, c134, n136, cs137, s120, rfl, hp125, hn126, hle121, hO116, h135, rfl, hE, hS⟩
      refine W.gen fun K140 hK140 => ?_
      replace h115 := MSl.mono RGuideRide.mono hle121 h115
      replace h0_0 := Sl.mono RApiTrain.mono hle121 h0_0
      replace h0_1 := Sl.mono (RL.mono RI.mono) hle121 h0_1
      refine W.seq ?_
      refine W.region ?_
      refine WL.nextI hE hS 4 rfl rfl (runs_plain rfl) rfl ?_ ?_
      · intro hall149; clear hE a; intro a hE
        replace hall149 := fun j hj => hall149 j (by rw [MSl.len h115]; exact hj)
        have hz151 := hp125; rw [remI_end hall149] at hz151; obtain rfl := hz151.eq_nil; replace hO116 := rngO_end hO116
        refine WL.vS hS hE (runs_plain rfl) (Gives.p hE rfl) rfl ?_; clear hE a; intro a hE
        refine WL.nil ?_
        refine W.seq ?_
        refine W.condF hE rfl rfl ?_
        subst hK140
        refine W.exit rfl ?_
        replace hS := hS.iDone 4 rfl
        exact ⟨q132, q139, a133, c134, q132.length, cs137, s120, hle121, hO116, h135, rfl, hE.pick _ ⟨rfl, rfl, trivial⟩, hS⟩
      · clear hE hS a w; intro j129 x128 a w hp130 hn131 hE hS
        obtain ⟨k127, a152, c153, n154, cs155⟩ := x128
        obtain ⟨x128, hy150, h156, hn157⟩ := MSl.at h115 hp130; dsimp only at hy150 h156 hn157; subst hn157
        obtain ⟨nn144, rest145, Q142, hp146, hn147, hlt148, hO141, hQ143⟩ := rngO_step hn126 (hp125.trans (remI_next hy150 hn131)) hO116
        (try dsimp only at hO141); unfold GuideNetpoints.loop2.step at hO141
        refine WL.vS hS hE (runs_plain rfl) (Gives.p hE rfl) rfl ?_; clear hE a; intro a hE
        refine WL.nil ?_
        refine W.seq ?_
        refine W.condT hE rfl rfl ?_
        refine W.skip ?_
        refine W.block ?_
        refine W.seq ?_
        refine W.region ?_
        refine WL.vS hS hE (runs_plain rfl) (show Gives _ _ _ _ (Value.tuple #[.int .i64 k127, .slice a152 x128.length c153]) from Gives.entryI (fk := keyI.f) (fv := In.cell) hE 4 (p := (k127, (⟨a152, c153, x128.length, cs155⟩ : In))) rfl hp130 rfl) rfl ?_; clear hE a; intro a hE
        refine WL.vS hS hE (runs_plain rfl) (Gives.p hE rfl) rfl ?_; clear hE a; intro a hE
        refine WL.vS hS hE (runs_plain rfl) (Gives.p hE rfl) rfl ?_; clear hE a; intro a hE
        refine WL.vS hS hE (runs_plain rfl) (Gives.p hE rfl) rfl ?_; clear hE a; intro a hE
        refine WL.vS hS hE (runs_plain rfl) (Gives.p hE rfl) rfl ?_; clear hE a; intro a hE
        refine WL.nil ?_
        refine W.seq ?_
        refine W.region ?_
        refine WL.vS hS hE (runs_plain rfl) (Gives.loadBA hE 5 rfl rfl ty94) rfl ?_; clear hE a; intro a hE
        refine WL.vS hS hE (runs_plain rfl) (Gives.p hE rfl) rfl ?_; clear hE a; intro a hE
        obtain ⟨q159, hq160, hO141⟩ := AllO.bind hO141
        have hc_ := GuideNetends_ok hS h0_0 h0_1 h156 hq160
        refine WL.fnq hE (hc_) (runs_plain rfl) bd70 rfl rfl rfl ?_
        clear hE hS hc_; rintro e w ⟨bs161, s164, rfl, hle165, h162, hS⟩; refine ⟨_, rfl, ?_⟩; clear a; intro a hE
        replace h156 := Sl.mono RGuideRide.mono hle165 h156
        replace h0_0 := Sl.mono RApiTrain.mono hle165 h0_0
        replace h0_1 := Sl.mono (RL.mono RI.mono) hle165 h0_1
        replace h135 := Ev.mono RGuidePoint.mono hle165 h135
        replace h115 := MSl.mono RGuideRide.mono hle165 h115
        refine WL.vS hS hE (runs_plain rfl) (Gives.p hE rfl) rfl ?_; clear hE a; intro a hE
        refine WL.nil ?_
        obtain ⟨Q168, hO166, hO141⟩ := AllO.bindP hO141
        refine W.cut (fun a w => ∃ (q182 : List GuidePoint), ∃ (q189 : List (GuidePoint × Bool)), ∃ (a183 : Option Addr), ∃ (c184 : Nat), ∃ (n186 : Nat), ∃ (cs187 : List Value), Q168 (q182, q189) ∧ Ev 3 RGuidePoint s164 cs187 q182 ∧ q182.length = n186 ∧ Rep a 96 [(2, .int .i64 x2), (3, .pointer (some ⟨b51, 0, none⟩)), (9, .map (some b109)), (10, .slice a183 n186 c184), (39, .pointer (some ⟨r112, 0, none⟩)), (4294967295, .int .i64 (D67 : Nat))] ∧ St w s164 (mapsV keyGuidePlace.f Value.bool bs161 q159 :: vecC 62 3 a183 c184 n186 cs187 :: mapC keyGuidePoint.f Value.bool b109 q189 :: pt D67 (.deferred (some [])) :: pt b53 (.cells #[.map (some b52)] 156 (0, 0)) :: iterI keyI.f In.cell b52 r112 l74 (ix123 ++ [j129]) :: pt b51 (.cells #[.slice a0_0 x0.Day.Trains.length c0_0, .slice a0_1 x0.Day.Turns.length c0_1, .int .i64 x0.least] 94 (0, 0)) :: R)) ?_ ?_
        · unfold GuideNetpoints.loop3 at hO166
          refine W.block ?_
          refine W.loop (fun m a w => ∃ (rest172 : Nat) (k177 : Nat), ∃ (q182 : List GuidePoint), ∃ (q189 : List (GuidePoint × Bool)), ∃ (a183 : Option Addr), ∃ (c184 : Nat), ∃ (n186 : Nat), ∃ (cs187 : List Value), rest172 = m ∧ k177 + rest172 = 4 ∧ AllO (cntO (fun x st => GuideNetpoints.loop3.step x0 x2 k127 q159 x st.1 st.2) rest172 k177 (q182, q189)) Q168 ∧ Ev 3 RGuidePoint s164 cs187 q182 ∧ q182.length = n186 ∧ Rep a 96 [(2, .int .i64 x2), (3, .pointer (some ⟨b51, 0, none⟩)), (9, .map (some b109)), (10, .slice a183 n186 c184), (11, .int .i64 k127), (39, .pointer (some ⟨r112, 0, none⟩)), (47, .agg (mcells 4 bs161).toArray), (48, .int .i64 ((k177 : Nat) : Int)), (4294967295, .int .i64 (D67 : Nat))] ∧ St w s164 (mapsV keyGuidePlace.f Value.bool bs161 q159 :: vecC 62 3 a183 c184 n186 cs187 :: mapC keyGuidePoint.f Value.bool b109 q189 :: pt D67 (.deferred (some [])) :: pt b53 (.cells #[.map (some b52)] 156 (0, 0)) :: iterI keyI.f In.cell b52 r112 l74 (ix123 ++ [j129]) :: pt b51 (.cells #[.slice a0_0 x0.Day.Trains.length c0_0, .slice a0_1 x0.Day.Turns.length c0_1, .int .i64 x0.least] 94 (0, 0)) :: R)) (m := 4) ⟨4, 0, q132, q139, a133, c134, q132.length, cs137, rfl, by omega, hO166, h135, rfl, hE.pick _ ⟨rfl, rfl, rfl, rfl, rfl, rfl, rfl, rfl, rfl, trivial⟩, hS⟩ ?_
          clear hE hS a w hO166; rintro m169 a w ⟨rest172, k177, q182, q189, a183, c184, n186, cs187, rfl, hp175, hO166, h185, rfl, hE, hS⟩
          refine W.gen fun K190 hK190 => ?_
          rcases rest172 with _ | rest172
          · replace hO166 := cntO_end hO166
            refine W.seq ?_
            refine W.region ?_
            refine WL.vS hS hE (runs_plain rfl) (Gives.p hE rfl) rfl ?_; clear hE a; intro a hE
            refine WL.nil ?_
            refine W.seq ?_
            refine W.condF hE rfl (decide_eq_false (by omega)) ?_
            subst hK190
            refine W.exit rfl ?_
            exact ⟨q182, q189, a183, c184, q182.length, cs187, hO166, h185, rfl, hE.pick _ ⟨rfl, rfl, rfl, rfl, rfl, rfl, trivial⟩, hS⟩
          · have hlt198 : k177 < 4 := by omega
            obtain ⟨Q192, hO191, hQ193⟩ := cntO_step hO166
            (try dsimp only at hO191); unfold GuideNetpoints.loop3.step at hO191
            refine W.seq ?_
            refine W.region ?_
            refine WL.vS hS hE (runs_plain rfl) (Gives.p hE rfl) rfl ?_; clear hE a; intro a hE
            refine WL.nil ?_
            refine W.seq ?_
            refine W.condT hE rfl (decide_eq_true (by omega)) ?_
            refine W.skip ?_
            refine W.seq ?_
            refine W.block ?_
            refine W.seq ?_
            refine W.region ?_
            refine WL.vS hS hE (runs_plain rfl) (Gives.p hE rfl) rfl ?_; clear hE a; intro a hE
            obtain ⟨x199, hx200, hO191⟩ := AllO.bind hO191
            obtain ⟨hi201, hlt202, hy203⟩ := gx_some hx200
            obtain ⟨b204, hb205⟩ := hS.mapsAt 0 rfl hy203
            refine WL.vS hS hE (runs_plain rfl) (show Gives _ _ _ _ (Value.map (some b204)) from Gives.indexMi hE (f := fun b => Value.map (some b)) (l := bs161) ar119 rfl rfl (mcells_all h162) h162 hi201 hb205) rfl ?_; clear hE a; intro a hE
            refine WL.vS hS hE (runs_plain rfl) (Gives.p hE rfl) rfl ?_; clear hE a; intro a hE
            refine WL.vS hS hE (runs_plain rfl) (Gives.p hE rfl) rfl ?_; clear hE a; intro a hE
            refine WL.nil ?_
            refine W.seq ?_
            refine W.region ?_
            refine WL.vS hS hE (runs_plain rfl) (Gives.p hE rfl) rfl ?_; clear hE a; intro a hE
            replace hS := hS.mapsTake 0 rfl hy203 hb205
            refine WL.rangeI hE hS 0 rfl rfl um118 (runs_plain rfl) rfl ?_; clear hE hS a w; intro r207 a w hE hS
            refine WL.nil ?_
            obtain ⟨Q210, hO208, hO191⟩ := AllO.bindP hO191
            refine W.cut (fun a w => ∃ (q224 : List GuidePoint), ∃ (q231 : List (GuidePoint × Bool)), ∃ (a225 : Option Addr), ∃ (c226 : Nat), ∃ (n228 : Nat), ∃ (cs229 : List Value), Q210 (q224, q231) ∧ Ev 3 RGuidePoint s164 cs229 q224 ∧ q224.length = n228 ∧ Rep a 96 [(2, .int .i64 x2), (3, .pointer (some ⟨b51, 0, none⟩)), (9, .map (some b109)), (10, .slice a225 n228 c226), (11, .int .i64 k127), (39, .pointer (some ⟨r112, 0, none⟩)), (47, .agg (mcells 4 bs161).toArray), (48, .int .i64 ((k177 : Nat) : Int)), (4294967295, .int .i64 (D67 : Nat))] ∧ St w s164 (mapsV keyGuidePlace.f Value.bool bs161 q159 :: vecC 62 3 a225 c226 n228 cs229 :: mapC keyGuidePoint.f Value.bool b109 q231 :: pt D67 (.deferred (some [])) :: pt b53 (.cells #[.map (some b52)] 156 (0, 0)) :: iterI keyI.f In.cell b52 r112 l74 (ix123 ++ [j129]) :: pt b51 (.cells #[.slice a0_0 x0.Day.Trains.length c0_0, .slice a0_1 x0.Day.Turns.length c0_1, .int .i64 x0.least] 94 (0, 0)) :: R)) ?_ ?_
            · unfold GuideNetpoints.loop4 at hO208
              refine W.block ?_
              refine W.loop (fun m a w => ∃ (rest214 : List (GuidePlace × Bool)) (ix215 : List Nat) (nn216 : Nat), ∃ (q224 : List GuidePoint), ∃ (q231 : List (GuidePoint × Bool)), ∃ (a225 : Option Addr), ∃ (c226 : Nat), ∃ (n228 : Nat), ∃ (cs229 : List Value), rest214.length = m ∧ rest214.Perm (remI ix215 x199) ∧ rest214.length ≤ nn216 ∧ AllO (rngO (fun x st => GuideNetpoints.loop4.step x0 x2 k127 k177 x.1 x.2 st.1 st.2) nn216 rest214 (q224, q231)) Q210 ∧ Ev 3 RGuidePoint s164 cs229 q224 ∧ q224.length = n228 ∧ Rep a 96 [(2, .int .i64 x2), (3, .pointer (some ⟨b51, 0, none⟩)), (9, .map (some b109)), (10, .slice a225 n228 c226), (11, .int .i64 k127), (13, .int .i64 ((k177 : Nat) : Int)), (39, .pointer (some ⟨r112, 0, none⟩)), (47, .agg (mcells 4 bs161).toArray), (48, .int .i64 ((k177 : Nat) : Int)), (53, .pointer (some ⟨r207, 0, none⟩)), (4294967295, .int .i64 (D67 : Nat))] ∧ St w s164 (iterI keyGuidePlace.f Value.bool b204 r207 x199 ix215 :: mapsV keyGuidePlace.f Value.bool (List.eraseIdx bs161 ((((k177 : Nat) : Int)).toNat)) (List.eraseIdx q159 ((((k177 : Nat) : Int)).toNat)) :: vecC 62 3 a225 c226 n228 cs229 :: mapC keyGuidePoint.f Value.bool b109 q231 :: pt D67 (.deferred (some [])) :: pt b53 (.cells #[.map (some b52)] 156 (0, 0)) :: iterI keyI.f In.cell b52 r112 l74 (ix123 ++ [j129]) :: pt b51 (.cells #[.slice a0_0 x0.Day.Trains.length c0_0, .slice a0_1 x0.Day.Turns.length c0_1, .int .i64 x0.least] 94 (0, 0)) :: R)) (m := (x199).length) ⟨x199, [], (x199).length, q182, q189, a183, c184, q182.length, cs187, rfl, by rw [remI_nil], Nat.le_refl _, hO208, h185, rfl, hE.pick _ ⟨rfl, rfl, rfl, rfl, rfl, rfl, rfl, rfl, rfl, rfl, rfl, trivial⟩, hS⟩ ?_
              clear hE hS a w hO208; rintro m211 a w ⟨rest214, ix215, nn216, q224, q231, a225, c226, n228, cs229, rfl, hp217, hn218, hO208, h227, rfl, hE, hS⟩
              refine W.gen fun K232 hK232 => ?_
              refine W.seq ?_
              refine W.region ?_
              refine WL.nextI hE hS 0 rfl rfl (runs_plain rfl) rfl ?_ ?_
              · intro hall241; clear hE a; intro a hE
                have hz243 := hp217; rw [remI_end hall241] at hz243; obtain rfl := hz243.eq_nil; replace hO208 := rngO_end hO208
                refine WL.vS hS hE (runs_plain rfl) (Gives.p hE rfl) rfl ?_; clear hE a; intro a hE
                refine WL.nil ?_
                refine W.seq ?_
                refine W.condF hE rfl rfl ?_
                subst hK232
                refine W.exit rfl ?_
                replace hS := hS.iDone 0 rfl
                replace hS := St.mapsBack hS hy203 hb205
                exact ⟨q224, q231, a225, c226, q224.length, cs229, hO208, h227, rfl, hE.pick _ ⟨rfl, rfl, rfl, rfl, rfl, rfl, rfl, rfl, rfl, trivial⟩, hS⟩
              · clear hE hS a w; intro j221 x220 a w hp222 hn223 hE hS
                obtain ⟨k219, x220⟩ := x220
                have hy242 := hp222
                obtain ⟨nn236, rest237, Q234, hp238, hn239, hlt240, hO233, hQ235⟩ := rngO_step hn218 (hp217.trans (remI_next hy242 hn223)) hO208
                (try dsimp only at hO233); unfold GuideNetpoints.loop4.step at hO233
                refine WL.vS hS hE (runs_plain rfl) (Gives.p hE rfl) rfl ?_; clear hE a; intro a hE
                refine WL.nil ?_
                refine W.seq ?_
                refine W.condT hE rfl rfl ?_
                refine W.skip ?_
                refine W.block ?_
                refine W.seq ?_
                refine W.region ?_
                refine WL.vS hS hE (runs_plain rfl) (show Gives _ _ _ _ (Value.tuple #[.agg (GuidePlace.cells k219).toArray, .bool x220]) from Gives.entryI (fk := keyGuidePlace.f) (fv := Value.bool) hE 0 (p := (k219, x220)) rfl hp222 rfl) rfl ?_; clear hE a; intro a hE
                refine WL.vS hS hE (runs_plain rfl) (Gives.p hE rfl) rfl ?_; clear hE a; intro a hE
                refine WL.alloc hE hS (runs_plain rfl) zr126 rfl ?_; clear hE hS a w; intro b244 a w hE hS
                refine WL.storeI hE hS 0 rfl (GuidePlace.cells k219) (runs_plain rfl) rfl rfl rfl ty126 rfl rfl rfl rfl ?_; clear hE hS a w; intro a w hE hS
                refine WL.nil ?_
                refine W.seq ?_
                refine W.gen fun K245 hK245 => ?_
                refine W.regionE (sel (fun w => St w s164 (pt b244 (.cells (GuidePlace.cells k219).toArray 126 (0, 0)) :: iterI keyGuidePlace.f Value.bool b204 r207 x199 (ix215 ++ [j221]) :: mapsV keyGuidePlace.f Value.bool (List.eraseIdx bs161 ((((k177 : Nat) : Int)).toNat)) (List.eraseIdx q159 ((((k177 : Nat) : Int)).toNat)) :: vecC 62 3 a225 c226 q224.length cs229 :: mapC keyGuidePoint.f Value.bool b109 q231 :: pt D67 (.deferred (some [])) :: pt b53 (.cells #[.map (some b52)] 156 (0, 0)) :: iterI keyI.f In.cell b52 r112 l74 (ix123 ++ [j129]) :: pt b51 (.cells #[.slice a0_0 x0.Day.Trains.length c0_0, .slice a0_1 x0.Day.Turns.length c0_1, .int .i64 x0.least] 94 (0, 0)) :: R)) (fun w => St w s164 (pt b244 (.cells (GuidePlace.cells k219).toArray 126 (0, 0)) :: iterI keyGuidePlace.f Value.bool b204 r207 x199 (ix215 ++ [j221]) :: mapsV keyGuidePlace.f Value.bool (List.eraseIdx bs161 ((((k177 : Nat) : Int)).toNat)) (List.eraseIdx q159 ((((k177 : Nat) : Int)).toNat)) :: vecC 62 3 a225 c226 q224.length cs229 :: mapC keyGuidePoint.f Value.bool b109 q231 :: pt D67 (.deferred (some [])) :: pt b53 (.cells #[.map (some b52)] 156 (0, 0)) :: iterI keyI.f In.cell b52 r112 l74 (ix123 ++ [j129]) :: pt b51 (.cells #[.slice a0_0 x0.Day.Trains.length c0_0, .slice a0_1 x0.Day.Turns.length c0_1, .int .i64 x0.least] 94 (0, 0)) :: R))) (fun b i => cond b ([0, 1, 2, 3, 4, 5, 6, 7, 8, 9, 10, 11, 12, 13].contains i) ([0, 1, 2, 3, 4, 5, 6, 7, 8, 9, 10, 11, 12, 13].contains i)) mixed ?_
                replace hS := hS.drew
                refine Rg.takeP (i := 0) hE rfl (by kernel_rfl) (runs_plain rfl) (Gives.fld hE rfl fl94_0) rfl (tw_sel (fun _ => hS) (fun _ => hS)) ?_; clear hE a; intro a hE
                refine Rg.takeP (i := 1) hE rfl (by kernel_rfl) (runs_plain rfl) (Gives.fld hE rfl fl25_0) rfl (tw_sel (fun _ => hS) (fun _ => hS)) ?_; clear hE a; intro a hE
                have hT := tw_sel (A := fun w => St w s164 (pt b244 (.cells (GuidePlace.cells k219).toArray 126 (0, 0)) :: iterI keyGuidePlace.f Value.bool b204 r207 x199 (ix215 ++ [j221]) :: mapsV keyGuidePlace.f Value.bool (List.eraseIdx bs161 ((((k177 : Nat) : Int)).toNat)) (List.eraseIdx q159 ((((k177 : Nat) : Int)).toNat)) :: vecC 62 3 a225 c226 q224.length cs229 :: mapC keyGuidePoint.f Value.bool b109 q231 :: pt D67 (.deferred (some [])) :: pt b53 (.cells #[.map (some b52)] 156 (0, 0)) :: iterI keyI.f In.cell b52 r112 l74 (ix123 ++ [j129]) :: pt b51 (.cells #[.slice a0_0 x0.Day.Trains.length c0_0, .slice a0_1 x0.Day.Turns.length c0_1, .int .i64 x0.least] 94 (0, 0)) :: R)) (B := fun w => St w s164 (pt b244 (.cells (GuidePlace.cells k219).toArray 126 (0, 0)) :: iterI keyGuidePlace.f Value.bool b204 r207 x199 (ix215 ++ [j221]) :: mapsV keyGuidePlace.f Value.bool (List.eraseIdx bs161 ((((k177 : Nat) : Int)).toNat)) (List.eraseIdx q159 ((((k177 : Nat) : Int)).toNat)) :: vecC 62 3 a225 c226 q224.length cs229 :: mapC keyGuidePoint.f Value.bool b109 q231 :: pt D67 (.deferred (some [])) :: pt b53 (.cells #[.map (some b52)] 156 (0, 0)) :: iterI keyI.f In.cell b52 r112 l74 (ix123 ++ [j129]) :: pt b51 (.cells #[.slice a0_0 x0.Day.Trains.length c0_0, .slice a0_1 x0.Day.Turns.length c0_1, .int .i64 x0.least] 94 (0, 0)) :: R)) (w := _) (x := true) (y := true) (fun _ => hS) (fun _ => hS)
                have hF := hS; replace hS := hS
                refine Rg.take (i := 2) true rfl hE rfl (by kernel_rfl) (runs_plain rfl) (Gives.loadB hE 8 rfl rfl rfl ty22) rfl hT ?_; clear hE a; intro a hE
                replace hS := hF; clear hF hT
                refine Rg.takeP (i := 3) hE rfl (by kernel_rfl) (runs_plain rfl) (Gives.fld hE rfl fl126_0) rfl (tw_sel (fun _ => hS) (fun _ => hS)) ?_; clear hE a; intro a hE
                have hT := tw_sel (A := fun w => St w s164 (pt b244 (.cells (GuidePlace.cells k219).toArray 126 (0, 0)) :: iterI keyGuidePlace.f Value.bool b204 r207 x199 (ix215 ++ [j221]) :: mapsV keyGuidePlace.f Value.bool (List.eraseIdx bs161 ((((k177 : Nat) : Int)).toNat)) (List.eraseIdx q159 ((((k177 : Nat) : Int)).toNat)) :: vecC 62 3 a225 c226 q224.length cs229 :: mapC keyGuidePoint.f Value.bool b109 q231 :: pt D67 (.deferred (some [])) :: pt b53 (.cells #[.map (some b52)] 156 (0, 0)) :: iterI keyI.f In.cell b52 r112 l74 (ix123 ++ [j129]) :: pt b51 (.cells #[.slice a0_0 x0.Day.Trains.length c0_0, .slice a0_1 x0.Day.Turns.length c0_1, .int .i64 x0.least] 94 (0, 0)) :: R)) (B := fun w => St w s164 (pt b244 (.cells (GuidePlace.cells k219).toArray 126 (0, 0)) :: iterI keyGuidePlace.f Value.bool b204 r207 x199 (ix215 ++ [j221]) :: mapsV keyGuidePlace.f Value.bool (List.eraseIdx bs161 ((((k177 : Nat) : Int)).toNat)) (List.eraseIdx q159 ((((k177 : Nat) : Int)).toNat)) :: vecC 62 3 a225 c226 q224.length cs229 :: mapC keyGuidePoint.f Value.bool b109 q231 :: pt D67 (.deferred (some [])) :: pt b53 (.cells #[.map (some b52)] 156 (0, 0)) :: iterI keyI.f In.cell b52 r112 l74 (ix123 ++ [j129]) :: pt b51 (.cells #[.slice a0_0 x0.Day.Trains.length c0_0, .slice a0_1 x0.Day.Turns.length c0_1, .int .i64 x0.least] 94 (0, 0)) :: R)) (w := _) (x := true) (y := true) (fun _ => hS) (fun _ => hS)
                have hF := hS; replace hS := hS
                refine Rg.take (i := 4) true rfl hE rfl (by kernel_rfl) (runs_plain rfl) (Gives.loadB hE 0 rfl rfl rfl ty3) rfl hT ?_; clear hE a; intro a hE
                replace hS := hF; clear hF hT
                obtain ⟨x246, hx247, hO233⟩ := AllO.bind hO233
                obtain ⟨hi248, hlt249, hy250⟩ := gx_some hx247
                obtain ⟨cs251, hl252, hR253, hat254⟩ := h0_0.at hy250
                obtain ⟨a255, c256, a258, c259, rfl, h257, h260⟩ := hR253
                refine Rg.takeP (i := 5) hE rfl (by kernel_rfl) (runs_plain rfl) (Gives.idx hE (k219.train).toNat rfl rfl sl22 hi248 hlt249 (h0_0.aok hlt249)) rfl (tw_sel (fun _ => hS) (fun _ => hS)) ?_; clear hE a; intro a hE
                refine Rg.takeP (i := 6) hE rfl (by kernel_rfl) (runs_plain rfl) (Gives.fld hE rfl fl44_2) rfl (tw_sel (fun _ => hS) (fun _ => hS)) ?_; clear hE a; intro a hE
                have hT := tw_sel (A := fun w => St w s164 (pt b244 (.cells (GuidePlace.cells k219).toArray 126 (0, 0)) :: iterI keyGuidePlace.f Value.bool b204 r207 x199 (ix215 ++ [j221]) :: mapsV keyGuidePlace.f Value.bool (List.eraseIdx bs161 ((((k177 : Nat) : Int)).toNat)) (List.eraseIdx q159 ((((k177 : Nat) : Int)).toNat)) :: vecC 62 3 a225 c226 q224.length cs229 :: mapC keyGuidePoint.f Value.bool b109 q231 :: pt D67 (.deferred (some [])) :: pt b53 (.cells #[.map (some b52)] 156 (0, 0)) :: iterI keyI.f In.cell b52 r112 l74 (ix123 ++ [j129]) :: pt b51 (.cells #[.slice a0_0 x0.Day.Trains.length c0_0, .slice a0_1 x0.Day.Turns.length c0_1, .int .i64 x0.least] 94 (0, 0)) :: R)) (B := fun w => St w s164 (pt b244 (.cells (GuidePlace.cells k219).toArray 126 (0, 0)) :: iterI keyGuidePlace.f Value.bool b204 r207 x199 (ix215 ++ [j221]) :: mapsV keyGuidePlace.f Value.bool (List.eraseIdx bs161 ((((k177 : Nat) : Int)).toNat)) (List.eraseIdx q159 ((((k177 : Nat) : Int)).toNat)) :: vecC 62 3 a225 c226 q224.length cs229 :: mapC keyGuidePoint.f Value.bool b109 q231 :: pt D67 (.deferred (some [])) :: pt b53 (.cells #[.map (some b52)] 156 (0, 0)) :: iterI keyI.f In.cell b52 r112 l74 (ix123 ++ [j129]) :: pt b51 (.cells #[.slice a0_0 x0.Day.Trains.length c0_0, .slice a0_1 x0.Day.Turns.length c0_1, .int .i64 x0.least] 94 (0, 0)) :: R)) (w := _) (x := true) (y := true) (fun _ => hS) (fun _ => hS)
                have hF := hS; replace hS := hS
                refine Rg.take (i := 7) true rfl hE rfl (by kernel_rfl) (runs_plain rfl) (Gives.load1 hE rfl (fun w h => (hat254 w _ h).one rfl) ty42) rfl hT ?_; clear hE a; intro a hE
                replace hS := hF; clear hF hT
                refine Rg.takeP (i := 8) hE rfl (by kernel_rfl) (runs_plain rfl) (Gives.fld hE rfl fl126_1) rfl (tw_sel (fun _ => hS) (fun _ => hS)) ?_; clear hE a; intro a hE
                have hT := tw_sel (A := fun w => St w s164 (pt b244 (.cells (GuidePlace.cells k219).toArray 126 (0, 0)) :: iterI keyGuidePlace.f Value.bool b204 r207 x199 (ix215 ++ [j221]) :: mapsV keyGuidePlace.f Value.bool (List.eraseIdx bs161 ((((k177 : Nat) : Int)).toNat)) (List.eraseIdx q159 ((((k177 : Nat) : Int)).toNat)) :: vecC 62 3 a225 c226 q224.length cs229 :: mapC keyGuidePoint.f Value.bool b109 q231 :: pt D67 (.deferred (some [])) :: pt b53 (.cells #[.map (some b52)] 156 (0, 0)) :: iterI keyI.f In.cell b52 r112 l74 (ix123 ++ [j129]) :: pt b51 (.cells #[.slice a0_0 x0.Day.Trains.length c0_0, .slice a0_1 x0.Day.Turns.length c0_1, .int .i64 x0.least] 94 (0, 0)) :: R)) (B := fun w => St w s164 (pt b244 (.cells (GuidePlace.cells k219).toArray 126 (0, 0)) :: iterI keyGuidePlace.f Value.bool b204 r207 x199 (ix215 ++ [j221]) :: mapsV keyGuidePlace.f Value.bool (List.eraseIdx bs161 ((((k177 : Nat) : Int)).toNat)) (List.eraseIdx q159 ((((k177 : Nat) : Int)).toNat)) :: vecC 62 3 a225 c226 q224.length cs229 :: mapC keyGuidePoint.f Value.bool b109 q231 :: pt D67 (.deferred (some [])) :: pt b53 (.cells #[.map (some b52)] 156 (0, 0)) :: iterI keyI.f In.cell b52 r112 l74 (ix123 ++ [j129]) :: pt b51 (.cells #[.slice a0_0 x0.Day.Trains.length c0_0, .slice a0_1 x0.Day.Turns.length c0_1, .int .i64 x0.least] 94 (0, 0)) :: R)) (w := _) (x := true) (y := true) (fun _ => hS) (fun _ => hS)
                have hF := hS; replace hS := hS
                refine Rg.take (i := 9) true rfl hE rfl (by kernel_rfl) (runs_plain rfl) (Gives.loadB hE 0 rfl rfl rfl ty3) rfl hT ?_; clear hE a; intro a hE
                replace hS := hF; clear hF hT
                obtain ⟨x261, hx262, hO233⟩ := AllO.bind hO233
                obtain ⟨hi263, hlt264, hy265⟩ := gx_some hx262
                obtain ⟨cs266, hl267, hR268, hat269⟩ := h257.at hy265
                subst hR268
                refine Rg.takeP (i := 10) hE rfl (by kernel_rfl) (runs_plain rfl) (Gives.idx hE (k219.off).toNat rfl rfl sl42 hi263 hlt264 (h257.aok hlt264)) rfl (tw_sel (fun _ => hS) (fun _ => hS)) ?_; clear hE a; intro a hE
                have hT := tw_sel (A := fun w => St w s164 (pt b244 (.cells (GuidePlace.cells k219).toArray 126 (0, 0)) :: iterI keyGuidePlace.f Value.bool b204 r207 x199 (ix215 ++ [j221]) :: mapsV keyGuidePlace.f Value.bool (List.eraseIdx bs161 ((((k177 : Nat) : Int)).toNat)) (List.eraseIdx q159 ((((k177 : Nat) : Int)).toNat)) :: vecC 62 3 a225 c226 q224.length cs229 :: mapC keyGuidePoint.f Value.bool b109 q231 :: pt D67 (.deferred (some [])) :: pt b53 (.cells #[.map (some b52)] 156 (0, 0)) :: iterI keyI.f In.cell b52 r112 l74 (ix123 ++ [j129]) :: pt b51 (.cells #[.slice a0_0 x0.Day.Trains.length c0_0, .slice a0_1 x0.Day.Turns.length c0_1, .int .i64 x0.least] 94 (0, 0)) :: R)) (B := fun w => St w s164 (pt b244 (.cells (GuidePlace.cells k219).toArray 126 (0, 0)) :: iterI keyGuidePlace.f Value.bool b204 r207 x199 (ix215 ++ [j221]) :: mapsV keyGuidePlace.f Value.bool (List.eraseIdx bs161 ((((k177 : Nat) : Int)).toNat)) (List.eraseIdx q159 ((((k177 : Nat) : Int)).toNat)) :: vecC 62 3 a225 c226 q224.length cs229 :: mapC keyGuidePoint.f Value.bool b109 q231 :: pt D67 (.deferred (some [])) :: pt b53 (.cells #[.map (some b52)] 156 (0, 0)) :: iterI keyI.f In.cell b52 r112 l74 (ix123 ++ [j129]) :: pt b51 (.cells #[.slice a0_0 x0.Day.Trains.length c0_0, .slice a0_1 x0.Day.Turns.length c0_1, .int .i64 x0.least] 94 (0, 0)) :: R)) (w := _) (x := true) (y := true) (fun _ => hS) (fun _ => hS)
                have hF := hS; replace hS := hS
                refine Rg.take (i := 11) true rfl hE rfl (by kernel_rfl) (runs_plain rfl) (Gives.loadA hE rfl (fun w h => hat269 w _ h) ty106) rfl hT ?_; clear hE a; intro a hE
                replace hS := hF; clear hF hT
                refine Rg.one (i := 12) true true rfl (by kernel_rfl) (by kernel_rfl) (by kernel_rfl) ?_
                refine WL.alloc hE hS (runs_plain rfl) zr106 rfl ?_; clear hE hS a w; intro b270 a w hE hS
                refine WL.nil ?_
                refine ⟨⟨fun _ => (hS.tail), fun _ => (hS.tail)⟩, ?_⟩
                refine Rg.one (i := 13) true true rfl (by kernel_rfl) (by kernel_rfl) (by kernel_rfl) ?_
                refine WL.storeI hE hS 0 rfl (ApiStop.cells x261) (runs_plain rfl) rfl rfl rfl ty106 rfl rfl rfl rfl ?_; clear hE hS a w; intro a w hE hS
                refine WL.nil ?_
                refine ⟨⟨fun _ => (hS.tail), fun _ => (hS.tail)⟩, ?_⟩
                refine Rg.done (by kernel_rfl) ?_
                subst hK245
                refine W.seq ?_
                refine W.region ?_
                refine WL.vS hS hE (runs_plain rfl) (Gives.p hE rfl) rfl ?_; clear hE a; intro a hE
                refine WL.vS hS hE (runs_plain rfl) (Gives.fld hE rfl fl106_2) rfl ?_; clear hE a; intro a hE
                refine WL.vS hS hE (runs_plain rfl) (Gives.loadB hE 0 rfl rfl rfl ty3) rfl ?_; clear hE a; intro a hE
                refine WL.vS hS hE (runs_plain rfl) (Gives.p hE rfl) rfl ?_; clear hE a; intro a hE
                refine WL.vS hS hE (runs_plain rfl) (Gives.inc hE rfl (by omega)) rfl ?_; clear hE a; intro a hE
                refine WL.vS hS hE (runs_plain rfl) (Gives.build hE (vs := [(0, .int .i64 k127), (1, .int .i64 x261.Arr), (2, .int .i64 ((k177 + 1 : Nat) : Int))]) [.int .i64 k127, .int .i64 x261.Arr, .int .i64 ((k177 + 1 : Nat) : Int)] rfl (by kernel_rfl)) rfl ?_; clear hE a; intro a hE
                refine WL.alloc hE hS (runs_plain rfl) zr62 rfl ?_; clear hE hS a w; intro b271 a w hE hS
                refine WL.storeI hE hS 0 rfl [.int .i64 k127, .int .i64 x261.Arr, .int .i64 ((k177 + 1 : Nat) : Int)] (runs_plain rfl) rfl rfl rfl ty62 rfl rfl rfl rfl ?_; clear hE hS a w; intro a w hE hS
                refine WL.nil ?_
                refine W.seq ?_
                obtain ⟨q273, hq272, hO233⟩ := AllO.bnd hO233
                refine W.cut (fun a w => ∃ (q276 : Bool), q276 = q273 ∧ Rep a 96 [(2, .int .i64 x2), (3, .pointer (some ⟨b51, 0, none⟩)), (9, .map (some b109)), (10, .slice a225 q224.length c226), (11, .int .i64 k127), (13, .int .i64 ((k177 : Nat) : Int)), (17, .pointer (some ⟨b271, 0, none⟩)), (39, .pointer (some ⟨r112, 0, none⟩)), (47, .agg (mcells 4 bs161).toArray), (48, .int .i64 ((k177 : Nat) : Int)), (53, .pointer (some ⟨r207, 0, none⟩)), (85, .bool q276), (4294967295, .int .i64 (D67 : Nat))] ∧ St w s164 (pt b271 (.cells #[.int .i64 k127, .int .i64 x261.Arr, .int .i64 ((k177 + 1 : Nat) : Int)] 62 (0, 0)) :: pt b270 (.cells (ApiStop.cells x261).toArray 106 (0, 0)) :: pt b244 (.cells (GuidePlace.cells k219).toArray 126 (0, 0)) :: iterI keyGuidePlace.f Value.bool b204 r207 x199 (ix215 ++ [j221]) :: mapsV keyGuidePlace.f Value.bool (List.eraseIdx bs161 ((((k177 : Nat) : Int)).toNat)) (List.eraseIdx q159 ((((k177 : Nat) : Int)).toNat)) :: vecC 62 3 a225 c226 q224.length cs229 :: mapC keyGuidePoint.f Value.bool b109 q231 :: pt D67 (.deferred (some [])) :: pt b53 (.cells #[.map (some b52)] 156 (0, 0)) :: iterI keyI.f In.cell b52 r112 l74 (ix123 ++ [j129]) :: pt b51 (.cells #[.slice a0_0 x0.Day.Trains.length c0_0, .slice a0_1 x0.Day.Turns.length c0_1, .int .i64 x0.least] 94 (0, 0)) :: R)) ?_ ?_
                · refine W.gen fun K277 hK277 => ?_
                  refine W.region ?_
                  refine WL.vS hS hE (runs_plain rfl) (Gives.fld hE rfl fl106_0) rfl ?_; clear hE a; intro a hE
                  refine WL.vS hS hE (runs_plain rfl) (Gives.loadB hE 1 rfl rfl rfl ty3) rfl ?_; clear hE a; intro a hE
                  refine WL.vS hS hE (runs_plain rfl) (Gives.p hE rfl) rfl ?_; clear hE a; intro a hE
                  refine WL.vS hS hE (runs_plain rfl) (Gives.p hE rfl) rfl ?_; clear hE a; intro a hE
                  refine WL.vS hS hE (runs_plain rfl) (Gives.p hE rfl) rfl ?_; clear hE a; intro a hE
                  rcases Bool.eq_false_or_eq_true (x261.Station == x2) with hg278 | hg278
                  · replace hq272 := iteT hg278 hq272
                    refine WL.vS hS hE (runs_if hE rfl rfl rfl hg278) (Gives.p hE rfl) rfl ?_; clear hE a; intro a hE
                    refine WL.vS hS hE (runs_if hE rfl rfl rfl hg278) (Gives.loadBA hE 0 rfl rfl ty62) rfl ?_; clear hE a; intro a hE
                    refine WL.vS hS hE (runs_if hE rfl rfl rfl hg278) (Gives.mapGetS keyGuidePoint hE 6 (k := (GuidePoint.mk k127 x261.Arr ((k177 + 1 : Nat) : Int))) (z := false) rfl rfl rfl mp157 zm4) rfl ?_; clear hE a; intro a hE
                    refine WL.vS hS hE (runs_if hE rfl rfl rfl hg278) (Gives.p hE rfl) rfl ?_; clear hE a; intro a hE
                    refine WL.vS hS hE (runs_plain rfl) (Gives.pickT hE rfl hg278 rfl) rfl ?_; clear hE a; intro a hE
                    refine WL.nil ?_
                    subst hK277
                    exact ⟨!((mget q231 (GuidePoint.mk k127 x261.Arr ((k177 + 1 : Nat) : Int))).getD false), hq272, hE.pick _ ⟨rfl, rfl, rfl, rfl, rfl, rfl, rfl, rfl, rfl, rfl, rfl, rfl, rfl, trivial⟩, hS⟩
                  · replace hq272 := iteF hg278 hq272
                    refine WL.no hE (runs_not hE rfl rfl rfl (by rw [hg278]; decide)) rfl ?_; clear hE a; intro a hE
                    refine WL.no hE (runs_not hE rfl rfl rfl (by rw [hg278]; decide)) rfl ?_; clear hE a; intro a hE
                    refine WL.no hE (runs_not hE rfl rfl rfl (by rw [hg278]; decide)) rfl ?_; clear hE a; intro a hE
                    refine WL.no hE (runs_not hE rfl rfl rfl (by rw [hg278]; decide)) rfl ?_; clear hE a; intro a hE
                    refine WL.vS hS hE (runs_plain rfl) (Gives.pickF hE rfl hg278 rfl) rfl ?_; clear hE a; intro a hE
                    refine WL.nil ?_
                    subst hK277
                    exact ⟨false, hq272, hE.pick _ ⟨rfl, rfl, rfl, rfl, rfl, rfl, rfl, rfl, rfl, rfl, rfl, rfl, rfl, trivial⟩, hS⟩
                · clear hE hS a w; rintro a w ⟨q276, rfl, hE, hS⟩
                  obtain ⟨q280, hq279, hO233⟩ := AllO.bind hO233
                  refine W.cut (fun a w => ∃ (q283 : List GuidePoint), ∃ (q290 : List (GuidePoint × Bool)), ∃ (a284 : Option Addr), ∃ (c285 : Nat), ∃ (n287 : Nat), ∃ (cs288 : List Value), (q283, q290) = q280 ∧ Ev 3 RGuidePoint s164 cs288 q283 ∧ q283.length = n287 ∧ Rep a 96 [(2, .int .i64 x2), (3, .pointer (some ⟨b51, 0, none⟩)), (9, .map (some b109)), (10, .slice a284 n287 c285), (11, .int .i64 k127), (13, .int .i64 ((k177 : Nat) : Int)), (39, .pointer (some ⟨r112, 0, none⟩)), (47, .agg (mcells 4 bs161).toArray), (48, .int .i64 ((k177 : Nat) : Int)), (53, .pointer (some ⟨r207, 0, none⟩)), (4294967295, .int .i64 (D67 : Nat))] ∧ St w s164 (pt b271 (.cells #[.int .i64 k127, .int .i64 x261.Arr, .int .i64 ((k177 + 1 : Nat) : Int)] 62 (0, 0)) :: pt b270 (.cells (ApiStop.cells x261).toArray 106 (0, 0)) :: pt b244 (.cells (GuidePlace.cells k219).toArray 126 (0, 0)) :: iterI keyGuidePlace.f Value.bool b204 r207 x199 (ix215 ++ [j221]) :: mapsV keyGuidePlace.f Value.bool (List.eraseIdx bs161 ((((k177 : Nat) : Int)).toNat)) (List.eraseIdx q159 ((((k177 : Nat) : Int)).toNat)) :: vecC 62 3 a284 c285 n287 cs288 :: mapC keyGuidePoint.f Value.bool b109 q290 :: pt D67 (.deferred (some [])) :: pt b53 (.cells #[.map (some b52)] 156 (0, 0)) :: iterI keyI.f In.cell b52 r112 l74 (ix123 ++ [j129]) :: pt b51 (.cells #[.slice a0_0 x0.Day.Trains.length c0_0, .slice a0_1 x0.Day.Turns.length c0_1, .int .i64 x0.least] 94 (0, 0)) :: R)) ?_ ?_
                  · refine W.gen fun K291 hK291 => ?_
                    refine W.cond hE rfl (fun hc292 => ?_) (fun hc292 => ?_)
                    · replace hq279 := iteT hc292 hq279
                      refine W.seq ?_
                      refine W.region ?_
                      refine WL.vS hS hE (runs_plain rfl) (Gives.p hE rfl) rfl ?_; clear hE a; intro a hE
                      refine WL.vS hS hE (runs_plain rfl) (Gives.loadBA hE 0 rfl rfl ty62) rfl ?_; clear hE a; intro a hE
                      refine WL.mapSetS keyGuidePoint hE hS 6 (k := (GuidePoint.mk k127 x261.Arr ((k177 + 1 : Nat) : Int))) (v := true) (.inl rfl) (runs_plain rfl) rfl rfl rfl rfl mp157 rfl ?_; clear hE hS a w; intro a w hE hS
                      refine WL.nil ?_
                      refine W.region ?_
                      refine WL.vS hS hE (runs_plain rfl) (Gives.p hE rfl) rfl ?_; clear hE a; intro a hE
                      refine WL.vS hS hE (runs_plain rfl) (Gives.loadBA hE 0 rfl rfl ty62) rfl ?_; clear hE a; intro a hE
                      refine WL.lit hE hS (e := 62) (es := 3) (vs := [(0, .agg [.int .i64 k127, .int .i64 x261.Arr, .int .i64 ((k177 + 1 : Nat) : Int)].toArray)]) (cs := [.int .i64 k127, .int .i64 x261.Arr, .int .i64 ((k177 + 1 : Nat) : Int)]) (runs_plain rfl) rfl (by kernel_rfl) rfl ?_; clear hE hS a w; intro b293 a w hE hS
                      obtain ⟨x294, hx295, hq279⟩ := bindS hq279
                      refine WL.appD hE hS 5 (m := 1) (runs_plain rfl) rfl rfl rfl ap55 rfl h227 rfl (xs := [(GuidePoint.mk k127 x261.Arr ((k177 + 1 : Nat) : Int))]) (Ev.cons (c1 := [.int .i64 k127, .int .i64 x261.Arr, .int .i64 ((k177 + 1 : Nat) : Int)]) rfl rfl (Ev.nil)) rfl rfl hx295 rfl ?_; clear hE hS a w; intro a296 c297 cs298 a w h299 hE hS
                      refine WL.vS hS hE (runs_plain rfl) (Gives.p hE rfl) rfl ?_; clear hE a; intro a hE
                      refine WL.nil ?_
                      subst hK291
                      exact ⟨x294, (mput q231 (GuidePoint.mk k127 x261.Arr ((k177 + 1 : Nat) : Int)) true), a296, c297, x294.length, cs298, Option.some.inj hq279, h299, (rfl), hE.pick _ ⟨rfl, rfl, rfl, rfl, rfl, rfl, rfl, rfl, rfl, rfl, rfl, trivial⟩, hS⟩
                    · replace hq279 := iteF hc292 hq279
                      refine W.skip ?_
                      subst hK291
                      exact ⟨q224, q231, a225, c226, q224.length, cs229, Option.some.inj hq279, h227, rfl, hE.pick _ ⟨rfl, rfl, rfl, rfl, rfl, rfl, rfl, rfl, rfl, rfl, rfl, trivial⟩, hS⟩
                  · clear hE hS a w; rintro a w ⟨q283, q290, a284, c285, n287, cs288, rfl, h286, rfl, hE, hS⟩
                    dsimp only at hO233
                    replace hS := hS.tail
                    replace hS := hS.tail
                    replace hS := hS.tail
                    subst hK232
                    exact ⟨rest237.length, hlt240, rest237, ix215 ++ [j221], nn236, q283, q290, a284, c285, q283.length, cs288, rfl, hp238, hn239, hQ235 _ (AllO.done hO233), h286, rfl, hE.pick _ ⟨rfl, rfl, rfl, rfl, rfl, rfl, rfl, rfl, rfl, rfl, rfl, trivial⟩, hS⟩
            · clear hE hS a w; rintro a w ⟨q224, q231, a225, c226, n228, cs229, hO208, h227, rfl, hE, hS⟩
              replace hO191 := hO191 _ hO208
              dsimp only at hO191
              refine W.region ?_
              refine WL.vS hS hE (runs_plain rfl) (Gives.inc hE rfl (by omega)) rfl ?_; clear hE a; intro a hE
              refine WL.vS hS hE (runs_plain rfl) (Gives.p hE rfl) rfl ?_; clear hE a; intro a hE
              refine WL.nil ?_
              subst hK190
              exact ⟨rest172, Nat.lt_succ_self _, rest172, k177 + 1, q224, q231, a225, c226, q224.length, cs229, rfl, by omega, hQ193 _ (AllO.done hO191), h227, rfl, hE.pick _ ⟨rfl, rfl, rfl, rfl, rfl, rfl, rfl, rfl, rfl, trivial⟩, hS⟩
        · clear hE hS a w; rintro a w ⟨q182, q189, a183, c184, n186, cs187, hO166, h185, rfl, hE, hS⟩
          replace hO141 := hO141 _ hO166
          dsimp only at hO141
          replace hS := hS.tail
          subst hK140
          exact ⟨rest145.length, hlt148, rest145, ix123 ++ [j129], nn144, q182, q189, a183, c184, q182.length, cs187, s164, rfl, hp146, hn147, (Sg.Le.trans hle121 hle165), hQ143 _ (AllO.done hO141), h185, rfl, hE.pick _ ⟨rfl, rfl, rfl, rfl, rfl, rfl, trivial⟩, hS⟩
    · clear hE hS a w; rintro a w ⟨q132, q139, a133, c134, n136, cs137, s120, hle121, hO116, h135, rfl, hE, hS⟩
      replace hr := hr _ hO116
      dsimp only at hr
      replace h115 := MSl.mono RGuideRide.mono hle121 h115
      replace h0_0 := Sl.mono RApiTrain.mono hle121 h0_0
      replace h0_1 := Sl.mono (RL.mono RI.mono) hle121 h0_1
      refine W.seq ?_
      refine W.region ?_
      refine WL.vS hS hE (runs_plain rfl) (Gives.p hE rfl) rfl ?_; clear hE a; intro a hE
      obtain ⟨q300, hq301, hr⟩ := AllO.bind hr
      have hc_ := SlicesSortFuncLguidePoint_v1_ok hS h135 rfl hq301
      refine WL.fnq hE (hc_) (runs_plain rfl) bd80 rfl rfl rfl ?_
      clear hE hS hc_; rintro e w ⟨cs302, rfl, h303, hn304, hS⟩; refine ⟨_, rfl, ?_⟩; clear a; intro a hE
      refine WL.nil ?_
      refine W.seq ?_
      refine W.region ?_
      refine WL.vS hS hE (runs_plain rfl) (Gives.p hE rfl) rfl ?_; clear hE a; intro a hE
      refine WL.vS hS hE (runs_plain rfl) (Gives.p hE rfl) rfl ?_; clear hE a; intro a hE
      refine WL.nil ?_
      refine W.ret ?_
      refine finGM (fn := Tryd.f49) (rs := [.tmp 6]) (vs := [.slice a133 q132.length c134]) hE hS 2 rfl rfl ?_
      clear hS; intro w hS
      refine ⟨⟨rfl, trivial⟩, ?_⟩
      obtain rfl := AllO.done hr
      replace hS := hS.dropAt 1
      replace hS := hS.dropAt 1
      replace hS := hS.dropAt 1
      replace hS := hS.dropAt 1
      exact ⟨a133, c134, q132.length, cs302, s120, rfl, (Sg.Le.trans (Sg.Le.trans (Sg.Le.trans hle59 hle72) hle114) hle121), h303, hn304, hS⟩
set_option maxHeartbeats 8000000 in
theorem GuideNetearliest_1_v1_ok  {w : World} {s : Sg} {R : List HP} {pb0 : Nat} {x0 : GuidePoint} {y0 : Int} (hS : St w s (pt pb0 (.cells #[.int .i64 y0] 3 (0, 0)) :: R))  {r : Bool} (hr : GuideNetearliest_1_v1 x0 y0 = r) :
    Calls Tryd.prog 96 [.agg (GuidePoint.cells x0).toArray, .pointer (some ⟨pb0, 0, none⟩)].toArray w (fun e w => e = .returned (.bool r) ∧ St w s (pt pb0 (.cells #[.int .i64 y0] 3 (0, 0)) :: R)) := by
  refine enter Tryd.func96 rfl rfl rfl fun a hE => ?_
  rw [GuideNetearliest_1_v1] at hr
  refine W.seq ?_
  refine W.region ?_
  refine WL.box hE hS (runs_plain rfl) rfl rfl rfl ?_; clear hE hS a w; intro b51 a w hE hS
  refine WL.vS hS hE (runs_plain rfl) (Gives.p hE rfl) rfl ?_; clear hE a; intro a hE
  refine WL.nil ?_
  refine W.seq ?_
  refine W.region ?_
  refine WL.vS hS hE (runs_plain rfl) (Gives.fld hE rfl fl62_0) rfl ?_; clear hE a; intro a hE
  refine WL.vS hS hE (runs_plain rfl) (Gives.loadB hE 0 rfl rfl rfl ty3) rfl ?_; clear hE a; intro a hE
  refine WL.vS hS hE (runs_plain rfl) (Gives.loadB hE 1 rfl rfl rfl ty3) rfl ?_; clear hE a; intro a hE
  refine WL.vS hS hE (runs_plain rfl) (Gives.p hE rfl) rfl ?_; clear hE a; intro a hE
  refine WL.vS hS hE (runs_plain rfl) (Gives.p hE rfl) rfl ?_; clear hE a; intro a hE
  refine WL.nil ?_
  refine W.ret ?_
  refine finG (fn := Tryd.f96) (rs := [.tmp 3]) (vs := [_]) hE rfl ⟨rfl, trivial⟩ ?_
  subst hr
  replace hS := hS.tail
  exact ⟨rfl, hS⟩
set_option maxHeartbeats 8000000 in
theorem SlicesIndexFuncLguidePoint_v1_ok  {w : World} {s : Sg} {R : List HP} {pb0 : Nat} {x0 : List GuidePoint} {a0 : Option Addr} {c0 : Nat} {y0 : Int} (hS : St w s (pt pb0 (.cells #[.int .i64 y0] 3 (0, 0)) :: R)) (h0 : Sl 3 RGuidePoint s a0 c0 x0) {r : Int} (hr : SlicesIndexFuncLguidePoint_v1 x0 y0 = r) :
    Calls Tryd.prog 98 [.slice a0 x0.length c0, .func (.func 96) #[] #[.pointer (some ⟨pb0, 0, none⟩)]].toArray w (fun e w => e = .returned (.int .i64 r) ∧ St w s (pt pb0 (.cells #[.int .i64 y0] 3 (0, 0)) :: R)) := by
  refine enter Tryd.func98 rfl rfl rfl fun a hE => ?_
  rw [SlicesIndexFuncLguidePoint_v1] at hr
  refine W.seq ?_
  refine W.region ?_
  refine WL.vS hS hE (runs_plain rfl) (Gives.p hE rfl) rfl ?_; clear hE a; intro a hE
  refine WL.nil ?_
  refine W.seq ?_
  refine W.seq ?_
  refine W.region ?_
  refine WL.vS hS hE (runs_plain rfl) (Gives.p hE rfl) rfl ?_; clear hE a; intro a hE
  refine WL.vS hS hE (runs_plain rfl) (Gives.len hE rfl sl55) rfl ?_; clear hE a; intro a hE
  refine WL.vS hS hE (runs_plain rfl) (Gives.p hE rfl) rfl ?_; clear hE a; intro a hE
  refine WL.nil ?_
  obtain ⟨q52, hq51, hr⟩ := bndS hr
  refine W.cut (fun a w => (.next ()) = q52 ∧ Rep a 19 [] ∧ St w s (pt pb0 (.cells #[.int .i64 y0] 3 (0, 0)) :: R)) ?_ ?_
  · refine W.block ?_
    refine W.loop (fun m a w => ∃ (rest55 : List GuidePoint) (k53 : Nat), rest55.length = m ∧ x0.drop k53 = rest55 ∧ SlicesIndexFuncLguidePoint_v1.loop1 y0 rest55 k53 = q52 ∧ Rep a 19 [(0, .slice a0 x0.length c0), (1, .func (.func 96) #[] #[.pointer (some ⟨pb0, 0, none⟩)]), (7, .int .i64 ((x0).length : Int)), (8, .int .i64 ((k53 : Nat) : Int))] ∧ St w s (pt pb0 (.cells #[.int .i64 y0] 3 (0, 0)) :: R)) (m := x0.length) ⟨x0, 0, rfl, rfl, hq51, hE.pick _ ⟨rfl, rfl, rfl, rfl, trivial⟩, hS⟩ ?_
    clear hE hS a w hq51; rintro m59 a w ⟨rest55, k53, rfl, hd56, hq51, hE, hS⟩
    refine W.gen fun K62 hK62 => ?_
    rcases rest55 with _ | ⟨x54, rest55⟩
    · have hlt57 := drop_nil hd56
      refine W.seq ?_
      refine W.region ?_
      refine WL.vS hS hE (runs_plain rfl) (Gives.p hE rfl) rfl ?_; clear hE a; intro a hE
      refine WL.nil ?_
      refine W.seq ?_
      refine W.condF hE rfl (decide_eq_false (by omega)) ?_
      subst hK62
      refine W.exit rfl ?_
      exact ⟨hq51, hE.pick _ trivial, hS⟩
    · obtain ⟨hlt57, hx58, hd56⟩ := drop_cons hd56
      rw [SlicesIndexFuncLguidePoint_v1.loop1] at hq51
      refine W.seq ?_
      refine W.region ?_
      refine WL.vS hS hE (runs_plain rfl) (Gives.p hE rfl) rfl ?_; clear hE a; intro a hE
      refine WL.nil ?_
      refine W.seq ?_
      refine W.condT hE rfl (decide_eq_true (by omega)) ?_
      refine W.skip ?_
      refine W.seq ?_
      refine W.block ?_
      refine W.seq ?_
      refine W.region ?_
      refine WL.vS hS hE (runs_plain rfl) (Gives.p hE rfl) rfl ?_; clear hE a; intro a hE
      refine WL.vS hS hE (runs_plain rfl) (Gives.p hE rfl) rfl ?_; clear hE a; intro a hE
      refine WL.nil ?_
      refine W.seq ?_
      refine W.region ?_
      refine WL.vS hS hE (runs_plain rfl) (Gives.p hE rfl) rfl ?_; clear hE a; intro a hE
      refine WL.vS hS hE (runs_plain rfl) (Gives.p hE rfl) rfl ?_; clear hE a; intro a hE
      refine WL.vS hS hE (runs_plain rfl) (Gives.p hE rfl) rfl ?_; clear hE a; intro a hE
      obtain ⟨cs63, hl64, hR65, hat66⟩ := h0.at hx58
      subst hR65
      refine WL.vS hS hE (runs_plain rfl) (Gives.idx hE k53 rfl rfl sl55 rfl hlt57 (h0.aok hlt57)) rfl ?_; clear hE a; intro a hE
      refine WL.vS hS hE (runs_plain rfl) (Gives.loadA hE rfl (fun w h => hat66 w _ h) ty62) rfl ?_; clear hE a; intro a hE
      refine WL.fnw hE (GuideNetearliest_1_v1_ok hS  rfl (r := GuideNetearliest_1_v1 x54 y0)) rfl (runs_plain rfl) bd96 rfl rfl rfl ?_
      clear hE hS; rintro e w ⟨rfl, hS⟩; refine ⟨_, rfl, ?_⟩; clear a; intro a hE
      refine WL.nil ?_
      refine W.cond hE rfl (fun hc67 => ?_) (fun hc67 => ?_)
      · replace hq51 := iteT hc67 hq51
        refine W.seq ?_
        refine W.region ?_
        refine WL.vS hS hE (runs_plain rfl) (Gives.p hE rfl) rfl ?_; clear hE a; intro a hE
        refine WL.vS hS hE (runs_plain rfl) (Gives.p hE rfl) rfl ?_; clear hE a; intro a hE
        refine WL.nil ?_
        refine W.ret ?_
        subst hK62
        rw [← hq51] at hr
        dsimp only at hr
        refine finG (fn := Tryd.f98) (rs := [.tmp 4]) (vs := [_]) hE rfl ⟨rfl, trivial⟩ ?_
        subst hr
        exact ⟨rfl, hS⟩
      · replace hq51 := iteF hc67 hq51
        refine W.skip ?_
        refine W.region ?_
        refine WL.vS hS hE (runs_plain rfl) (Gives.inc hE rfl (by have := h0.small; omega)) rfl ?_; clear hE a; intro a hE
        refine WL.vS hS hE (runs_plain rfl) (Gives.p hE rfl) rfl ?_; clear hE a; intro a hE
        refine WL.nil ?_
        subst hK62
        exact ⟨rest55.length, Nat.lt_succ_self _, rest55, k53 + 1, rfl, hd56, hq51, hE.pick _ ⟨rfl, rfl, rfl, rfl, trivial⟩, hS⟩
  · clear hE hS a w; rintro a w ⟨rfl, hE, hS⟩
    dsimp only at hr
    refine W.seq ?_
    refine W.region ?_
    refine WL.vS hS hE (runs_plain rfl) (Gives.p hE rfl) rfl ?_; clear hE a; intro a hE
    refine WL.nil ?_
    refine W.ret ?_
    refine finG (fn := Tryd.f98) (rs := [.tmp 4]) (vs := [_]) hE rfl ⟨rfl, trivial⟩ ?_
    subst hr
    exact ⟨rfl, hS⟩
set_option maxHeartbeats 8000000 in
theorem SlicesDeleteFuncLguidePoint_v1_ok {fu : Nat}  {w : World} {s : Sg} {R : List HP} {pb0 : Nat} {x0 : List GuidePoint} {a_v0 : Option Addr} {c_v0 n_v0 : Nat} {cs_v0 : List Value} {y0 : Int} (hS : St w s (pt pb0 (.cells #[.int .i64 y0] 3 (0, 0)) :: vecC 62 3 a_v0 c_v0 n_v0 cs_v0 :: R)) (h_v0 : Ev 3 RGuidePoint s cs_v0 x0) (hn_v0 : x0.length = n_v0) {r : (List GuidePoint)} (hr : SlicesDeleteFuncLguidePoint_v1 fu x0 y0 = some r) :
    Calls Tryd.prog 48 [.slice a_v0 n_v0 c_v0, .func (.func 96) #[] #[.pointer (some ⟨pb0, 0, none⟩)]].toArray w (fun e w => ∃ (a0 : Option Addr) (c0 n0 : Nat) (cs0 : List Value), e = .returned (.slice a0 n0 c0) ∧ Ev 3 RGuidePoint s cs0 r ∧ r.length = n0 ∧ St w s (vecC 62 3 a0 c0 n0 cs0 :: pt pb0 (.cells #[.int .i64 y0] 3 (0, 0)) :: R)) := by
  refine enter Tryd.func48 rfl rfl rfl fun a hE => ?_
  rw [SlicesDeleteFuncLguidePoint_v1] at hr
  subst hn_v0
  refine W.seq ?_
  refine W.region ?_
  refine WL.vS hS hE (runs_plain rfl) (Gives.p hE rfl) rfl ?_; clear hE a; intro a hE
  refine WL.nil ?_
  refine W.seq ?_
  refine W.region ?_
  refine WL.vS hS hE (runs_plain rfl) (Gives.p hE rfl) rfl ?_; clear hE a; intro a hE
  refine WL.vS hS hE (runs_plain rfl) (Gives.p hE rfl) rfl ?_; clear hE a; intro a hE
  have hF := hS.lendV RGuidePoint.mono 1 rfl h_v0 (rfl); clear hS; obtain ⟨t51, hle52, hS, hs53, bk54⟩ := hF
  refine WL.fnq hE (SlicesIndexFuncLguidePoint_v1_ok hS hs53 rfl (r := SlicesIndexFuncLguidePoint_v1 x0 y0)) (runs_plain rfl) bd98 rfl rfl rfl ?_
  clear hE hS; rintro e w ⟨rfl, hS⟩; refine ⟨_, rfl, ?_⟩; clear a; intro a hE
  replace hS := bk54 _ _ hS
  refine WL.vS hS hE (runs_plain rfl) (Gives.p hE rfl) rfl ?_; clear hE a; intro a hE
  refine WL.nil ?_
  refine W.seq ?_
  refine W.seq ?_
  refine W.region ?_
  refine WL.vS hS hE (runs_plain rfl) (Gives.p hE rfl) rfl ?_; clear hE a; intro a hE
  refine WL.vS hS hE (runs_plain rfl) (Gives.p hE rfl) rfl ?_; clear hE a; intro a hE
  refine WL.nil ?_
  refine W.cond hE rfl (fun hc55 => ?_) (fun hc55 => ?_)
  · replace hr := iteT hc55 hr
    refine W.seq ?_
    refine W.region ?_
    refine WL.vS hS hE (runs_plain rfl) (Gives.p hE rfl) rfl ?_; clear hE a; intro a hE
    refine WL.vS hS hE (runs_plain rfl) (Gives.p hE rfl) rfl ?_; clear hE a; intro a hE
    refine WL.nil ?_
    refine W.ret ?_
    refine finG (fn := Tryd.f48) (rs := [.tmp 4]) (vs := [_]) hE rfl ⟨rfl, trivial⟩ ?_
    obtain rfl := Option.some.inj hr
    exact ⟨a_v0, c_v0, x0.length, cs_v0, rfl, h_v0, (rfl), hS⟩
  · replace hr := iteF hc55 hr
    refine W.skip ?_
    refine W.seq ?_
    refine W.seq ?_
    refine W.region ?_
    refine WL.vS hS hE (runs_plain rfl) (Gives.p hE rfl) rfl ?_; clear hE a; intro a hE
    refine WL.vS hS hE (runs_plain rfl) (Gives.p hE rfl) rfl ?_; clear hE a; intro a hE
    refine WL.vS hS hE (runs_plain rfl) (Gives.p hE rfl) rfl ?_; clear hE a; intro a hE
    refine WL.nil ?_
    obtain ⟨q57, hq56, hr⟩ := bindS hr
    refine W.cut (fun a w => ∃ (q62 : Int), ∃ (q63 : Int), ∃ (q64 : List GuidePoint), ∃ (cs68 : List Value), (q62, q63, q64) = q57 ∧ Ev 3 RGuidePoint s cs68 q64 ∧ q64.length = x0.length ∧ Rep a 42 [(0, .slice a_v0 x0.length c_v0), (5, .int .i64 q62)] ∧ St w s (vecC 62 3 a_v0 c_v0 x0.length cs68 :: pt pb0 (.cells #[.int .i64 y0] 3 (0, 0)) :: R)) ?_ ?_
    · refine W.block ?_
      refine W.loop (fun m a w => ∃ (n58 : Nat), ∃ (q62 : Int), ∃ (q63 : Int), ∃ (q64 : List GuidePoint), ∃ (cs68 : List Value), n58 = m ∧ SlicesDeleteFuncLguidePoint_v1.loop1 x0 y0 n58 q62 q63 q64 = some q57 ∧ Ev 3 RGuidePoint s cs68 q64 ∧ q64.length = x0.length ∧ Rep a 42 [(0, .slice a_v0 x0.length c_v0), (1, .func (.func 96) #[] #[.pointer (some ⟨pb0, 0, none⟩)]), (5, .int .i64 q62), (6, .int .i64 q63)] ∧ St w s (vecC 62 3 a_v0 c_v0 x0.length cs68 :: pt pb0 (.cells #[.int .i64 y0] 3 (0, 0)) :: R)) (m := fu) ⟨fu, (SlicesIndexFuncLguidePoint_v1 x0 y0), (w64 ((SlicesIndexFuncLguidePoint_v1 x0 y0) + 1)), x0, cs_v0, rfl, hq56, h_v0, (rfl), hE.pick _ ⟨rfl, rfl, rfl, rfl, trivial⟩, hS⟩ ?_
      clear hE hS a w hq56; rintro m59 a w ⟨n58, q62, q63, q64, cs68, rfl, hq56, h67, hn69, hE, hS⟩
      refine W.gen fun K70 hK70 => ?_
      rcases n58 with _ | n58
      · rw [SlicesDeleteFuncLguidePoint_v1.loop1] at hq56; exact absurd hq56 (by simp)
      rw [SlicesDeleteFuncLguidePoint_v1.loop1] at hq56
      refine W.seq ?_
      refine W.seq ?_
      refine W.region ?_
      refine WL.vS hS hE (runs_plain rfl) (Gives.p hE rfl) rfl ?_; clear hE a; intro a hE
      refine WL.vS hS hE (runs_plain rfl) (Gives.p hE rfl) rfl ?_; clear hE a; intro a hE
      refine WL.vS hS hE (runs_plain rfl) (Gives.len hE rfl sl55) rfl ?_; clear hE a; intro a hE
      refine WL.vS hS hE (runs_plain rfl) (Gives.p hE rfl) rfl ?_; clear hE a; intro a hE
      refine WL.nil ?_
      refine W.cond hE rfl (fun hc71 => ?_) (fun hc71 => ?_)
      · replace hq56 := iteT hc71 hq56
        refine W.skip ?_
        refine W.seq ?_
        refine W.block ?_
        refine W.seq ?_
        refine W.region ?_
        refine WL.vS hS hE (runs_plain rfl) (Gives.p hE rfl) rfl ?_; clear hE a; intro a hE
        refine WL.vS hS hE (runs_plain rfl) (Gives.p hE rfl) rfl ?_; clear hE a; intro a hE
        obtain ⟨x72, hx73, hq56⟩ := bindS hq56
        obtain ⟨hi74, hlt75, hy76⟩ := gx_some hx73
        obtain ⟨vs77, hl78, hR79, hd80, hget81⟩ := h67.at hy76
        subst hR79
        refine WL.vS hS hE (runs_plain rfl) (Gives.idx hE ((q63).toNat) rfl rfl sl55 hi74 (by have := hn69; omega) (hS.vecAok 0 rfl (by have := hn69; omega : (q63).toNat < x0.length))) rfl ?_; clear hE a; intro a hE
        refine WL.vS hS hE (runs_plain rfl) (Gives.loadA hE rfl (fun w h => St.vecSees h 0 rfl ((q63).toNat * 3) _ hget81) ty62) rfl ?_; clear hE a; intro a hE
        refine WL.alloc hE hS (runs_plain rfl) zr62 rfl ?_; clear hE hS a w; intro b82 a w hE hS
        refine WL.storeI hE hS 0 rfl (GuidePoint.cells x72) (runs_plain rfl) rfl rfl rfl ty62 rfl rfl rfl rfl ?_; clear hE hS a w; intro a w hE hS
        refine WL.nil ?_
        refine W.seq ?_
        refine W.region ?_
        refine WL.vS hS hE (runs_plain rfl) (Gives.p hE rfl) rfl ?_; clear hE a; intro a hE
        refine WL.vS hS hE (runs_plain rfl) (Gives.loadBA hE 0 rfl rfl ty62) rfl ?_; clear hE a; intro a hE
        replace hS := hS.front 2 rfl
        refine WL.fnw hE (GuideNetearliest_1_v1_ok hS  rfl (r := GuideNetearliest_1_v1 x72 y0)) rfl (runs_plain rfl) bd96 rfl rfl rfl ?_
        clear hE hS; rintro e w ⟨rfl, hS⟩; refine ⟨_, rfl, ?_⟩; clear a; intro a hE
        refine WL.vS hS hE (runs_plain rfl) (Gives.p hE rfl) rfl ?_; clear hE a; intro a hE
        refine WL.nil ?_
        obtain ⟨q84, hq83, hq56⟩ := bindS hq56
        refine W.cut (fun a w => ∃ (q87 : Int), ∃ (q88 : List GuidePoint), ∃ (cs92 : List Value), (q87, q88) = q84 ∧ Ev 3 RGuidePoint s cs92 q88 ∧ q88.length = x0.length ∧ Rep a 42 [(0, .slice a_v0 x0.length c_v0), (1, .func (.func 96) #[] #[.pointer (some ⟨pb0, 0, none⟩)]), (5, .int .i64 q87), (6, .int .i64 q63)] ∧ St w s (pt pb0 (.cells #[.int .i64 y0] 3 (0, 0)) :: pt b82 (.cells (GuidePoint.cells x72).toArray 62 (0, 0)) :: vecC 62 3 a_v0 c_v0 x0.length cs92 :: R)) ?_ ?_
        · refine W.gen fun K94 hK94 => ?_
          refine W.cond hE rfl (fun hc95 => ?_) (fun hc95 => ?_)
          · replace hq83 := iteT hc95 hq83
            refine W.seq ?_
            refine W.region ?_
            refine WL.vS hS hE (runs_plain rfl) (Gives.p hE rfl) rfl ?_; clear hE a; intro a hE
            refine WL.vS hS hE (runs_plain rfl) (Gives.p hE rfl) rfl ?_; clear hE a; intro a hE
            refine WL.vS hS hE (runs_plain rfl) (Gives.loadBA hE 1 rfl rfl ty62) rfl ?_; clear hE a; intro a hE
            obtain ⟨_, hx97, hq83⟩ := bindS hq83
            obtain ⟨h98, h99⟩ := ix_some hx97
            refine WL.vS hS hE (runs_plain rfl) (Gives.idx hE ((q62).toNat) rfl rfl sl55 h98 (by have := hn69; omega) (hS.vecAok 2 rfl (by have := hn69; omega : (q62).toNat < x0.length))) rfl ?_; clear hE a; intro a hE
            obtain ⟨x101, hx102, hq83⟩ := bindS hq83
            refine WL.setD hE hS 2 rfl (runs_plain rfl) rfl rfl (vs := [.int .i64 x72.Dep, .int .i64 x72.Arr, .int .i64 x72.Rides]) rfl ty62 rfl rfl rfl h67 hn69 (sx_some hx102).1 hx102 rfl rfl ?_; clear hE hS a w; intro cs103 a w h104 hn105 hE hS
            refine WL.nil ?_
            refine W.region ?_
            refine WL.vS hS hE (runs_plain rfl) (Gives.p hE rfl) rfl ?_; clear hE a; intro a hE
            refine WL.vS hS hE (runs_plain rfl) (Gives.p hE rfl) rfl ?_; clear hE a; intro a hE
            refine WL.vS hS hE (runs_plain rfl) (Gives.p hE rfl) rfl ?_; clear hE a; intro a hE
            refine WL.nil ?_
            subst hK94
            exact ⟨w64 (q62 + 1), x101, cs103, Option.some.inj hq83, h104, hn105, hE.pick _ ⟨rfl, rfl, rfl, rfl, trivial⟩, hS⟩
          · replace hq83 := iteF hc95 hq83
            refine W.skip ?_
            subst hK94
            exact ⟨q62, q64, cs68, Option.some.inj hq83, h67, hn69, hE.pick _ ⟨rfl, rfl, rfl, rfl, trivial⟩, hS⟩
        · clear hE hS a w; rintro a w ⟨q87, q88, cs92, rfl, h91, hn93, hE, hS⟩
          dsimp only at hq56
          refine W.region ?_
          refine WL.vS hS hE (runs_plain rfl) (Gives.p hE rfl) rfl ?_; clear hE a; intro a hE
          refine WL.vS hS hE (runs_plain rfl) (Gives.p hE rfl) rfl ?_; clear hE a; intro a hE
          refine WL.vS hS hE (runs_plain rfl) (Gives.p hE rfl) rfl ?_; clear hE a; intro a hE
          refine WL.nil ?_
          replace hS := hS.dropAt 1
          replace hS := hS.front 1 rfl
          subst hK70
          exact ⟨n58, Nat.lt_succ_self _, n58, q87, (w64 (q63 + 1)), q88, cs92, rfl, hq56, h91, hn93, hE.pick _ ⟨rfl, rfl, rfl, rfl, trivial⟩, hS⟩
      · replace hq56 := iteF hc71 hq56
        subst hK70
        refine W.exit rfl ?_
        exact ⟨q62, q63, q64, cs68, Option.some.inj hq56, h67, hn69, hE.pick _ ⟨rfl, rfl, trivial⟩, hS⟩
    · clear hE hS a w; rintro a w ⟨q62, q63, q64, cs68, rfl, h67, hn69, hE, hS⟩
      dsimp only at hr
      refine W.seq ?_
      refine W.region ?_
      refine WL.vS hS hE (runs_plain rfl) (Gives.p hE rfl) rfl ?_; clear hE a; intro a hE
      refine WL.vS hS hE (runs_plain rfl) (Gives.p hE rfl) rfl ?_; clear hE a; intro a hE
      obtain ⟨x106, hx107, hr⟩ := bindS hr
      obtain ⟨_, h108, h109, h110, h111, _⟩ := cutl_some hx107
      have h112 := (hS.vecCap 0 rfl).1
      have h113 : (q62).toNat ≤ x0.length := by have := hn69; omega
      have h114 : Ev 3 RGuidePoint s (cs68.take ((q62).toNat * 3)) x106 := by rw [h110]; exact h67.take _
      have hn115 : x106.length = (q62).toNat := by rw [h110]; simp; omega
      replace hS := hS.vecTake 0 rfl (by have := hn69; omega)
      refine WL.vS hS hE (runs_plain rfl) (Gives.slL hE sl55 rfl rfl h108 (by omega) rfl) rfl ?_; clear hE a; intro a hE
      refine WL.clrS hE hS 0 (lo := (q62).toNat) (hi := x0.length) (runs_plain rfl) cl55 rfl rfl (by omega) (by omega) (by omega) rfl ?_; clear hE hS a w; intro a w hE hS
      refine WL.nil ?_
      refine W.seq ?_
      refine W.region ?_
      refine WL.vS hS hE (runs_plain rfl) (Gives.p hE rfl) rfl ?_; clear hE a; intro a hE
      refine WL.vS hS hE (runs_plain rfl) (Gives.p hE rfl) rfl ?_; clear hE a; intro a hE
      refine WL.vS hS hE (runs_plain rfl) (Gives.slH hE sl55 rfl rfl (by omega) (by omega) (sliced_zero _ _ _ _)) rfl ?_; clear hE a; intro a hE
      refine WL.vS hS hE (runs_plain rfl) (Gives.p hE rfl) rfl ?_; clear hE a; intro a hE
      refine WL.nil ?_
      refine W.ret ?_
      refine finG (fn := Tryd.f48) (rs := [.tmp 4]) (vs := [_]) hE rfl ⟨rfl, trivial⟩ ?_
      obtain rfl := Option.some.inj hr
      exact ⟨a_v0, c_v0, (q62).toNat, (cs68.take ((q62).toNat * 3)), rfl, h114, hn115, hS⟩
set_option maxHeartbeats 8000000 in
theorem GuideNetearliest_2_ok  {w : World} {s : Sg} {R : List HP} {x0 : GuidePoint} {x1 : GuidePoint} (hS : St w s (R))  {r : Int} (hr : GuideNetearliest_2 x0 x1 = r) :
    Calls Tryd.prog 97 [.agg (GuidePoint.cells x0).toArray, .agg (GuidePoint.cells x1).toArray].toArray w (fun e w => e = .returned (.int .i64 r) ∧ St w s (R)) := by
  refine enter Tryd.func97 rfl rfl rfl fun a hE => ?_
  rw [GuideNetearliest_2] at hr
  refine W.seq ?_
  refine W.region ?_
  refine WL.box hE hS (runs_plain rfl) rfl rfl rfl ?_; clear hE hS a w; intro b51 a w hE hS
  refine WL.box hE hS (runs_plain rfl) rfl rfl rfl ?_; clear hE hS a w; intro b52 a w hE hS
  refine WL.vS hS hE (runs_plain rfl) (Gives.p hE rfl) rfl ?_; clear hE a; intro a hE
  refine WL.nil ?_
  refine W.seq ?_
  refine W.gen fun K53 hK53 => ?_
  refine W.regionE (sel (fun w => St w s (pt b52 (.cells (GuidePoint.cells x1).toArray 62 (0, 0)) :: pt b51 (.cells (GuidePoint.cells x0).toArray 62 (0, 0)) :: R)) (fun w => St w s (pt b52 (.cells (GuidePoint.cells x1).toArray 62 (0, 0)) :: pt b51 (.cells (GuidePoint.cells x0).toArray 62 (0, 0)) :: R))) (fun b i => cond b ([0, 1, 2, 3, 4, 5, 6, 7, 8, 9, 10, 11, 12, 13, 14, 15, 16, 17].contains i) ([0, 1, 2, 3, 4, 5, 6, 7, 8, 9, 10, 11, 12, 13, 14, 15, 16, 17].contains i)) mixed ?_
  replace hS := hS.drew
  refine Rg.takeP (i := 0) hE rfl (by kernel_rfl) (runs_plain rfl) (Gives.fld hE rfl fl62_1) rfl (tw_sel (fun _ => hS) (fun _ => hS)) ?_; clear hE a; intro a hE
  have hT := tw_sel (A := fun w => St w s (pt b52 (.cells (GuidePoint.cells x1).toArray 62 (0, 0)) :: pt b51 (.cells (GuidePoint.cells x0).toArray 62 (0, 0)) :: R)) (B := fun w => St w s (pt b52 (.cells (GuidePoint.cells x1).toArray 62 (0, 0)) :: pt b51 (.cells (GuidePoint.cells x0).toArray 62 (0, 0)) :: R)) (w := _) (x := true) (y := true) (fun _ => hS) (fun _ => hS)
  have hF := hS; replace hS := hS
  refine Rg.take (i := 1) true rfl hE rfl (by kernel_rfl) (runs_plain rfl) (Gives.loadB hE 1 rfl rfl rfl ty3) rfl hT ?_; clear hE a; intro a hE
  replace hS := hF; clear hF hT
  refine Rg.takeP (i := 2) hE rfl (by kernel_rfl) (runs_plain rfl) (Gives.fld hE rfl fl62_1) rfl (tw_sel (fun _ => hS) (fun _ => hS)) ?_; clear hE a; intro a hE
  have hT := tw_sel (A := fun w => St w s (pt b52 (.cells (GuidePoint.cells x1).toArray 62 (0, 0)) :: pt b51 (.cells (GuidePoint.cells x0).toArray 62 (0, 0)) :: R)) (B := fun w => St w s (pt b52 (.cells (GuidePoint.cells x1).toArray 62 (0, 0)) :: pt b51 (.cells (GuidePoint.cells x0).toArray 62 (0, 0)) :: R)) (w := _) (x := true) (y := true) (fun _ => hS) (fun _ => hS)
  have hF := hS; replace hS := hS
  refine Rg.take (i := 3) true rfl hE rfl (by kernel_rfl) (runs_plain rfl) (Gives.loadB hE 0 rfl rfl rfl ty3) rfl hT ?_; clear hE a; intro a hE
  replace hS := hF; clear hF hT
  refine Rg.takeP (i := 5) hE rfl (by kernel_rfl) (runs_plain rfl) (Gives.fld hE rfl fl62_2) rfl (tw_sel (fun _ => hS) (fun _ => hS)) ?_; clear hE a; intro a hE
  have hT := tw_sel (A := fun w => St w s (pt b52 (.cells (GuidePoint.cells x1).toArray 62 (0, 0)) :: pt b51 (.cells (GuidePoint.cells x0).toArray 62 (0, 0)) :: R)) (B := fun w => St w s (pt b52 (.cells (GuidePoint.cells x1).toArray 62 (0, 0)) :: pt b51 (.cells (GuidePoint.cells x0).toArray 62 (0, 0)) :: R)) (w := _) (x := true) (y := true) (fun _ => hS) (fun _ => hS)
  have hF := hS; replace hS := hS
  refine Rg.take (i := 6) true rfl hE rfl (by kernel_rfl) (runs_plain rfl) (Gives.loadB hE 1 rfl rfl rfl ty3) rfl hT ?_; clear hE a; intro a hE
  replace hS := hF; clear hF hT
  refine Rg.takeP (i := 7) hE rfl (by kernel_rfl) (runs_plain rfl) (Gives.fld hE rfl fl62_2) rfl (tw_sel (fun _ => hS) (fun _ => hS)) ?_; clear hE a; intro a hE
  have hT := tw_sel (A := fun w => St w s (pt b52 (.cells (GuidePoint.cells x1).toArray 62 (0, 0)) :: pt b51 (.cells (GuidePoint.cells x0).toArray 62 (0, 0)) :: R)) (B := fun w => St w s (pt b52 (.cells (GuidePoint.cells x1).toArray 62 (0, 0)) :: pt b51 (.cells (GuidePoint.cells x0).toArray 62 (0, 0)) :: R)) (w := _) (x := true) (y := true) (fun _ => hS) (fun _ => hS)
  have hF := hS; replace hS := hS
  refine Rg.take (i := 8) true rfl hE rfl (by kernel_rfl) (runs_plain rfl) (Gives.loadB hE 0 rfl rfl rfl ty3) rfl hT ?_; clear hE a; intro a hE
  replace hS := hF; clear hF hT
  refine Rg.takeP (i := 10) hE rfl (by kernel_rfl) (runs_plain rfl) (Gives.fld hE rfl fl62_0) rfl (tw_sel (fun _ => hS) (fun _ => hS)) ?_; clear hE a; intro a hE
  have hT := tw_sel (A := fun w => St w s (pt b52 (.cells (GuidePoint.cells x1).toArray 62 (0, 0)) :: pt b51 (.cells (GuidePoint.cells x0).toArray 62 (0, 0)) :: R)) (B := fun w => St w s (pt b52 (.cells (GuidePoint.cells x1).toArray 62 (0, 0)) :: pt b51 (.cells (GuidePoint.cells x0).toArray 62 (0, 0)) :: R)) (w := _) (x := true) (y := true) (fun _ => hS) (fun _ => hS)
  have hF := hS; replace hS := hS
  refine Rg.take (i := 11) true rfl hE rfl (by kernel_rfl) (runs_plain rfl) (Gives.loadB hE 0 rfl rfl rfl ty3) rfl hT ?_; clear hE a; intro a hE
  replace hS := hF; clear hF hT
  refine Rg.takeP (i := 12) hE rfl (by kernel_rfl) (runs_plain rfl) (Gives.fld hE rfl fl62_0) rfl (tw_sel (fun _ => hS) (fun _ => hS)) ?_; clear hE a; intro a hE
  have hT := tw_sel (A := fun w => St w s (pt b52 (.cells (GuidePoint.cells x1).toArray 62 (0, 0)) :: pt b51 (.cells (GuidePoint.cells x0).toArray 62 (0, 0)) :: R)) (B := fun w => St w s (pt b52 (.cells (GuidePoint.cells x1).toArray 62 (0, 0)) :: pt b51 (.cells (GuidePoint.cells x0).toArray 62 (0, 0)) :: R)) (w := _) (x := true) (y := true) (fun _ => hS) (fun _ => hS)
  have hF := hS; replace hS := hS
  refine Rg.take (i := 13) true rfl hE rfl (by kernel_rfl) (runs_plain rfl) (Gives.loadB hE 1 rfl rfl rfl ty3) rfl hT ?_; clear hE a; intro a hE
  replace hS := hF; clear hF hT
  refine Rg.one (i := 4) true true rfl (by kernel_rfl) (by kernel_rfl) (by kernel_rfl) ?_
  refine WL.fnq hE (CmpCompareint_ok hS  rfl (r := CmpCompareint x0.Arr x1.Arr)) (runs_plain rfl) bd54 rfl rfl rfl ?_
  clear hE hS; rintro e w ⟨rfl, hS⟩; refine ⟨_, rfl, ?_⟩; clear a; intro a hE
  refine WL.nil ?_
  refine ⟨⟨fun _ => hS, fun _ => hS⟩, ?_⟩
  refine Rg.one (i := 9) true true rfl (by kernel_rfl) (by kernel_rfl) (by kernel_rfl) ?_
  refine WL.fnq hE (CmpCompareint_ok hS  rfl (r := CmpCompareint x0.Rides x1.Rides)) (runs_plain rfl) bd54 rfl rfl rfl ?_
  clear hE hS; rintro e w ⟨rfl, hS⟩; refine ⟨_, rfl, ?_⟩; clear a; intro a hE
  refine WL.nil ?_
  refine ⟨⟨fun _ => hS, fun _ => hS⟩, ?_⟩
  refine Rg.one (i := 14) true true rfl (by kernel_rfl) (by kernel_rfl) (by kernel_rfl) ?_
  refine WL.fnq hE (CmpCompareint_ok hS  rfl (r := CmpCompareint x1.Dep x0.Dep)) (runs_plain rfl) bd54 rfl rfl rfl ?_
  clear hE hS; rintro e w ⟨rfl, hS⟩; refine ⟨_, rfl, ?_⟩; clear a; intro a hE
  refine WL.nil ?_
  refine ⟨⟨fun _ => hS, fun _ => hS⟩, ?_⟩
  refine Rg.one (i := 15) true true rfl (by kernel_rfl) (by kernel_rfl) (by kernel_rfl) ?_
  refine WL.lit hE hS (e := 3) (es := 1) (vs := [(0, .int .i64 (CmpCompareint x0.Arr x1.Arr)), (1, .int .i64 (CmpCompareint x0.Rides x1.Rides)), (2, .int .i64 (CmpCompareint x1.Dep x0.Dep))]) (cs := [.int .i64 (CmpCompareint x0.Arr x1.Arr), .int .i64 (CmpCompareint x0.Rides x1.Rides), .int .i64 (CmpCompareint x1.Dep x0.Dep)]) (runs_plain rfl) rfl (by kernel_rfl) rfl ?_; clear hE hS a w; intro b54 a w hE hS
  replace hS := hS.ptVec (es := 1) (m := 3) rfl (by decide)
  have h56 : Ev 1 (RI .i64) s [.int .i64 (CmpCompareint x0.Arr x1.Arr), .int .i64 (CmpCompareint x0.Rides x1.Rides), .int .i64 (CmpCompareint x1.Dep x0.Dep)] [(CmpCompareint x0.Arr x1.Arr), (CmpCompareint x0.Rides x1.Rides), (CmpCompareint x1.Dep x0.Dep)] := (Ev.cons (c1 := [.int .i64 (CmpCompareint x0.Arr x1.Arr)]) rfl rfl (Ev.cons (c1 := [.int .i64 (CmpCompareint x0.Rides x1.Rides)]) rfl rfl (Ev.cons (c1 := [.int .i64 (CmpCompareint x1.Dep x0.Dep)]) rfl rfl (Ev.nil))))
  have hF := hS.fixD RI.mono 0 rfl h56 (rfl); clear hS; obtain ⟨s57, hle58, hS, h59⟩ := hF
  refine WL.nil ?_
  refine ⟨⟨fun _ => (St.down hle58 hS), fun _ => (St.down hle58 hS)⟩, ?_⟩
  refine Rg.one (i := 16) true true rfl (by kernel_rfl) (by kernel_rfl) (by kernel_rfl) ?_
  refine WL.fnq hE (CmpOrint_ok hS h59 rfl (r := CmpOrint [(CmpCompareint x0.Arr x1.Arr), (CmpCompareint x0.Rides x1.Rides), (CmpCompareint x1.Dep x0.Dep)])) (runs_plain rfl) bd53 rfl rfl rfl ?_
  clear hE hS; rintro e w ⟨rfl, hS⟩; refine ⟨_, rfl, ?_⟩; clear a; intro a hE
  refine WL.nil ?_
  refine ⟨⟨fun _ => (St.down hle58 hS), fun _ => (St.down hle58 hS)⟩, ?_⟩
  refine Rg.takeP (i := 17) hE rfl (by kernel_rfl) (runs_plain rfl) (Gives.p hE rfl) rfl (tw_sel (fun _ => (St.down hle58 hS)) (fun _ => (St.down hle58 hS))) ?_; clear hE a; intro a hE
  refine Rg.done (by kernel_rfl) ?_
  subst hK53
  refine W.ret ?_
  refine finG (fn := Tryd.f97) (rs := [.tmp 4]) (vs := [_]) hE rfl ⟨rfl, trivial⟩ ?_
  subst hr
  replace hS := hS.tail
  replace hS := hS.tail
  exact ⟨rfl, (hS.down hle58)⟩
set_option maxHeartbeats 8000000 in
theorem SlicesMinFuncLguidePoint_v1_ok {fu : Nat}  {w : World} {s : Sg} {R : List HP} {x0 : List GuidePoint} {a0 : Option Addr} {c0 : Nat} (hS : St w s (R)) (h0 : Sl 3 RGuidePoint s a0 c0 x0) {r : GuidePoint} (hr : SlicesMinFuncLguidePoint_v1 fu x0 = some r) :
    Calls Tryd.prog 51 [.slice a0 x0.length c0, .func (.func 97) #[] #[]].toArray w (fun e w => ∃ (cs0 : List Value) (t : Sg), e = .returned (.agg cs0.toArray) ∧ s.Le t ∧ RGuidePoint t cs0 r ∧ St w t (R)) := by
  refine enter Tryd.func51 rfl rfl rfl fun a hE => ?_
  rw [SlicesMinFuncLguidePoint_v1] at hr
  refine W.seq ?_
  refine W.region ?_
  refine WL.alloc hE hS (runs_plain rfl) zr62 rfl ?_; clear hE hS a w; intro b51 a w hE hS
  refine WL.nil ?_
  refine W.seq ?_
  refine W.seq ?_
  refine W.region ?_
  refine WL.vS hS hE (runs_plain rfl) (Gives.p hE rfl) rfl ?_; clear hE a; intro a hE
  refine WL.vS hS hE (runs_plain rfl) (Gives.len hE rfl sl55) rfl ?_; clear hE a; intro a hE
  refine WL.vS hS hE (runs_plain rfl) (Gives.p hE rfl) rfl ?_; clear hE a; intro a hE
  refine WL.nil ?_
  refine W.cond hE rfl (fun hc52 => ?_) (fun hc52 => ?_)
  · replace hr := iteT hc52 hr
    refine W.region ?_
    exact absurd hr (by simp)
  · replace hr := iteF hc52 hr
    refine W.skip ?_
    refine W.seq ?_
    refine W.region ?_
    refine WL.vS hS hE (runs_plain rfl) (Gives.p hE rfl) rfl ?_; clear hE a; intro a hE
    obtain ⟨x53, hx54, hr⟩ := bindS hr
    obtain ⟨hi55, hlt56, hy57⟩ := gx_some hx54
    obtain ⟨cs58, hl59, hR60, hat61⟩ := h0.at hy57
    subst hR60
    refine WL.vS hS hE (runs_plain rfl) (Gives.idx hE ((0 : Int)).toNat rfl rfl sl55 hi55 hlt56 (h0.aok hlt56)) rfl ?_; clear hE a; intro a hE
    refine WL.vS hS hE (runs_plain rfl) (Gives.loadA hE rfl (fun w h => hat61 w _ h) ty62) rfl ?_; clear hE a; intro a hE
    refine WL.alloc hE hS (runs_plain rfl) zr62 rfl ?_; clear hE hS a w; intro b62 a w hE hS
    refine WL.storeI hE hS 0 rfl (GuidePoint.cells x53) (runs_plain rfl) rfl rfl rfl ty62 rfl rfl rfl rfl ?_; clear hE hS a w; intro a w hE hS
    refine WL.nil ?_
    refine W.seq ?_
    refine W.seq ?_
    refine W.region ?_
    refine WL.vS hS hE (runs_plain rfl) (Gives.p hE rfl) rfl ?_; clear hE a; intro a hE
    refine WL.nil ?_
    obtain ⟨q64, hq63, hr⟩ := bindS hr
    refine W.cut (fun a w => ∃ (q69 : Int), ∃ (q70 : Int), ∃ (q71 : Int), ∃ (q72 : Int), (q69, q70, q71, q72) = q64 ∧ Rep a 33 [(4, .pointer (some ⟨b51, 0, none⟩)), (5, .pointer (some ⟨b62, 0, none⟩))] ∧ St w s (pt b62 (.cells #[.int .i64 q70, .int .i64 q71, .int .i64 q72] 62 (0, 0)) :: pt b51 (.cells #[.int .i64 0, .int .i64 0, .int .i64 0] 62 (0, 0)) :: R)) ?_ ?_
    · refine W.block ?_
      refine W.loop (fun m a w => ∃ (n65 : Nat), ∃ (q69 : Int), ∃ (q70 : Int), ∃ (q71 : Int), ∃ (q72 : Int), n65 = m ∧ SlicesMinFuncLguidePoint_v1.loop1 x0 n65 q69 q70 q71 q72 = some q64 ∧ Rep a 33 [(0, .slice a0 x0.length c0), (1, .func (.func 97) #[] #[]), (4, .pointer (some ⟨b51, 0, none⟩)), (5, .pointer (some ⟨b62, 0, none⟩)), (6, .int .i64 q69)] ∧ St w s (pt b62 (.cells #[.int .i64 q70, .int .i64 q71, .int .i64 q72] 62 (0, 0)) :: pt b51 (.cells #[.int .i64 0, .int .i64 0, .int .i64 0] 62 (0, 0)) :: R)) (m := fu) ⟨fu, 1, x53.Dep, x53.Arr, x53.Rides, rfl, hq63, hE.pick _ ⟨rfl, rfl, rfl, rfl, rfl, trivial⟩, hS⟩ ?_
      clear hE hS a w hq63; rintro m66 a w ⟨n65, q69, q70, q71, q72, rfl, hq63, hE, hS⟩
      refine W.gen fun K73 hK73 => ?_
      rcases n65 with _ | n65
      · rw [SlicesMinFuncLguidePoint_v1.loop1] at hq63; exact absurd hq63 (by simp)
      rw [SlicesMinFuncLguidePoint_v1.loop1] at hq63
      refine W.seq ?_
      refine W.seq ?_
      refine W.region ?_
      refine WL.vS hS hE (runs_plain rfl) (Gives.p hE rfl) rfl ?_; clear hE a; intro a hE
      refine WL.vS hS hE (runs_plain rfl) (Gives.p hE rfl) rfl ?_; clear hE a; intro a hE
      refine WL.vS hS hE (runs_plain rfl) (Gives.len hE rfl sl55) rfl ?_; clear hE a; intro a hE
      refine WL.vS hS hE (runs_plain rfl) (Gives.p hE rfl) rfl ?_; clear hE a; intro a hE
      refine WL.nil ?_
      refine W.cond hE rfl (fun hc74 => ?_) (fun hc74 => ?_)
      · replace hq63 := iteT hc74 hq63
        refine W.skip ?_
        refine W.seq ?_
        refine W.block ?_
        refine W.seq ?_
        refine W.regionQ (C := fun w => St w s (pt b62 (.cells #[.int .i64 q70, .int .i64 q71, .int .i64 q72] 62 (0, 0)) :: pt b51 (.cells #[.int .i64 0, .int .i64 0, .int .i64 0] 62 (0, 0)) :: R)) mixed (by kernel_rfl) hS.drew ?_
        refine QL.v hE (runs_plain rfl) (Gives.p hE rfl) rfl ?_; clear hE a; intro a hE
        refine QL.v hE (runs_plain rfl) (Gives.p hE rfl) rfl ?_; clear hE a; intro a hE
        refine QL.v hE (runs_plain rfl) (Gives.p hE rfl) rfl ?_; clear hE a; intro a hE
        obtain ⟨x75, hx76, hq63⟩ := bindS hq63
        obtain ⟨hi77, hlt78, hy79⟩ := gx_some hx76
        obtain ⟨cs80, hl81, hR82, hat83⟩ := h0.at hy79
        subst hR82
        refine QL.v hE (runs_plain rfl) (Gives.idx hE (q69).toNat rfl rfl sl55 hi77 hlt78 (h0.aok hlt78)) rfl ?_; clear hE a; intro a hE
        refine QL.v hE (runs_plain rfl) (Gives.loadA hE rfl (fun w h => hat83 w _ h) ty62) rfl ?_; clear hE a; intro a hE
        refine QL.v hE (runs_plain rfl) (Gives.loadBA hE 0 rfl rfl ty62) rfl ?_; clear hE a; intro a hE
        refine QL.fnw hE (fun w hS => GuideNetearliest_2_ok hS  rfl (r := GuideNetearliest_2 x75 (GuidePoint.mk q70 q71 q72))) rfl (runs_plain rfl) bd97 rfl rfl rfl ?_; clear hE a; intro a hE
        refine QL.v hE (runs_plain rfl) (Gives.p hE rfl) rfl ?_; clear hE a; intro a hE
        refine QL.nil ?_; clear hS w; intro w hS
        obtain ⟨q85, hq84, hq63⟩ := bindS hq63
        refine W.cut (fun a w => ∃ (q88 : Int), ∃ (q89 : Int), ∃ (q90 : Int), (q88, q89, q90) = q85 ∧ Rep a 33 [(0, .slice a0 x0.length c0), (1, .func (.func 97) #[] #[]), (4, .pointer (some ⟨b51, 0, none⟩)), (5, .pointer (some ⟨b62, 0, none⟩)), (6, .int .i64 q69)] ∧ St w s (pt b62 (.cells #[.int .i64 q88, .int .i64 q89, .int .i64 q90] 62 (0, 0)) :: pt b51 (.cells #[.int .i64 0, .int .i64 0, .int .i64 0] 62 (0, 0)) :: R)) ?_ ?_
        · refine W.gen fun K91 hK91 => ?_
          refine W.cond hE rfl (fun hc92 => ?_) (fun hc92 => ?_)
          · replace hq84 := iteT hc92 hq84
            refine W.region ?_
            refine WL.vS hS hE (runs_plain rfl) (Gives.p hE rfl) rfl ?_; clear hE a; intro a hE
            refine WL.vS hS hE (runs_plain rfl) (Gives.p hE rfl) rfl ?_; clear hE a; intro a hE
            obtain ⟨x93, hx94, hq84⟩ := bindS hq84
            obtain ⟨hi95, hlt96, hy97⟩ := gx_some hx94
            obtain ⟨cs98, hl99, hR100, hat101⟩ := h0.at hy97
            subst hR100
            refine WL.vS hS hE (runs_plain rfl) (Gives.idx hE (q69).toNat rfl rfl sl55 hi95 hlt96 (h0.aok hlt96)) rfl ?_; clear hE a; intro a hE
            refine WL.vS hS hE (runs_plain rfl) (Gives.loadA hE rfl (fun w h => hat101 w _ h) ty62) rfl ?_; clear hE a; intro a hE
            refine WL.storeI hE hS 0 rfl (GuidePoint.cells x93) (runs_plain rfl) rfl rfl rfl ty62 rfl rfl rfl rfl ?_; clear hE hS a w; intro a w hE hS
            refine WL.nil ?_
            subst hK91
            exact ⟨x93.Dep, x93.Arr, x93.Rides, Option.some.inj hq84, hE.pick _ ⟨rfl, rfl, rfl, rfl, rfl, trivial⟩, hS⟩
          · replace hq84 := iteF hc92 hq84
            refine W.skip ?_
            subst hK91
            exact ⟨q70, q71, q72, Option.some.inj hq84, hE.pick _ ⟨rfl, rfl, rfl, rfl, rfl, trivial⟩, hS⟩
        · clear hE hS a w; rintro a w ⟨q88, q89, q90, rfl, hE, hS⟩
          dsimp only at hq63
          refine W.region ?_
          refine WL.vS hS hE (runs_plain rfl) (Gives.p hE rfl) rfl ?_; clear hE a; intro a hE
          refine WL.vS hS hE (runs_plain rfl) (Gives.p hE rfl) rfl ?_; clear hE a; intro a hE
          refine WL.vS hS hE (runs_plain rfl) (Gives.p hE rfl) rfl ?_; clear hE a; intro a hE
          refine WL.nil ?_
          subst hK73
          exact ⟨n65, Nat.lt_succ_self _, n65, (w64 (q69 + 1)), q88, q89, q90, rfl, hq63, hE.pick _ ⟨rfl, rfl, rfl, rfl, rfl, trivial⟩, hS⟩
      · replace hq63 := iteF hc74 hq63
        subst hK73
        refine W.exit rfl ?_
        exact ⟨q69, q70, q71, q72, Option.some.inj hq63, hE.pick _ ⟨rfl, rfl, trivial⟩, hS⟩
    · clear hE hS a w; rintro a w ⟨q69, q70, q71, q72, rfl, hE, hS⟩
      dsimp only at hr
      refine W.seq ?_
      refine W.region ?_
      refine WL.vS hS hE (runs_plain rfl) (Gives.loadBA hE 0 rfl rfl ty62) rfl ?_; clear hE a; intro a hE
      refine WL.storeI hE hS 1 rfl [.int .i64 q70, .int .i64 q71, .int .i64 q72] (runs_plain rfl) rfl rfl rfl ty62 rfl rfl rfl rfl ?_; clear hE hS a w; intro a w hE hS
      refine WL.nil ?_
      refine W.ret ?_
      refine finG (fn := Tryd.f51) (rs := [.cell 4 62]) (vs := [_]) hE rfl ⟨⟨_, rfl, .inl ⟨_, rfl, hS.seesAt 1 rfl, ty62⟩⟩, trivial⟩ ?_
      obtain rfl := Option.some.inj hr
      replace hS := hS.tail
      replace hS := hS.tail
      exact ⟨_, s, rfl, (Sg.Le.refl _), rfl, hS⟩
set_option maxHeartbeats 8000000 in
theorem SlicesCloneLguideRide_ok  {w : World} {s : Sg} {R : List HP} {x0 : List GuideRide} {a0 : Option Addr} {c0 : Nat} (hS : St w s (R)) (h0 : Sl 3 RGuideRide s a0 c0 x0) {r : (List GuideRide)} (hr : SlicesCloneLguideRide x0 = some r) :
    Calls Tryd.prog 76 [.slice a0 x0.length c0].toArray w (fun e w => ∃ (a0 : Option Addr) (c0 n0 : Nat) (cs0 : List Value), e = .returned (.slice a0 n0 c0) ∧ Ev 3 RGuideRide s cs0 r ∧ r.length = n0 ∧ St w s (vecC 47 3 a0 c0 n0 cs0 :: R)) := by
  refine enter Tryd.func76 rfl rfl rfl fun a hE => ?_
  rw [SlicesCloneLguideRide] at hr
  refine W.seq ?_
  refine W.region ?_
  refine WL.vS hS hE (runs_plain rfl) (Gives.p hE rfl) rfl ?_; clear hE a; intro a hE
  refine WL.nil ?_
  refine W.seq ?_
  refine W.seq ?_
  refine W.region ?_
  refine WL.vS hS hE (runs_plain rfl) (Gives.p hE rfl) rfl ?_; clear hE a; intro a hE
  refine WL.vS hS hE (runs_plain rfl) (Gives.isNil hE rfl rfl isl26) rfl ?_; clear hE a; intro a hE
  refine WL.nil ?_
  rcases a0 with _ | g51
  · obtain rfl := h0.none_nil
    replace hr : some [] = _ := hr
    refine W.condT hE rfl rfl ?_
    refine W.seq ?_
    refine W.region ?_
    refine WL.vS hS hE (runs_plain rfl) (Gives.p hE rfl) rfl ?_; clear hE a; intro a hE
    refine WL.nil ?_
    refine W.ret ?_
    replace hS := hS.vecNil 47 3
    refine finG (fn := Tryd.f76) (rs := [.tmp 2]) (vs := [_]) hE rfl ⟨rfl, trivial⟩ ?_
    obtain rfl := Option.some.inj hr
    exact ⟨none, 0, 0, [], rfl, (Ev.nil), (rfl), hS⟩
  · skip
    refine W.condF hE rfl rfl ?_
    refine W.skip ?_
    refine W.seq ?_
    refine W.region ?_
    refine WL.lit hE hS (e := 47) (es := 3) (vs := []) (cs := []) (runs_plain rfl) rfl (by kernel_rfl) rfl ?_; clear hE hS a w; intro b53 a w hE hS
    replace hS := hS.ptVec (es := 3) (m := 0) rfl (by decide)
    have h55 : Ev 3 RGuideRide s [] [] := (Ev.nil)
    refine WL.vS hS hE (runs_plain rfl) (Gives.p hE rfl) rfl ?_; clear hE a; intro a hE
    obtain ⟨x56, hx57, hr⟩ := bindS hr
    refine WL.appS hE hS 0 (runs_plain rfl) rfl rfl (xs := x0) rfl rfl ap26 RGuideRide.one h55 (rfl) h0 hx57 rfl ?_; clear hE hS a w; intro a58 c59 cs60 a w h61 hE hS
    refine WL.vS hS hE (runs_plain rfl) (Gives.p hE rfl) rfl ?_; clear hE a; intro a hE
    refine WL.nil ?_
    refine W.ret ?_
    refine finG (fn := Tryd.f76) (rs := [.tmp 2]) (vs := [_]) hE rfl ⟨rfl, trivial⟩ ?_
    obtain rfl := Option.some.inj hr
    exact ⟨a58, c59, x56.length, cs60, rfl, h61, (rfl), hS⟩
end Go.Proofs.YtpcebngchmgckaaDoor
