/- The walks of the functions that MendSettles reaches: each call comes to what its mirror says. The conditions are those of each contract. -/
import Derived.Test.YtfioafdipipcaaaProg
import Derived.Test.YtfioafdipipcaaaMendSettlesM
import Derived.Test.YtfioafdipipcaaaFpMore
import Derived.Test.YtfioafdipipcaaaMendSettlesW2
namespace Go.Proofs.Ytfioafdipipcaaa
open Go Go.Fp
set_option maxHeartbeats 8000000 in
theorem Fishref2SettlesOf_ok {fu : Nat}  {w : World} {s : Sg} {R : List HP} {x0 : MendRound} {a0_0 : Option Addr} {c0_0 : Nat} {a0_1 : Option Addr} {c0_1 : Nat} {x1 : Int} (hS : St w s (R)) (h0_0 : Sl 1 (RI .i64) s a0_0 c0_0 x0.Plan) (h0_1 : Sl 4 RMendLink s a0_1 c0_1 x0.Links) {r : Int × Bool} (hr : Fishref2SettlesOf fu x0 x1 = some r) :
    Calls Try.prog 36 [.agg [.int .i64 x0.Period, .slice a0_0 x0.Plan.length c0_0, .slice a0_1 x0.Links.length c0_1].toArray, .int .i64 x1].toArray w (fun e w => e = .returned (.tuple #[.int .i64 r.1, .bool r.2]) ∧ St w s (R)) := by
  refine enter Try.func36 rfl rfl rfl fun a hE => ?_
  rw [Fishref2SettlesOf] at hr
  refine W.seq ?_
  refine W.region ?_
  refine WL.box hE hS (runs_plain rfl) rfl rfl rfl ?_; clear hE hS a w; intro b51 a w hE hS
  refine WL.vS hS hE (runs_plain rfl) (Gives.p hE rfl) rfl ?_; clear hE a; intro a hE
  refine WL.vS hS hE (runs_plain rfl) (Gives.p hE rfl) rfl ?_; clear hE a; intro a hE
  refine WL.nil ?_
  refine W.seq ?_
  refine W.seq ?_
  refine W.region ?_
  refine WL.vS hS hE (runs_plain rfl) (Gives.loadBA hE 0 rfl rfl ty25) rfl ?_; clear hE a; intro a hE
  obtain ⟨q52, hq53, hr⟩ := bindS hr
  have hc_ := Fishref2MeanOf_ok hS h0_0 h0_1 hq53
  refine WL.fnq hE (hc_) (runs_plain rfl) bd17 rfl rfl rfl ?_
  clear hE hS hc_; rintro e w ⟨rfl, hS⟩; refine ⟨_, rfl, ?_⟩; clear a; intro a hE
  refine WL.vS hS hE (runs_plain rfl) (Gives.p hE rfl) rfl ?_; clear hE a; intro a hE
  refine WL.vS hS hE (runs_plain rfl) (Gives.p hE rfl) rfl ?_; clear hE a; intro a hE
  refine WL.vS hS hE (runs_plain rfl) (Gives.p hE rfl) rfl ?_; clear hE a; intro a hE
  refine WL.vS hS hE (runs_plain rfl) (Gives.p hE rfl) rfl ?_; clear hE a; intro a hE
  refine WL.vS hS hE (runs_plain rfl) (Gives.p hE rfl) rfl ?_; clear hE a; intro a hE
  refine WL.vS hS hE (runs_plain rfl) (Gives.p hE rfl) rfl ?_; clear hE a; intro a hE
  refine WL.vS hS hE (runs_plain rfl) (Gives.p hE rfl) rfl ?_; clear hE a; intro a hE
  refine WL.nil ?_
  refine W.seq ?_
  obtain ⟨q55, hq54, hr⟩ := bndS hr
  refine W.cut (fun a w => ∃ (q58 : Bool), q58 = q55 ∧ Rep a 149 [(1, .int .i64 x1), (2, .pointer (some ⟨b51, 0, none⟩)), (34, .bool q58)] ∧ St w s (pt b51 (.cells #[.int .i64 x0.Period, .slice a0_0 x0.Plan.length c0_0, .slice a0_1 x0.Links.length c0_1] 25 (0, 0)) :: R)) ?_ ?_
  · refine W.gen fun K59 hK59 => ?_
    refine W.region ?_
    refine WL.vS hS hE (runs_plain rfl) (Gives.p hE rfl) rfl ?_; clear hE a; intro a hE
    refine WL.vS hS hE (runs_plain rfl) (Gives.p hE rfl) rfl ?_; clear hE a; intro a hE
    refine WL.vS hS hE (runs_plain rfl) (Gives.p hE rfl) rfl ?_; clear hE a; intro a hE
    rcases Bool.eq_false_or_eq_true (decide (x1 > 0)) with hg60 | hg60
    · replace hq54 := iteT hg60 hq54
      refine WL.vS hS hE (runs_if hE rfl rfl rfl hg60) (Gives.p hE rfl) rfl ?_; clear hE a; intro a hE
      refine WL.vS hS hE (runs_plain rfl) (Gives.pickT hE rfl hg60 rfl) rfl ?_; clear hE a; intro a hE
      refine WL.vS hS hE (runs_plain rfl) (Gives.p hE rfl) rfl ?_; clear hE a; intro a hE
      rcases Bool.eq_false_or_eq_true q52.2.2 with hg61 | hg61
      · replace hq54 := iteT hg61 hq54
        refine WL.vS hS hE (runs_if hE rfl rfl rfl hg61) (Gives.p hE rfl) rfl ?_; clear hE a; intro a hE
        refine WL.vS hS hE (runs_if hE rfl rfl rfl hg61) (Gives.p hE rfl) rfl ?_; clear hE a; intro a hE
        refine WL.vS hS hE (runs_if hE rfl rfl rfl hg61) (Gives.fld hE rfl fl25_0) rfl ?_; clear hE a; intro a hE
        refine WL.vS hS hE (runs_if hE rfl rfl rfl hg61) (Gives.loadB hE 0 rfl rfl rfl ty3) rfl ?_; clear hE a; intro a hE
        refine WL.vS hS hE (runs_if hE rfl rfl rfl hg61) (Gives.p hE rfl) rfl ?_; clear hE a; intro a hE
        refine WL.vS hS hE (runs_if hE rfl rfl rfl hg61) (Gives.p hE rfl) rfl ?_; clear hE a; intro a hE
        refine WL.vS hS hE (runs_plain rfl) (Gives.pickT hE rfl hg61 rfl) rfl ?_; clear hE a; intro a hE
        refine WL.nil ?_
        subst hK59
        exact ⟨decide (q52.1 ≥ (w64 (q52.2.1 * x0.Period))), hq54, hE.pick _ ⟨rfl, rfl, rfl, trivial⟩, hS⟩
      · replace hq54 := iteF hg61 hq54
        refine WL.no hE (runs_not hE rfl rfl rfl (by rw [hg61]; decide)) rfl ?_; clear hE a; intro a hE
        refine WL.no hE (runs_not hE rfl rfl rfl (by rw [hg61]; decide)) rfl ?_; clear hE a; intro a hE
        refine WL.no hE (runs_not hE rfl rfl rfl (by rw [hg61]; decide)) rfl ?_; clear hE a; intro a hE
        refine WL.no hE (runs_not hE rfl rfl rfl (by rw [hg61]; decide)) rfl ?_; clear hE a; intro a hE
        refine WL.no hE (runs_not hE rfl rfl rfl (by rw [hg61]; decide)) rfl ?_; clear hE a; intro a hE
        refine WL.no hE (runs_not hE rfl rfl rfl (by rw [hg61]; decide)) rfl ?_; clear hE a; intro a hE
        refine WL.vS hS hE (runs_plain rfl) (Gives.pickF hE rfl hg61 rfl) rfl ?_; clear hE a; intro a hE
        refine WL.nil ?_
        subst hK59
        exact ⟨false, hq54, hE.pick _ ⟨rfl, rfl, rfl, trivial⟩, hS⟩
    · replace hq54 := iteF hg60 hq54
      refine WL.no hE (runs_not hE rfl rfl rfl (by rw [hg60]; decide)) rfl ?_; clear hE a; intro a hE
      refine WL.vS hS hE (runs_plain rfl) (Gives.pickF hE rfl hg60 rfl) rfl ?_; clear hE a; intro a hE
      refine WL.vS hS hE (runs_plain rfl) (Gives.p hE rfl) rfl ?_; clear hE a; intro a hE
      refine WL.no hE (runs_not hE rfl rfl rfl (by decide)) rfl ?_; clear hE a; intro a hE
      refine WL.no hE (runs_not hE rfl rfl rfl (by decide)) rfl ?_; clear hE a; intro a hE
      refine WL.no hE (runs_not hE rfl rfl rfl (by decide)) rfl ?_; clear hE a; intro a hE
      refine WL.no hE (runs_not hE rfl rfl rfl (by decide)) rfl ?_; clear hE a; intro a hE
      refine WL.no hE (runs_not hE rfl rfl rfl (by decide)) rfl ?_; clear hE a; intro a hE
      refine WL.no hE (runs_not hE rfl rfl rfl (by decide)) rfl ?_; clear hE a; intro a hE
      refine WL.vS hS hE (runs_plain rfl) (Gives.pickF hE rfl rfl rfl) rfl ?_; clear hE a; intro a hE
      refine WL.nil ?_
      subst hK59
      exact ⟨false, hq54, hE.pick _ ⟨rfl, rfl, rfl, trivial⟩, hS⟩
  · clear hE hS a w; rintro a w ⟨q58, rfl, hE, hS⟩
    refine W.cond hE rfl (fun hc62 => ?_) (fun hc62 => ?_)
    · replace hr := iteT hc62 hr
      refine W.seq ?_
      refine W.region ?_
      refine WL.vS hS hE (runs_plain rfl) (Gives.p hE rfl) rfl ?_; clear hE a; intro a hE
      refine WL.vS hS hE (runs_plain rfl) (Gives.p hE rfl) rfl ?_; clear hE a; intro a hE
      refine WL.nil ?_
      refine W.ret ?_
      refine finG (fn := Try.f36) (rs := [.tmp 4, .tmp 5]) (vs := [_, _]) hE rfl ⟨rfl, rfl, trivial⟩ ?_
      obtain rfl := Option.some.inj hr
      replace hS := hS.tail
      exact ⟨rfl, hS⟩
    · replace hr := iteF hc62 hr
      refine W.skip ?_
      refine W.seq ?_
      refine W.region ?_
      refine WL.vS hS hE (runs_plain rfl) (Gives.p hE rfl) rfl ?_; clear hE a; intro a hE
      refine WL.lit hE hS (e := 3) (es := 1) (vs := [(0, .int .i64 x1)]) (cs := [.int .i64 x1]) (runs_plain rfl) rfl (by kernel_rfl) rfl ?_; clear hE hS a w; intro b63 a w hE hS
      replace hS := hS.ptVec (es := 1) (m := 1) rfl (by decide)
      have h65 : Ev 1 (RI .i64) s [.int .i64 x1] [x1] := (Ev.cons (c1 := [.int .i64 x1]) rfl rfl (Ev.nil))
      have hF := hS.fixD RI.mono 0 rfl h65 (rfl); clear hS; obtain ⟨s66, hle67, hS, h68⟩ := hF
      replace h0_0 := Sl.mono RI.mono hle67 h0_0
      replace h0_1 := Sl.mono RMendLink.mono hle67 h0_1
      refine WL.vS hS hE (runs_plain rfl) (Gives.fld hE rfl fl25_1) rfl ?_; clear hE a; intro a hE
      refine WL.vS hS hE (runs_plain rfl) (Gives.loadB hE 0 rfl rfl rfl ty22) rfl ?_; clear hE a; intro a hE
      refine WL.vS hS hE (runs_plain rfl) (Gives.len hE rfl sl22) rfl ?_; clear hE a; intro a hE
      obtain ⟨q69, hq70, hr⟩ := bindS hr
      have hc_ := SlicesRepeatLint_ok hS h68 hq70
      refine WL.fnq hE (hc_) (runs_plain rfl) bd57 rfl rfl rfl ?_
      clear hE hS hc_; rintro e w ⟨a71, c72, n73, cs74, rfl, h75, rfl, hS⟩; refine ⟨_, rfl, ?_⟩; clear a; intro a hE
      have hF := hS.fixD RI.mono 0 rfl h75 rfl; clear hS; obtain ⟨s77, hle78, hS, h79⟩ := hF
      replace h68 := Sl.mono RI.mono hle78 h68
      replace h0_0 := Sl.mono RI.mono hle78 h0_0
      replace h0_1 := Sl.mono RMendLink.mono hle78 h0_1
      refine WL.lit hE hS (e := 22) (es := 1) (vs := [(0, .slice a71 q69.length c72)]) (cs := [.slice a71 q69.length c72]) (runs_plain rfl) rfl (by kernel_rfl) rfl ?_; clear hE hS a w; intro b80 a w hE hS
      replace hS := hS.ptVec (es := 1) (m := 1) rfl (by decide)
      have h82 : Ev 1 (RL 1 (RI .i64)) s77 [.slice a71 q69.length c72] [q69] := (Ev.cons (c1 := [.slice a71 q69.length c72]) ⟨_, _, rfl, h79⟩ rfl (Ev.nil))
      refine WL.vS hS hE (runs_plain rfl) (Gives.p hE rfl) rfl ?_; clear hE a; intro a hE
      refine WL.nil ?_
      refine W.seq ?_
      refine W.region ?_
      refine WL.vS hS hE (runs_plain rfl) (Gives.p hE rfl) rfl ?_; clear hE a; intro a hE
      refine WL.nil ?_
      obtain ⟨q84, hq83, hr⟩ := bindS hr
      refine W.cut (fun _ _ => False) ?_ ?_
      · refine W.block ?_
        refine W.loop (fun m a w => ∃ (n85 : Nat), ∃ (q89 : List (List Int)), ∃ (q96 : Int), ∃ (a90 : Option Addr), ∃ (c91 : Nat), ∃ (n93 : Nat), ∃ (cs94 : List Value), ∃ (s87 : Sg), n85 = m ∧ s77.Le s87 ∧ Fishref2SettlesOf.loop1 x0 fu n85 q89 q96 = some q84 ∧ Ev 1 (RL 1 (RI .i64)) s87 cs94 q89 ∧ q89.length = n93 ∧ Rep a 149 [(2, .pointer (some ⟨b51, 0, none⟩)), (9, .slice a90 n93 c91), (10, .int .i64 q96)] ∧ St w s87 (vecC 22 1 a90 c91 n93 cs94 :: pt b51 (.cells #[.int .i64 x0.Period, .slice a0_0 x0.Plan.length c0_0, .slice a0_1 x0.Links.length c0_1] 25 (0, 0)) :: R)) (m := fu) ⟨fu, [q69], 1, (some ⟨b80, 0, none⟩), 1, 1, [.slice a71 q69.length c72], s77, rfl, (Sg.Le.refl _), hq83, h82, (rfl), hE.pick _ ⟨rfl, rfl, rfl, trivial⟩, hS⟩ ?_
        clear hE hS a w hq83; rintro m86 a w ⟨n85, q89, q96, a90, c91, n93, cs94, s87, rfl, hle88, hq83, h92, rfl, hE, hS⟩
        refine W.gen fun K97 hK97 => ?_
        replace h68 := Sl.mono RI.mono hle88 h68
        replace h0_0 := Sl.mono RI.mono hle88 h0_0
        replace h79 := Sl.mono RI.mono hle88 h79
        replace h82 := Ev.mono (RL.mono RI.mono) hle88 h82
        replace h0_1 := Sl.mono RMendLink.mono hle88 h0_1
        rcases n85 with _ | n85
        · rw [Fishref2SettlesOf.loop1] at hq83; exact absurd hq83 (by simp)
        rw [Fishref2SettlesOf.loop1] at hq83
        refine W.seq ?_
        refine W.block ?_
        refine W.seq ?_
        refine W.region ?_
        refine WL.vS hS hE (runs_plain rfl) (Gives.fld hE rfl fl25_1) rfl ?_; clear hE a; intro a hE
        refine WL.vS hS hE (runs_plain rfl) (Gives.loadB hE 1 rfl rfl rfl ty22) rfl ?_; clear hE a; intro a hE
        refine WL.vS hS hE (runs_plain rfl) (Gives.len hE rfl sl22) rfl ?_; clear hE a; intro a hE
        obtain ⟨x98, hx99, hq83⟩ := bindS hq83
        refine WL.mkD (Rr := RI .i64) hE hS (runs_plain rfl) rfl rfl ap22 zr3 rfl hx99 rfl ?_; clear hE hS a w; intro b100 cs101 a w h102 hE hS
        refine WL.vS hS hE (runs_plain rfl) (Gives.p hE rfl) rfl ?_; clear hE a; intro a hE
        refine WL.nil ?_
        refine W.seq ?_
        refine W.seq ?_
        refine W.region ?_
        refine WL.vS hS hE (runs_plain rfl) (Gives.fld hE rfl fl25_1) rfl ?_; clear hE a; intro a hE
        refine WL.vS hS hE (runs_plain rfl) (Gives.loadB hE 2 rfl rfl rfl ty22) rfl ?_; clear hE a; intro a hE
        refine WL.vS hS hE (runs_plain rfl) (Gives.len hE rfl sl22) rfl ?_; clear hE a; intro a hE
        refine WL.vS hS hE (runs_plain rfl) (Gives.p hE rfl) rfl ?_; clear hE a; intro a hE
        refine WL.vS hS hE (runs_plain rfl) (Gives.p hE rfl) rfl ?_; clear hE a; intro a hE
        refine WL.nil ?_
        obtain ⟨q116, hq115, hq83⟩ := bindS hq83
        refine W.cut (fun a w => ∃ (q121 : Int), ∃ (q122 : List Int), ∃ (cs126 : List Value), (q121, q122) = q116 ∧ Ev 1 (RI .i64) s87 cs126 q122 ∧ q122.length = x98.length ∧ Rep a 149 [(2, .pointer (some ⟨b51, 0, none⟩)), (9, .slice a90 q89.length c91), (10, .int .i64 q96), (11, .slice (some ⟨b100, 0, none⟩) x98.length x98.length)] ∧ St w s87 (vecC 3 1 (some ⟨b100, 0, none⟩) x98.length x98.length cs126 :: vecC 22 1 a90 c91 q89.length cs94 :: pt b51 (.cells #[.int .i64 x0.Period, .slice a0_0 x0.Plan.length c0_0, .slice a0_1 x0.Links.length c0_1] 25 (0, 0)) :: R)) ?_ ?_
        · refine W.block ?_
          refine W.loop (fun m a w => ∃ (n117 : Nat), ∃ (q121 : Int), ∃ (q122 : List Int), ∃ (cs126 : List Value), n117 = m ∧ Fishref2SettlesOf.loop3 x0 q89 q96 n117 q121 q122 = some q116 ∧ Ev 1 (RI .i64) s87 cs126 q122 ∧ q122.length = x98.length ∧ Rep a 149 [(2, .pointer (some ⟨b51, 0, none⟩)), (9, .slice a90 q89.length c91), (10, .int .i64 q96), (11, .slice (some ⟨b100, 0, none⟩) x98.length x98.length), (51, .int .i64 (w64 (((x0.Plan).length : Int) + 1))), (52, .int .i64 q121)] ∧ St w s87 (vecC 3 1 (some ⟨b100, 0, none⟩) x98.length x98.length cs126 :: vecC 22 1 a90 c91 q89.length cs94 :: pt b51 (.cells #[.int .i64 x0.Period, .slice a0_0 x0.Plan.length c0_0, .slice a0_1 x0.Links.length c0_1] 25 (0, 0)) :: R)) (m := fu) ⟨fu, 0, x98, cs101, rfl, hq115, h102, (rfl), hE.pick _ ⟨rfl, rfl, rfl, rfl, rfl, rfl, trivial⟩, hS⟩ ?_
          clear hE hS a w hq115; rintro m118 a w ⟨n117, q121, q122, cs126, rfl, hq115, h125, hn127, hE, hS⟩
          refine W.gen fun K128 hK128 => ?_
          rcases n117 with _ | n117
          · rw [Fishref2SettlesOf.loop3] at hq115; exact absurd hq115 (by simp)
          rw [Fishref2SettlesOf.loop3] at hq115
          refine W.seq ?_
          refine W.region ?_
          refine WL.vS hS hE (runs_plain rfl) (Gives.p hE rfl) rfl ?_; clear hE a; intro a hE
          refine WL.nil ?_
          refine W.seq ?_
          refine W.cond hE rfl (fun hc129 => ?_) (fun hc129 => ?_)
          · replace hq115 := iteT hc129 hq115
            refine W.skip ?_
            refine W.seq ?_
            refine W.block ?_
            refine W.seq ?_
            refine W.region ?_
            refine WL.vS hS hE (runs_plain rfl) (Gives.fld hE rfl fl25_2) rfl ?_; clear hE a; intro a hE
            refine WL.vS hS hE (runs_plain rfl) (Gives.loadB hE 2 rfl rfl rfl ty23) rfl ?_; clear hE a; intro a hE
            refine WL.vS hS hE (runs_plain rfl) (Gives.len hE rfl sl23) rfl ?_; clear hE a; intro a hE
            refine WL.vS hS hE (runs_plain rfl) (Gives.p hE rfl) rfl ?_; clear hE a; intro a hE
            refine WL.nil ?_
            obtain ⟨q131, hq130, hq115⟩ := bindS hq115
            refine W.cut (fun a w => ∃ (q141 : List Int), ∃ (cs145 : List Value), q141 = q131 ∧ Ev 1 (RI .i64) s87 cs145 q141 ∧ q141.length = x98.length ∧ Rep a 149 [(2, .pointer (some ⟨b51, 0, none⟩)), (9, .slice a90 q89.length c91), (10, .int .i64 q96), (11, .slice (some ⟨b100, 0, none⟩) x98.length x98.length), (51, .int .i64 (w64 (((x0.Plan).length : Int) + 1))), (52, .int .i64 q121)] ∧ St w s87 (vecC 3 1 (some ⟨b100, 0, none⟩) x98.length x98.length cs145 :: vecC 22 1 a90 c91 q89.length cs94 :: pt b51 (.cells #[.int .i64 x0.Period, .slice a0_0 x0.Plan.length c0_0, .slice a0_1 x0.Links.length c0_1] 25 (0, 0)) :: R)) ?_ ?_
            · refine W.block ?_
              refine W.loop (fun m a w => ∃ (rest134 : List MendLink) (k132 : Nat), ∃ (q141 : List Int), ∃ (cs145 : List Value), rest134.length = m ∧ x0.Links.drop k132 = rest134 ∧ Fishref2SettlesOf.loop4 x0 q89 q96 rest134 q141 = some q131 ∧ Ev 1 (RI .i64) s87 cs145 q141 ∧ q141.length = x98.length ∧ Rep a 149 [(2, .pointer (some ⟨b51, 0, none⟩)), (9, .slice a90 q89.length c91), (10, .int .i64 q96), (11, .slice (some ⟨b100, 0, none⟩) x98.length x98.length), (51, .int .i64 (w64 (((x0.Plan).length : Int) + 1))), (52, .int .i64 q121), (55, .slice a0_1 x0.Links.length c0_1), (56, .int .i64 ((x0.Links).length : Int)), (57, .int .i64 ((k132 : Nat) : Int))] ∧ St w s87 (vecC 3 1 (some ⟨b100, 0, none⟩) x98.length x98.length cs145 :: vecC 22 1 a90 c91 q89.length cs94 :: pt b51 (.cells #[.int .i64 x0.Period, .slice a0_0 x0.Plan.length c0_0, .slice a0_1 x0.Links.length c0_1] 25 (0, 0)) :: R)) (m := x0.Links.length) ⟨x0.Links, 0, q122, cs126, rfl, rfl, hq130, h125, hn127, hE.pick _ ⟨rfl, rfl, rfl, rfl, rfl, rfl, rfl, rfl, rfl, trivial⟩, hS⟩ ?_
              clear hE hS a w hq130; rintro m138 a w ⟨rest134, k132, q141, cs145, rfl, hd135, hq130, h144, hn146, hE, hS⟩
              refine W.gen fun K147 hK147 => ?_
              rcases rest134 with _ | ⟨x133, rest134⟩
              · have hlt136 := drop_nil hd135
                refine W.seq ?_
                refine W.region ?_
                refine WL.vS hS hE (runs_plain rfl) (Gives.p hE rfl) rfl ?_; clear hE a; intro a hE
                refine WL.nil ?_
                refine W.seq ?_
                refine W.condF hE rfl (decide_eq_false (by omega)) ?_
                subst hK147
                refine W.exit rfl ?_
                exact ⟨q141, cs145, Option.some.inj hq130, h144, hn146, hE.pick _ ⟨rfl, rfl, rfl, rfl, rfl, rfl, trivial⟩, hS⟩
              · obtain ⟨hlt136, hx137, hd135⟩ := drop_cons hd135
                rw [Fishref2SettlesOf.loop4] at hq130
                refine W.seq ?_
                refine W.region ?_
                refine WL.vS hS hE (runs_plain rfl) (Gives.p hE rfl) rfl ?_; clear hE a; intro a hE
                refine WL.nil ?_
                refine W.seq ?_
                refine W.condT hE rfl (decide_eq_true (by omega)) ?_
                refine W.skip ?_
                refine W.seq ?_
                refine W.block ?_
                refine W.seq ?_
                refine W.region ?_
                obtain ⟨cs148, hl149, hR150, hat151⟩ := h0_1.at hx137
                subst hR150
                refine WL.vS hS hE (runs_plain rfl) (Gives.idx hE k132 rfl rfl sl23 rfl hlt136 (h0_1.aok hlt136)) rfl ?_; clear hE a; intro a hE
                refine WL.vS hS hE (runs_plain rfl) (Gives.loadA hE rfl (fun w h => hat151 w _ h) ty36) rfl ?_; clear hE a; intro a hE
                refine WL.alloc hE hS (runs_plain rfl) zr36 rfl ?_; clear hE hS a w; intro b152 a w hE hS
                refine WL.storeI hE hS 0 rfl (MendLink.cells x133) (runs_plain rfl) rfl rfl rfl ty36 rfl rfl rfl rfl ?_; clear hE hS a w; intro a w hE hS
                refine WL.nil ?_
                refine W.block ?_
                refine W.seq ?_
                refine W.region ?_
                refine WL.vS hS hE (runs_plain rfl) (Gives.fld hE rfl fl36_3) rfl ?_; clear hE a; intro a hE
                refine WL.vS hS hE (runs_plain rfl) (Gives.loadB hE 0 rfl rfl rfl ty3) rfl ?_; clear hE a; intro a hE
                refine WL.vS hS hE (runs_plain rfl) (Gives.p hE rfl) rfl ?_; clear hE a; intro a hE
                refine WL.vS hS hE (runs_plain rfl) (Gives.p hE rfl) rfl ?_; clear hE a; intro a hE
                refine WL.nil ?_
                obtain ⟨q154, hq153, hq130⟩ := bindS hq130
                refine W.cut (fun a w => ∃ (q157 : List Int), ∃ (cs161 : List Value), q157 = q154 ∧ Ev 1 (RI .i64) s87 cs161 q157 ∧ q157.length = x98.length ∧ Rep a 149 [(2, .pointer (some ⟨b51, 0, none⟩)), (9, .slice a90 q89.length c91), (10, .int .i64 q96), (11, .slice (some ⟨b100, 0, none⟩) x98.length x98.length), (51, .int .i64 (w64 (((x0.Plan).length : Int) + 1))), (52, .int .i64 q121), (55, .slice a0_1 x0.Links.length c0_1), (56, .int .i64 ((x0.Links).length : Int)), (57, .int .i64 ((k132 : Nat) : Int))] ∧ St w s87 (pt b152 (.cells (MendLink.cells x133).toArray 36 (0, 0)) :: vecC 3 1 (some ⟨b100, 0, none⟩) x98.length x98.length cs161 :: vecC 22 1 a90 c91 q89.length cs94 :: pt b51 (.cells #[.int .i64 x0.Period, .slice a0_0 x0.Plan.length c0_0, .slice a0_1 x0.Links.length c0_1] 25 (0, 0)) :: R)) ?_ ?_
                · refine W.gen fun K163 hK163 => ?_
                  refine W.cond hE rfl (fun hc164 => ?_) (fun hc164 => ?_)
                  · replace hq153 := iteT hc164 hq153
                    refine W.gen fun K165 hK165 => ?_
                    refine W.regionE (sel (fun w => St w s87 (pt b152 (.cells (MendLink.cells x133).toArray 36 (0, 0)) :: vecC 3 1 (some ⟨b100, 0, none⟩) x98.length x98.length cs145 :: vecC 22 1 a90 c91 q89.length cs94 :: pt b51 (.cells #[.int .i64 x0.Period, .slice a0_0 x0.Plan.length c0_0, .slice a0_1 x0.Links.length c0_1] 25 (0, 0)) :: R)) (fun w => St w s87 (pt b152 (.cells (MendLink.cells x133).toArray 36 (0, 0)) :: vecC 22 1 a90 c91 q89.length cs94 :: pt b51 (.cells #[.int .i64 x0.Period, .slice a0_0 x0.Plan.length c0_0, .slice a0_1 x0.Links.length c0_1] 25 (0, 0)) :: R))) (fun b i => cond b ([0, 1, 2, 3, 4, 5, 6, 7, 8, 9, 10, 11, 12, 13, 14, 15, 16, 17, 18].contains i) ([0, 1, 2, 3, 4, 5, 6, 7, 8, 9, 10, 11, 12, 13, 14, 15, 16, 17, 18, 19].contains i)) mixed ?_
                    replace hS := hS.drew
                    refine Rg.takeP (i := 0) hE rfl (by kernel_rfl) (runs_plain rfl) (Gives.p hE rfl) rfl (tw_sel (fun _ => hS) (fun _ => (hS.dropAt 1))) ?_; clear hE a; intro a hE
                    refine Rg.takeP (i := 1) hE rfl (by kernel_rfl) (runs_plain rfl) (Gives.fld hE rfl fl36_1) rfl (tw_sel (fun _ => hS) (fun _ => (hS.dropAt 1))) ?_; clear hE a; intro a hE
                    have hT := tw_sel (A := fun w => St w s87 (pt b152 (.cells (MendLink.cells x133).toArray 36 (0, 0)) :: vecC 3 1 (some ⟨b100, 0, none⟩) x98.length x98.length cs145 :: vecC 22 1 a90 c91 q89.length cs94 :: pt b51 (.cells #[.int .i64 x0.Period, .slice a0_0 x0.Plan.length c0_0, .slice a0_1 x0.Links.length c0_1] 25 (0, 0)) :: R)) (B := fun w => St w s87 (pt b152 (.cells (MendLink.cells x133).toArray 36 (0, 0)) :: vecC 22 1 a90 c91 q89.length cs94 :: pt b51 (.cells #[.int .i64 x0.Period, .slice a0_0 x0.Plan.length c0_0, .slice a0_1 x0.Links.length c0_1] 25 (0, 0)) :: R)) (w := _) (x := true) (y := true) (fun _ => hS) (fun _ => (hS.dropAt 1))
                    have hF := hS; replace hS := hS
                    refine Rg.take (i := 2) true rfl hE rfl (by kernel_rfl) (runs_plain rfl) (Gives.loadB hE 0 rfl rfl rfl ty3) rfl hT ?_; clear hE a; intro a hE
                    replace hS := hF; clear hF hT
                    refine Rg.takeP (i := 3) hE rfl (by kernel_rfl) (runs_plain rfl) (Gives.p hE rfl) rfl (tw_sel (fun _ => hS) (fun _ => (hS.dropAt 1))) ?_; clear hE a; intro a hE
                    refine Rg.takeP (i := 4) hE rfl (by kernel_rfl) (runs_plain rfl) (Gives.fld hE rfl fl36_1) rfl (tw_sel (fun _ => hS) (fun _ => (hS.dropAt 1))) ?_; clear hE a; intro a hE
                    have hT := tw_sel (A := fun w => St w s87 (pt b152 (.cells (MendLink.cells x133).toArray 36 (0, 0)) :: vecC 3 1 (some ⟨b100, 0, none⟩) x98.length x98.length cs145 :: vecC 22 1 a90 c91 q89.length cs94 :: pt b51 (.cells #[.int .i64 x0.Period, .slice a0_0 x0.Plan.length c0_0, .slice a0_1 x0.Links.length c0_1] 25 (0, 0)) :: R)) (B := fun w => St w s87 (pt b152 (.cells (MendLink.cells x133).toArray 36 (0, 0)) :: vecC 22 1 a90 c91 q89.length cs94 :: pt b51 (.cells #[.int .i64 x0.Period, .slice a0_0 x0.Plan.length c0_0, .slice a0_1 x0.Links.length c0_1] 25 (0, 0)) :: R)) (w := _) (x := true) (y := true) (fun _ => hS) (fun _ => (hS.dropAt 1))
                    have hF := hS; replace hS := hS
                    refine Rg.take (i := 5) true rfl hE rfl (by kernel_rfl) (runs_plain rfl) (Gives.loadB hE 0 rfl rfl rfl ty3) rfl hT ?_; clear hE a; intro a hE
                    replace hS := hF; clear hF hT
                    obtain ⟨x166, hx167, hq153⟩ := bindS hq153
                    obtain ⟨hi168, hlt169, hy170⟩ := gx_some hx167
                    obtain ⟨vs171, hl172, hR173, hd174, hget175⟩ := h144.at hy170
                    subst hR173
                    refine Rg.takeP (i := 6) hE rfl (by kernel_rfl) (runs_plain rfl) (Gives.idx hE ((x133.To).toNat) rfl rfl sl22 hi168 (by have := hn146; omega) (hS.vecAok 1 rfl (by have := hn146; omega : (x133.To).toNat < x98.length))) rfl (tw_sel (fun _ => hS) (fun _ => (hS.dropAt 1))) ?_; clear hE a; intro a hE
                    have hT := tw_sel (A := fun w => St w s87 (pt b152 (.cells (MendLink.cells x133).toArray 36 (0, 0)) :: vecC 3 1 (some ⟨b100, 0, none⟩) x98.length x98.length cs145 :: vecC 22 1 a90 c91 q89.length cs94 :: pt b51 (.cells #[.int .i64 x0.Period, .slice a0_0 x0.Plan.length c0_0, .slice a0_1 x0.Links.length c0_1] 25 (0, 0)) :: R)) (B := fun w => St w s87 (pt b152 (.cells (MendLink.cells x133).toArray 36 (0, 0)) :: vecC 22 1 a90 c91 q89.length cs94 :: pt b51 (.cells #[.int .i64 x0.Period, .slice a0_0 x0.Plan.length c0_0, .slice a0_1 x0.Links.length c0_1] 25 (0, 0)) :: R)) (w := _) (x := true) (y := true) (fun _ => hS) (fun _ => (hS.dropAt 1))
                    have hF := hS; replace hS := hS
                    refine Rg.take (i := 7) true rfl hE rfl (by kernel_rfl) (runs_plain rfl) (Gives.load1 hE rfl (fun w h => St.vecSees h 1 rfl ((x133.To).toNat * 1) _ hget175) ty3) rfl hT ?_; clear hE a; intro a hE
                    replace hS := hF; clear hF hT
                    refine Rg.takeP (i := 8) hE rfl (by kernel_rfl) (runs_plain rfl) (Gives.p hE rfl) rfl (tw_sel (fun _ => hS) (fun _ => (hS.dropAt 1))) ?_; clear hE a; intro a hE
                    refine Rg.takeP (i := 9) hE rfl (by kernel_rfl) (runs_plain rfl) (Gives.fld hE rfl fl36_0) rfl (tw_sel (fun _ => hS) (fun _ => (hS.dropAt 1))) ?_; clear hE a; intro a hE
                    have hT := tw_sel (A := fun w => St w s87 (pt b152 (.cells (MendLink.cells x133).toArray 36 (0, 0)) :: vecC 3 1 (some ⟨b100, 0, none⟩) x98.length x98.length cs145 :: vecC 22 1 a90 c91 q89.length cs94 :: pt b51 (.cells #[.int .i64 x0.Period, .slice a0_0 x0.Plan.length c0_0, .slice a0_1 x0.Links.length c0_1] 25 (0, 0)) :: R)) (B := fun w => St w s87 (pt b152 (.cells (MendLink.cells x133).toArray 36 (0, 0)) :: vecC 22 1 a90 c91 q89.length cs94 :: pt b51 (.cells #[.int .i64 x0.Period, .slice a0_0 x0.Plan.length c0_0, .slice a0_1 x0.Links.length c0_1] 25 (0, 0)) :: R)) (w := _) (x := true) (y := true) (fun _ => hS) (fun _ => (hS.dropAt 1))
                    have hF := hS; replace hS := hS
                    refine Rg.take (i := 10) true rfl hE rfl (by kernel_rfl) (runs_plain rfl) (Gives.loadB hE 0 rfl rfl rfl ty3) rfl hT ?_; clear hE a; intro a hE
                    replace hS := hF; clear hF hT
                    obtain ⟨x176, hx177, hq153⟩ := bindS hq153
                    obtain ⟨hi178, hlt179, hy180⟩ := gx_some hx177
                    obtain ⟨vs181, hl182, hR183, hd184, hget185⟩ := h144.at hy180
                    subst hR183
                    refine Rg.takeP (i := 11) hE rfl (by kernel_rfl) (runs_plain rfl) (Gives.idx hE ((x133.From).toNat) rfl rfl sl22 hi178 (by have := hn146; omega) (hS.vecAok 1 rfl (by have := hn146; omega : (x133.From).toNat < x98.length))) rfl (tw_sel (fun _ => hS) (fun _ => (hS.dropAt 1))) ?_; clear hE a; intro a hE
                    have hT := tw_sel (A := fun w => St w s87 (pt b152 (.cells (MendLink.cells x133).toArray 36 (0, 0)) :: vecC 3 1 (some ⟨b100, 0, none⟩) x98.length x98.length cs145 :: vecC 22 1 a90 c91 q89.length cs94 :: pt b51 (.cells #[.int .i64 x0.Period, .slice a0_0 x0.Plan.length c0_0, .slice a0_1 x0.Links.length c0_1] 25 (0, 0)) :: R)) (B := fun w => St w s87 (pt b152 (.cells (MendLink.cells x133).toArray 36 (0, 0)) :: vecC 22 1 a90 c91 q89.length cs94 :: pt b51 (.cells #[.int .i64 x0.Period, .slice a0_0 x0.Plan.length c0_0, .slice a0_1 x0.Links.length c0_1] 25 (0, 0)) :: R)) (w := _) (x := true) (y := true) (fun _ => hS) (fun _ => (hS.dropAt 1))
                    have hF := hS; replace hS := hS
                    refine Rg.take (i := 12) true rfl hE rfl (by kernel_rfl) (runs_plain rfl) (Gives.load1 hE rfl (fun w h => St.vecSees h 1 rfl ((x133.From).toNat * 1) _ hget185) ty3) rfl hT ?_; clear hE a; intro a hE
                    replace hS := hF; clear hF hT
                    have hT := tw_sel (A := fun w => St w s87 (pt b152 (.cells (MendLink.cells x133).toArray 36 (0, 0)) :: vecC 3 1 (some ⟨b100, 0, none⟩) x98.length x98.length cs145 :: vecC 22 1 a90 c91 q89.length cs94 :: pt b51 (.cells #[.int .i64 x0.Period, .slice a0_0 x0.Plan.length c0_0, .slice a0_1 x0.Links.length c0_1] 25 (0, 0)) :: R)) (B := fun w => St w s87 (pt b152 (.cells (MendLink.cells x133).toArray 36 (0, 0)) :: vecC 22 1 a90 c91 q89.length cs94 :: pt b51 (.cells #[.int .i64 x0.Period, .slice a0_0 x0.Plan.length c0_0, .slice a0_1 x0.Links.length c0_1] 25 (0, 0)) :: R)) (w := _) (x := true) (y := true) (fun _ => hS) (fun _ => (hS.dropAt 1))
                    have hF := hS; replace hS := hS
                    refine Rg.take (i := 13) true rfl hE rfl (by kernel_rfl) (runs_plain rfl) (Gives.loadBA hE 3 rfl rfl ty25) rfl hT ?_; clear hE a; intro a hE
                    replace hS := hF; clear hF hT
                    have hT := tw_sel (A := fun w => St w s87 (pt b152 (.cells (MendLink.cells x133).toArray 36 (0, 0)) :: vecC 3 1 (some ⟨b100, 0, none⟩) x98.length x98.length cs145 :: vecC 22 1 a90 c91 q89.length cs94 :: pt b51 (.cells #[.int .i64 x0.Period, .slice a0_0 x0.Plan.length c0_0, .slice a0_1 x0.Links.length c0_1] 25 (0, 0)) :: R)) (B := fun w => St w s87 (pt b152 (.cells (MendLink.cells x133).toArray 36 (0, 0)) :: vecC 22 1 a90 c91 q89.length cs94 :: pt b51 (.cells #[.int .i64 x0.Period, .slice a0_0 x0.Plan.length c0_0, .slice a0_1 x0.Links.length c0_1] 25 (0, 0)) :: R)) (w := _) (x := true) (y := true) (fun _ => hS) (fun _ => (hS.dropAt 1))
                    have hF := hS; replace hS := hS
                    refine Rg.take (i := 14) true rfl hE rfl (by kernel_rfl) (runs_plain rfl) (Gives.loadBA hE 0 rfl rfl ty36) rfl hT ?_; clear hE a; intro a hE
                    replace hS := hF; clear hF hT
                    refine Rg.one (i := 15) true true rfl (by kernel_rfl) (by kernel_rfl) (by kernel_rfl) ?_
                    obtain ⟨q186, hq187, hq153⟩ := bindS hq153
                    have hc_ := Fishref2SlackOf_ok hS h0_0 h0_1 hq187
                    refine WL.fnq hE (hc_) (runs_plain rfl) bd52 rfl rfl rfl ?_
                    clear hE hS hc_; rintro e w ⟨rfl, hS⟩; refine ⟨_, rfl, ?_⟩; clear a; intro a hE
                    refine WL.nil ?_
                    refine ⟨⟨fun _ => hS, fun _ => (hS.dropAt 1)⟩, ?_⟩
                    refine Rg.takeP (i := 16) hE rfl (by kernel_rfl) (runs_plain rfl) (Gives.p hE rfl) rfl (tw_sel (fun _ => hS) (fun _ => (hS.dropAt 1))) ?_; clear hE a; intro a hE
                    refine Rg.takeP (i := 17) hE rfl (by kernel_rfl) (runs_plain rfl) (Gives.max2 hE rfl rfl) rfl (tw_sel (fun _ => hS) (fun _ => (hS.dropAt 1))) ?_; clear hE a; intro a hE
                    obtain ⟨_, hx189, hq153⟩ := bindS hq153
                    obtain ⟨h190, h191⟩ := ix_some hx189
                    refine Rg.takeP (i := 18) hE rfl (by kernel_rfl) (runs_plain rfl) (Gives.idx hE ((x133.To).toNat) rfl rfl sl22 h190 (by have := hn146; omega) (hS.vecAok 1 rfl (by have := hn146; omega : (x133.To).toNat < x98.length))) rfl (tw_sel (fun _ => hS) (fun _ => (hS.dropAt 1))) ?_; clear hE a; intro a hE
                    refine Rg.one (i := 19) false true rfl (by kernel_rfl) (by kernel_rfl) (by kernel_rfl) ?_
                    obtain ⟨x193, hx194, hq153⟩ := bindS hq153
                    refine WL.setD hE hS 1 rfl (runs_plain rfl) rfl rfl (vs := [.int .i64 (mx x166 (w64 (x176 - q186)))]) rfl ty3 rfl rfl rfl h144 hn146 (sx_some hx194).1 hx194 rfl rfl ?_; clear hE hS a w; intro cs195 a w h196 hn197 hE hS
                    refine WL.nil ?_
                    refine ⟨⟨fun h => absurd h (by decide), fun _ => (hS.dropAt 1)⟩, ?_⟩
                    refine Rg.done (by kernel_rfl) ?_
                    subst hK165
                    subst hK163
                    exact ⟨x193, cs195, Option.some.inj hq153, h196, hn197, hE.pick _ ⟨rfl, rfl, rfl, rfl, rfl, rfl, rfl, rfl, rfl, trivial⟩, hS⟩
                  · replace hq153 := iteF hc164 hq153
                    refine W.seq ?_
                    refine W.region ?_
                    refine WL.vS hS hE (runs_plain rfl) (Gives.fld hE rfl fl36_3) rfl ?_; clear hE a; intro a hE
                    refine WL.vS hS hE (runs_plain rfl) (Gives.loadB hE 0 rfl rfl rfl ty3) rfl ?_; clear hE a; intro a hE
                    refine WL.vS hS hE (runs_plain rfl) (Gives.p hE rfl) rfl ?_; clear hE a; intro a hE
                    refine WL.vS hS hE (runs_plain rfl) (Gives.p hE rfl) rfl ?_; clear hE a; intro a hE
                    refine WL.vS hS hE (runs_plain rfl) (Gives.p hE rfl) rfl ?_; clear hE a; intro a hE
                    refine WL.nil ?_
                    obtain ⟨q199, hq198, hq153⟩ := bindS hq153
                    refine W.cut (fun a w => ∃ (q202 : List Int), ∃ (cs206 : List Value), q202 = q199 ∧ Ev 1 (RI .i64) s87 cs206 q202 ∧ q202.length = x98.length ∧ Rep a 149 [(2, .pointer (some ⟨b51, 0, none⟩)), (9, .slice a90 q89.length c91), (10, .int .i64 q96), (11, .slice (some ⟨b100, 0, none⟩) x98.length x98.length), (51, .int .i64 (w64 (((x0.Plan).length : Int) + 1))), (52, .int .i64 q121), (55, .slice a0_1 x0.Links.length c0_1), (56, .int .i64 ((x0.Links).length : Int)), (57, .int .i64 ((k132 : Nat) : Int))] ∧ St w s87 (pt b152 (.cells (MendLink.cells x133).toArray 36 (0, 0)) :: vecC 3 1 (some ⟨b100, 0, none⟩) x98.length x98.length cs206 :: vecC 22 1 a90 c91 q89.length cs94 :: pt b51 (.cells #[.int .i64 x0.Period, .slice a0_0 x0.Plan.length c0_0, .slice a0_1 x0.Links.length c0_1] 25 (0, 0)) :: R)) ?_ ?_
                    · refine W.gen fun K208 hK208 => ?_
                      refine W.cond hE rfl (fun hc209 => ?_) (fun hc209 => ?_)
                      · replace hq198 := iteT hc209 hq198
                        refine W.gen fun K210 hK210 => ?_
                        refine W.regionE (sel (fun w => St w s87 (pt b152 (.cells (MendLink.cells x133).toArray 36 (0, 0)) :: vecC 3 1 (some ⟨b100, 0, none⟩) x98.length x98.length cs145 :: vecC 22 1 a90 c91 q89.length cs94 :: pt b51 (.cells #[.int .i64 x0.Period, .slice a0_0 x0.Plan.length c0_0, .slice a0_1 x0.Links.length c0_1] 25 (0, 0)) :: R)) (fun w => St w s87 (pt b152 (.cells (MendLink.cells x133).toArray 36 (0, 0)) :: vecC 22 1 a90 c91 q89.length cs94 :: pt b51 (.cells #[.int .i64 x0.Period, .slice a0_0 x0.Plan.length c0_0, .slice a0_1 x0.Links.length c0_1] 25 (0, 0)) :: R))) (fun b i => cond b ([0, 1, 2, 3, 4, 5, 6, 7, 8, 9, 10, 11, 12, 13, 14, 15, 16, 17, 18, 19, 20, 21, 22, 23, 24].contains i) ([0, 1, 2, 3, 4, 5, 6, 7, 8, 9, 10, 11, 12, 13, 14, 15, 16, 17, 18, 19, 20, 21, 22, 23, 24, 25].contains i)) mixed ?_
                        replace hS := hS.drew
                        refine Rg.takeP (i := 0) hE rfl (by kernel_rfl) (runs_plain rfl) (Gives.p hE rfl) rfl (tw_sel (fun _ => hS) (fun _ => (hS.dropAt 1))) ?_; clear hE a; intro a hE
                        refine Rg.takeP (i := 1) hE rfl (by kernel_rfl) (runs_plain rfl) (Gives.fld hE rfl fl36_1) rfl (tw_sel (fun _ => hS) (fun _ => (hS.dropAt 1))) ?_; clear hE a; intro a hE
                        have hT := tw_sel (A := fun w => St w s87 (pt b152 (.cells (MendLink.cells x133).toArray 36 (0, 0)) :: vecC 3 1 (some ⟨b100, 0, none⟩) x98.length x98.length cs145 :: vecC 22 1 a90 c91 q89.length cs94 :: pt b51 (.cells #[.int .i64 x0.Period, .slice a0_0 x0.Plan.length c0_0, .slice a0_1 x0.Links.length c0_1] 25 (0, 0)) :: R)) (B := fun w => St w s87 (pt b152 (.cells (MendLink.cells x133).toArray 36 (0, 0)) :: vecC 22 1 a90 c91 q89.length cs94 :: pt b51 (.cells #[.int .i64 x0.Period, .slice a0_0 x0.Plan.length c0_0, .slice a0_1 x0.Links.length c0_1] 25 (0, 0)) :: R)) (w := _) (x := true) (y := true) (fun _ => hS) (fun _ => (hS.dropAt 1))
                        have hF := hS; replace hS := hS
                        refine Rg.take (i := 2) true rfl hE rfl (by kernel_rfl) (runs_plain rfl) (Gives.loadB hE 0 rfl rfl rfl ty3) rfl hT ?_; clear hE a; intro a hE
                        replace hS := hF; clear hF hT
                        refine Rg.takeP (i := 3) hE rfl (by kernel_rfl) (runs_plain rfl) (Gives.p hE rfl) rfl (tw_sel (fun _ => hS) (fun _ => (hS.dropAt 1))) ?_; clear hE a; intro a hE
                        refine Rg.takeP (i := 4) hE rfl (by kernel_rfl) (runs_plain rfl) (Gives.fld hE rfl fl36_1) rfl (tw_sel (fun _ => hS) (fun _ => (hS.dropAt 1))) ?_; clear hE a; intro a hE
                        have hT := tw_sel (A := fun w => St w s87 (pt b152 (.cells (MendLink.cells x133).toArray 36 (0, 0)) :: vecC 3 1 (some ⟨b100, 0, none⟩) x98.length x98.length cs145 :: vecC 22 1 a90 c91 q89.length cs94 :: pt b51 (.cells #[.int .i64 x0.Period, .slice a0_0 x0.Plan.length c0_0, .slice a0_1 x0.Links.length c0_1] 25 (0, 0)) :: R)) (B := fun w => St w s87 (pt b152 (.cells (MendLink.cells x133).toArray 36 (0, 0)) :: vecC 22 1 a90 c91 q89.length cs94 :: pt b51 (.cells #[.int .i64 x0.Period, .slice a0_0 x0.Plan.length c0_0, .slice a0_1 x0.Links.length c0_1] 25 (0, 0)) :: R)) (w := _) (x := true) (y := true) (fun _ => hS) (fun _ => (hS.dropAt 1))
                        have hF := hS; replace hS := hS
                        refine Rg.take (i := 5) true rfl hE rfl (by kernel_rfl) (runs_plain rfl) (Gives.loadB hE 0 rfl rfl rfl ty3) rfl hT ?_; clear hE a; intro a hE
                        replace hS := hF; clear hF hT
                        obtain ⟨x211, hx212, hq198⟩ := bindS hq198
                        obtain ⟨hi213, hlt214, hy215⟩ := gx_some hx212
                        obtain ⟨vs216, hl217, hR218, hd219, hget220⟩ := h144.at hy215
                        subst hR218
                        refine Rg.takeP (i := 6) hE rfl (by kernel_rfl) (runs_plain rfl) (Gives.idx hE ((x133.To).toNat) rfl rfl sl22 hi213 (by have := hn146; omega) (hS.vecAok 1 rfl (by have := hn146; omega : (x133.To).toNat < x98.length))) rfl (tw_sel (fun _ => hS) (fun _ => (hS.dropAt 1))) ?_; clear hE a; intro a hE
                        have hT := tw_sel (A := fun w => St w s87 (pt b152 (.cells (MendLink.cells x133).toArray 36 (0, 0)) :: vecC 3 1 (some ⟨b100, 0, none⟩) x98.length x98.length cs145 :: vecC 22 1 a90 c91 q89.length cs94 :: pt b51 (.cells #[.int .i64 x0.Period, .slice a0_0 x0.Plan.length c0_0, .slice a0_1 x0.Links.length c0_1] 25 (0, 0)) :: R)) (B := fun w => St w s87 (pt b152 (.cells (MendLink.cells x133).toArray 36 (0, 0)) :: vecC 22 1 a90 c91 q89.length cs94 :: pt b51 (.cells #[.int .i64 x0.Period, .slice a0_0 x0.Plan.length c0_0, .slice a0_1 x0.Links.length c0_1] 25 (0, 0)) :: R)) (w := _) (x := true) (y := true) (fun _ => hS) (fun _ => (hS.dropAt 1))
                        have hF := hS; replace hS := hS
                        refine Rg.take (i := 7) true rfl hE rfl (by kernel_rfl) (runs_plain rfl) (Gives.load1 hE rfl (fun w h => St.vecSees h 1 rfl ((x133.To).toNat * 1) _ hget220) ty3) rfl hT ?_; clear hE a; intro a hE
                        replace hS := hF; clear hF hT
                        refine Rg.takeP (i := 8) hE rfl (by kernel_rfl) (runs_plain rfl) (Gives.p hE rfl) rfl (tw_sel (fun _ => hS) (fun _ => (hS.dropAt 1))) ?_; clear hE a; intro a hE
                        refine Rg.takeP (i := 9) hE rfl (by kernel_rfl) (runs_plain rfl) (Gives.p hE rfl) rfl (tw_sel (fun _ => hS) (fun _ => (hS.dropAt 1))) ?_; clear hE a; intro a hE
                        refine Rg.takeP (i := 10) hE rfl (by kernel_rfl) (runs_plain rfl) (Gives.fld hE rfl fl36_3) rfl (tw_sel (fun _ => hS) (fun _ => (hS.dropAt 1))) ?_; clear hE a; intro a hE
                        have hT := tw_sel (A := fun w => St w s87 (pt b152 (.cells (MendLink.cells x133).toArray 36 (0, 0)) :: vecC 3 1 (some ⟨b100, 0, none⟩) x98.length x98.length cs145 :: vecC 22 1 a90 c91 q89.length cs94 :: pt b51 (.cells #[.int .i64 x0.Period, .slice a0_0 x0.Plan.length c0_0, .slice a0_1 x0.Links.length c0_1] 25 (0, 0)) :: R)) (B := fun w => St w s87 (pt b152 (.cells (MendLink.cells x133).toArray 36 (0, 0)) :: vecC 22 1 a90 c91 q89.length cs94 :: pt b51 (.cells #[.int .i64 x0.Period, .slice a0_0 x0.Plan.length c0_0, .slice a0_1 x0.Links.length c0_1] 25 (0, 0)) :: R)) (w := _) (x := true) (y := true) (fun _ => hS) (fun _ => (hS.dropAt 1))
                        have hF := hS; replace hS := hS
                        refine Rg.take (i := 11) true rfl hE rfl (by kernel_rfl) (runs_plain rfl) (Gives.loadB hE 0 rfl rfl rfl ty3) rfl hT ?_; clear hE a; intro a hE
                        replace hS := hF; clear hF hT
                        refine Rg.takeP (i := 12) hE rfl (by kernel_rfl) (runs_plain rfl) (Gives.p hE rfl) rfl (tw_sel (fun _ => hS) (fun _ => (hS.dropAt 1))) ?_; clear hE a; intro a hE
                        obtain ⟨x221, hx222, hq198⟩ := bindS hq198
                        obtain ⟨hi223, hlt224, hy225⟩ := gx_some hx222
                        obtain ⟨vs226, hl227, hR228, hd229, hget230⟩ := h92.at hy225
                        obtain ⟨a231, c232, rfl, h233⟩ := hR228
                        refine Rg.takeP (i := 13) hE rfl (by kernel_rfl) (runs_plain rfl) (Gives.idx hE ((w64 (q96 - x133.Back)).toNat) rfl rfl sl40 hi223 (by omega) (hS.vecAok 2 rfl (by omega : (w64 (q96 - x133.Back)).toNat < q89.length))) rfl (tw_sel (fun _ => hS) (fun _ => (hS.dropAt 1))) ?_; clear hE a; intro a hE
                        have hT := tw_sel (A := fun w => St w s87 (pt b152 (.cells (MendLink.cells x133).toArray 36 (0, 0)) :: vecC 3 1 (some ⟨b100, 0, none⟩) x98.length x98.length cs145 :: vecC 22 1 a90 c91 q89.length cs94 :: pt b51 (.cells #[.int .i64 x0.Period, .slice a0_0 x0.Plan.length c0_0, .slice a0_1 x0.Links.length c0_1] 25 (0, 0)) :: R)) (B := fun w => St w s87 (pt b152 (.cells (MendLink.cells x133).toArray 36 (0, 0)) :: vecC 22 1 a90 c91 q89.length cs94 :: pt b51 (.cells #[.int .i64 x0.Period, .slice a0_0 x0.Plan.length c0_0, .slice a0_1 x0.Links.length c0_1] 25 (0, 0)) :: R)) (w := _) (x := true) (y := true) (fun _ => hS) (fun _ => (hS.dropAt 1))
                        have hF := hS; replace hS := hS
                        refine Rg.take (i := 14) true rfl hE rfl (by kernel_rfl) (runs_plain rfl) (Gives.load1 hE rfl (fun w h => St.vecSees h 2 rfl ((w64 (q96 - x133.Back)).toNat * 1) _ hget230) ty22) rfl hT ?_; clear hE a; intro a hE
                        replace hS := hF; clear hF hT
                        refine Rg.takeP (i := 15) hE rfl (by kernel_rfl) (runs_plain rfl) (Gives.fld hE rfl fl36_0) rfl (tw_sel (fun _ => hS) (fun _ => (hS.dropAt 1))) ?_; clear hE a; intro a hE
                        have hT := tw_sel (A := fun w => St w s87 (pt b152 (.cells (MendLink.cells x133).toArray 36 (0, 0)) :: vecC 3 1 (some ⟨b100, 0, none⟩) x98.length x98.length cs145 :: vecC 22 1 a90 c91 q89.length cs94 :: pt b51 (.cells #[.int .i64 x0.Period, .slice a0_0 x0.Plan.length c0_0, .slice a0_1 x0.Links.length c0_1] 25 (0, 0)) :: R)) (B := fun w => St w s87 (pt b152 (.cells (MendLink.cells x133).toArray 36 (0, 0)) :: vecC 22 1 a90 c91 q89.length cs94 :: pt b51 (.cells #[.int .i64 x0.Period, .slice a0_0 x0.Plan.length c0_0, .slice a0_1 x0.Links.length c0_1] 25 (0, 0)) :: R)) (w := _) (x := true) (y := true) (fun _ => hS) (fun _ => (hS.dropAt 1))
                        have hF := hS; replace hS := hS
                        refine Rg.take (i := 16) true rfl hE rfl (by kernel_rfl) (runs_plain rfl) (Gives.loadB hE 0 rfl rfl rfl ty3) rfl hT ?_; clear hE a; intro a hE
                        replace hS := hF; clear hF hT
                        obtain ⟨x234, hx235, hq198⟩ := bindS hq198
                        obtain ⟨hi236, hlt237, hy238⟩ := gx_some hx235
                        obtain ⟨cs239, hl240, hR241, hat242⟩ := h233.at hy238
                        subst hR241
                        refine Rg.takeP (i := 17) hE rfl (by kernel_rfl) (runs_plain rfl) (Gives.idx hE (x133.From).toNat rfl rfl sl22 hi236 hlt237 (h233.aok hlt237)) rfl (tw_sel (fun _ => hS) (fun _ => (hS.dropAt 1))) ?_; clear hE a; intro a hE
                        have hT := tw_sel (A := fun w => St w s87 (pt b152 (.cells (MendLink.cells x133).toArray 36 (0, 0)) :: vecC 3 1 (some ⟨b100, 0, none⟩) x98.length x98.length cs145 :: vecC 22 1 a90 c91 q89.length cs94 :: pt b51 (.cells #[.int .i64 x0.Period, .slice a0_0 x0.Plan.length c0_0, .slice a0_1 x0.Links.length c0_1] 25 (0, 0)) :: R)) (B := fun w => St w s87 (pt b152 (.cells (MendLink.cells x133).toArray 36 (0, 0)) :: vecC 22 1 a90 c91 q89.length cs94 :: pt b51 (.cells #[.int .i64 x0.Period, .slice a0_0 x0.Plan.length c0_0, .slice a0_1 x0.Links.length c0_1] 25 (0, 0)) :: R)) (w := _) (x := true) (y := true) (fun _ => hS) (fun _ => (hS.dropAt 1))
                        have hF := hS; replace hS := hS
                        refine Rg.take (i := 18) true rfl hE rfl (by kernel_rfl) (runs_plain rfl) (Gives.load1 hE rfl (fun w h => hat242 w _ h) ty3) rfl hT ?_; clear hE a; intro a hE
                        replace hS := hF; clear hF hT
                        have hT := tw_sel (A := fun w => St w s87 (pt b152 (.cells (MendLink.cells x133).toArray 36 (0, 0)) :: vecC 3 1 (some ⟨b100, 0, none⟩) x98.length x98.length cs145 :: vecC 22 1 a90 c91 q89.length cs94 :: pt b51 (.cells #[.int .i64 x0.Period, .slice a0_0 x0.Plan.length c0_0, .slice a0_1 x0.Links.length c0_1] 25 (0, 0)) :: R)) (B := fun w => St w s87 (pt b152 (.cells (MendLink.cells x133).toArray 36 (0, 0)) :: vecC 22 1 a90 c91 q89.length cs94 :: pt b51 (.cells #[.int .i64 x0.Period, .slice a0_0 x0.Plan.length c0_0, .slice a0_1 x0.Links.length c0_1] 25 (0, 0)) :: R)) (w := _) (x := true) (y := true) (fun _ => hS) (fun _ => (hS.dropAt 1))
                        have hF := hS; replace hS := hS
                        refine Rg.take (i := 19) true rfl hE rfl (by kernel_rfl) (runs_plain rfl) (Gives.loadBA hE 3 rfl rfl ty25) rfl hT ?_; clear hE a; intro a hE
                        replace hS := hF; clear hF hT
                        have hT := tw_sel (A := fun w => St w s87 (pt b152 (.cells (MendLink.cells x133).toArray 36 (0, 0)) :: vecC 3 1 (some ⟨b100, 0, none⟩) x98.length x98.length cs145 :: vecC 22 1 a90 c91 q89.length cs94 :: pt b51 (.cells #[.int .i64 x0.Period, .slice a0_0 x0.Plan.length c0_0, .slice a0_1 x0.Links.length c0_1] 25 (0, 0)) :: R)) (B := fun w => St w s87 (pt b152 (.cells (MendLink.cells x133).toArray 36 (0, 0)) :: vecC 22 1 a90 c91 q89.length cs94 :: pt b51 (.cells #[.int .i64 x0.Period, .slice a0_0 x0.Plan.length c0_0, .slice a0_1 x0.Links.length c0_1] 25 (0, 0)) :: R)) (w := _) (x := true) (y := true) (fun _ => hS) (fun _ => (hS.dropAt 1))
                        have hF := hS; replace hS := hS
                        refine Rg.take (i := 20) true rfl hE rfl (by kernel_rfl) (runs_plain rfl) (Gives.loadBA hE 0 rfl rfl ty36) rfl hT ?_; clear hE a; intro a hE
                        replace hS := hF; clear hF hT
                        refine Rg.one (i := 21) true true rfl (by kernel_rfl) (by kernel_rfl) (by kernel_rfl) ?_
                        obtain ⟨q243, hq244, hq198⟩ := bindS hq198
                        have hc_ := Fishref2SlackOf_ok hS h0_0 h0_1 hq244
                        refine WL.fnq hE (hc_) (runs_plain rfl) bd52 rfl rfl rfl ?_
                        clear hE hS hc_; rintro e w ⟨rfl, hS⟩; refine ⟨_, rfl, ?_⟩; clear a; intro a hE
                        refine WL.nil ?_
                        refine ⟨⟨fun _ => hS, fun _ => (hS.dropAt 1)⟩, ?_⟩
                        refine Rg.takeP (i := 22) hE rfl (by kernel_rfl) (runs_plain rfl) (Gives.p hE rfl) rfl (tw_sel (fun _ => hS) (fun _ => (hS.dropAt 1))) ?_; clear hE a; intro a hE
                        refine Rg.takeP (i := 23) hE rfl (by kernel_rfl) (runs_plain rfl) (Gives.max2 hE rfl rfl) rfl (tw_sel (fun _ => hS) (fun _ => (hS.dropAt 1))) ?_; clear hE a; intro a hE
                        obtain ⟨_, hx246, hq198⟩ := bindS hq198
                        obtain ⟨h247, h248⟩ := ix_some hx246
                        refine Rg.takeP (i := 24) hE rfl (by kernel_rfl) (runs_plain rfl) (Gives.idx hE ((x133.To).toNat) rfl rfl sl22 h247 (by have := hn146; omega) (hS.vecAok 1 rfl (by have := hn146; omega : (x133.To).toNat < x98.length))) rfl (tw_sel (fun _ => hS) (fun _ => (hS.dropAt 1))) ?_; clear hE a; intro a hE
                        refine Rg.one (i := 25) false true rfl (by kernel_rfl) (by kernel_rfl) (by kernel_rfl) ?_
                        obtain ⟨x250, hx251, hq198⟩ := bindS hq198
                        refine WL.setD hE hS 1 rfl (runs_plain rfl) rfl rfl (vs := [.int .i64 (mx x211 (w64 (x234 - q243)))]) rfl ty3 rfl rfl rfl h144 hn146 (sx_some hx251).1 hx251 rfl rfl ?_; clear hE hS a w; intro cs252 a w h253 hn254 hE hS
                        refine WL.nil ?_
                        refine ⟨⟨fun h => absurd h (by decide), fun _ => (hS.dropAt 1)⟩, ?_⟩
                        refine Rg.done (by kernel_rfl) ?_
                        subst hK210
                        subst hK208
                        exact ⟨x250, cs252, Option.some.inj hq198, h253, hn254, hE.pick _ ⟨rfl, rfl, rfl, rfl, rfl, rfl, rfl, rfl, rfl, trivial⟩, hS⟩
                      · replace hq198 := iteF hc209 hq198
                        refine W.skip ?_
                        subst hK208
                        exact ⟨q141, cs145, Option.some.inj hq198, h144, hn146, hE.pick _ ⟨rfl, rfl, rfl, rfl, rfl, rfl, rfl, rfl, rfl, trivial⟩, hS⟩
                    · clear hE hS a w; rintro a w ⟨q202, cs206, rfl, h205, hn207, hE, hS⟩
                      subst hK163
                      exact ⟨q202, cs206, Option.some.inj hq153, h205, hn207, hE.pick _ ⟨rfl, rfl, rfl, rfl, rfl, rfl, rfl, rfl, rfl, trivial⟩, hS⟩
                · clear hE hS a w; rintro a w ⟨q157, cs161, rfl, h160, hn162, hE, hS⟩
                  refine W.region ?_
                  refine WL.vS hS hE (runs_plain rfl) (Gives.inc hE rfl (by have := h0_1.small; omega)) rfl ?_; clear hE a; intro a hE
                  refine WL.vS hS hE (runs_plain rfl) (Gives.p hE rfl) rfl ?_; clear hE a; intro a hE
                  refine WL.nil ?_
                  replace hS := hS.tail
                  subst hK147
                  exact ⟨rest134.length, Nat.lt_succ_self _, rest134, k132 + 1, q157, cs161, rfl, hd135, hq130, h160, hn162, hE.pick _ ⟨rfl, rfl, rfl, rfl, rfl, rfl, rfl, rfl, rfl, trivial⟩, hS⟩
            · clear hE hS a w; rintro a w ⟨q141, cs145, rfl, h144, hn146, hE, hS⟩
              refine W.region ?_
              refine WL.vS hS hE (runs_plain rfl) (Gives.p hE rfl) rfl ?_; clear hE a; intro a hE
              refine WL.vS hS hE (runs_plain rfl) (Gives.p hE rfl) rfl ?_; clear hE a; intro a hE
              refine WL.nil ?_
              subst hK128
              exact ⟨n117, Nat.lt_succ_self _, n117, (w64 (q121 + 1)), q141, cs145, rfl, hq115, h144, hn146, hE.pick _ ⟨rfl, rfl, rfl, rfl, rfl, rfl, trivial⟩, hS⟩
          · replace hq115 := iteF hc129 hq115
            subst hK128
            refine W.exit rfl ?_
            exact ⟨q121, q122, cs126, Option.some.inj hq115, h125, hn127, hE.pick _ ⟨rfl, rfl, rfl, rfl, trivial⟩, hS⟩
        · clear hE hS a w; rintro a w ⟨q121, q122, cs126, rfl, h125, hn127, hE, hS⟩
          dsimp only at hq83
          refine W.seq ?_
          refine W.region ?_
          refine WL.vS hS hE (runs_plain rfl) (Gives.p hE rfl) rfl ?_; clear hE a; intro a hE
          refine WL.vS hS hE (runs_plain rfl) (Gives.p hE rfl) rfl ?_; clear hE a; intro a hE
          have hF := hS.fixD RI.mono 0 rfl h125 hn127; clear hS; obtain ⟨s255, hle256, hS, h257⟩ := hF
          (try rw [← hn127] at hE)
          (try rw [← hn127] at hS)
          (try rw [← hn127] at h257)
          replace h92 := Ev.mono (RL.mono RI.mono) hle256 h92
          replace h0_0 := Sl.mono RI.mono hle256 h0_0
          replace h0_1 := Sl.mono RMendLink.mono hle256 h0_1
          refine WL.lit hE hS (e := 22) (es := 1) (vs := [(0, .slice (some ⟨b100, 0, none⟩) q122.length q122.length)]) (cs := [.slice (some ⟨b100, 0, none⟩) q122.length q122.length]) (runs_plain rfl) rfl (by kernel_rfl) rfl ?_; clear hE hS a w; intro b258 a w hE hS
          obtain ⟨x259, hx260, hq83⟩ := bindS hq83
          refine WL.appD hE hS 0 (m := 1) (runs_plain rfl) rfl rfl rfl ap40 rfl h92 rfl (xs := [q122]) (Ev.cons (c1 := [.slice (some ⟨b100, 0, none⟩) q122.length q122.length]) ⟨_, _, rfl, h257⟩ rfl (Ev.nil)) rfl rfl hx260 rfl ?_; clear hE hS a w; intro a261 c262 cs263 a w h264 hE hS
          refine WL.vS hS hE (runs_plain rfl) (Gives.p hE rfl) rfl ?_; clear hE a; intro a hE
          refine WL.nil ?_
          refine W.seq ?_
          refine W.region ?_
          refine WL.vS hS hE (runs_plain rfl) (Gives.p hE rfl) rfl ?_; clear hE a; intro a hE
          refine WL.nil ?_
          refine W.seq ?_
          refine W.seq ?_
          refine W.region ?_
          refine WL.vS hS hE (runs_plain rfl) (Gives.p hE rfl) rfl ?_; clear hE a; intro a hE
          refine WL.vS hS hE (runs_plain rfl) (Gives.len hE rfl sl40) rfl ?_; clear hE a; intro a hE
          refine WL.vS hS hE (runs_plain rfl) (Gives.p hE rfl) rfl ?_; clear hE a; intro a hE
          refine WL.vS hS hE (runs_plain rfl) (Gives.p hE rfl) rfl ?_; clear hE a; intro a hE
          refine WL.nil ?_
          obtain ⟨q266, hq265, hq83⟩ := bindS hq83
          refine W.cut (fun a w => ∃ (q271 : Int), ∃ (q272 : Int), (q271, q272) = q266 ∧ Rep a 149 [(2, .pointer (some ⟨b51, 0, none⟩)), (9, .slice a261 x259.length c262), (10, .int .i64 q96), (14, .int .i64 q271)] ∧ St w s255 (vecC 22 1 a261 c262 x259.length cs263 :: pt b51 (.cells #[.int .i64 x0.Period, .slice a0_0 x0.Plan.length c0_0, .slice a0_1 x0.Links.length c0_1] 25 (0, 0)) :: R)) ?_ ?_
          · refine W.block ?_
            refine W.loop (fun m a w => ∃ (n267 : Nat), ∃ (q271 : Int), ∃ (q272 : Int), n267 = m ∧ Fishref2SettlesOf.loop5 fu x259 n267 q271 q272 = some q266 ∧ Rep a 149 [(2, .pointer (some ⟨b51, 0, none⟩)), (9, .slice a261 x259.length c262), (10, .int .i64 q96), (14, .int .i64 q271), (15, .int .i64 q272)] ∧ St w s255 (vecC 22 1 a261 c262 x259.length cs263 :: pt b51 (.cells #[.int .i64 x0.Period, .slice a0_0 x0.Plan.length c0_0, .slice a0_1 x0.Links.length c0_1] 25 (0, 0)) :: R)) (m := fu) ⟨fu, 0, (w64 (((x259.length : Nat) : Int) - 1)), rfl, hq265, hE.pick _ ⟨rfl, rfl, rfl, rfl, rfl, trivial⟩, hS⟩ ?_
            clear hE hS a w hq265; rintro m268 a w ⟨n267, q271, q272, rfl, hq265, hE, hS⟩
            refine W.gen fun K273 hK273 => ?_
            rcases n267 with _ | n267
            · rw [Fishref2SettlesOf.loop5] at hq265; exact absurd hq265 (by simp)
            rw [Fishref2SettlesOf.loop5] at hq265
            refine W.seq ?_
            refine W.seq ?_
            obtain ⟨q275, hq274, hq265⟩ := bindS hq265
            refine W.cut (fun a w => ∃ (q278 : Bool), q278 = q275 ∧ Rep a 149 [(2, .pointer (some ⟨b51, 0, none⟩)), (9, .slice a261 x259.length c262), (10, .int .i64 q96), (14, .int .i64 q271), (15, .int .i64 q272), (132, .bool q278)] ∧ St w s255 (vecC 22 1 a261 c262 x259.length cs263 :: pt b51 (.cells #[.int .i64 x0.Period, .slice a0_0 x0.Plan.length c0_0, .slice a0_1 x0.Links.length c0_1] 25 (0, 0)) :: R)) ?_ ?_
            · refine W.gen fun K279 hK279 => ?_
              refine W.region ?_
              refine WL.vS hS hE (runs_plain rfl) (Gives.p hE rfl) rfl ?_; clear hE a; intro a hE
              refine WL.vS hS hE (runs_plain rfl) (Gives.p hE rfl) rfl ?_; clear hE a; intro a hE
              refine WL.vS hS hE (runs_plain rfl) (Gives.p hE rfl) rfl ?_; clear hE a; intro a hE
              rcases Bool.eq_false_or_eq_true (decide (q272 ≥ 0)) with hg280 | hg280
              · replace hq274 := iteT hg280 hq274
                refine WL.vS hS hE (runs_if hE rfl rfl rfl hg280) (Gives.p hE rfl) rfl ?_; clear hE a; intro a hE
                refine WL.vS hS hE (runs_if hE rfl rfl rfl hg280) (Gives.p hE rfl) rfl ?_; clear hE a; intro a hE
                obtain ⟨x281, hx282, hq274⟩ := bindS hq274
                obtain ⟨hi283, hlt284, hy285⟩ := gx_some hx282
                obtain ⟨vs286, hl287, hR288, hd289, hget290⟩ := h264.at hy285
                obtain ⟨a291, c292, rfl, h293⟩ := hR288
                refine WL.vS hS hE (runs_if hE rfl rfl rfl hg280) (Gives.idx hE ((q272).toNat) rfl rfl sl40 hi283 (by omega) (hS.vecAok 0 rfl (by omega : (q272).toNat < x259.length))) rfl ?_; clear hE a; intro a hE
                refine WL.vS hS hE (runs_if hE rfl rfl rfl hg280) (Gives.load1 hE rfl (fun w h => St.vecSees h 0 rfl ((q272).toNat * 1) _ hget290) ty22) rfl ?_; clear hE a; intro a hE
                obtain ⟨q294, hq295, hq274⟩ := bindS hq274
                have hc_ := SlicesMaxLint_ok hS h293 hq295
                refine WL.fnq hE (hc_) (runs_if hE rfl rfl rfl hg280) bd77 rfl rfl rfl ?_
                clear hE hS hc_; rintro e w ⟨rfl, hS⟩; refine ⟨_, rfl, ?_⟩; clear a; intro a hE
                refine WL.vS hS hE (runs_if hE rfl rfl rfl hg280) (Gives.p hE rfl) rfl ?_; clear hE a; intro a hE
                refine WL.vS hS hE (runs_plain rfl) (Gives.pickT hE rfl hg280 rfl) rfl ?_; clear hE a; intro a hE
                refine WL.nil ?_
                subst hK279
                exact ⟨(q294 == 0), Option.some.inj hq274, hE.pick _ ⟨rfl, rfl, rfl, rfl, rfl, rfl, trivial⟩, hS⟩
              · replace hq274 := iteF hg280 hq274
                refine WL.no hE (runs_not hE rfl rfl rfl (by rw [hg280]; decide)) rfl ?_; clear hE a; intro a hE
                refine WL.no hE (runs_not hE rfl rfl rfl (by rw [hg280]; decide)) rfl ?_; clear hE a; intro a hE
                refine WL.no hE (runs_not hE rfl rfl rfl (by rw [hg280]; decide)) rfl ?_; clear hE a; intro a hE
                refine WL.no hE (runs_not hE rfl rfl rfl (by rw [hg280]; decide)) rfl ?_; clear hE a; intro a hE
                refine WL.no hE (runs_not hE rfl rfl rfl (by rw [hg280]; decide)) rfl ?_; clear hE a; intro a hE
                refine WL.no hE (runs_not hE rfl rfl rfl (by rw [hg280]; decide)) rfl ?_; clear hE a; intro a hE
                refine WL.vS hS hE (runs_plain rfl) (Gives.pickF hE rfl hg280 rfl) rfl ?_; clear hE a; intro a hE
                refine WL.nil ?_
                subst hK279
                exact ⟨false, Option.some.inj hq274, hE.pick _ ⟨rfl, rfl, rfl, rfl, rfl, rfl, trivial⟩, hS⟩
            · clear hE hS a w; rintro a w ⟨q278, rfl, hE, hS⟩
              refine W.cond hE rfl (fun hc296 => ?_) (fun hc296 => ?_)
              · replace hq265 := iteT hc296 hq265
                refine W.skip ?_
                refine W.seq ?_
                refine W.block ?_
                refine W.region ?_
                refine WL.vS hS hE (runs_plain rfl) (Gives.p hE rfl) rfl ?_; clear hE a; intro a hE
                refine WL.vS hS hE (runs_plain rfl) (Gives.p hE rfl) rfl ?_; clear hE a; intro a hE
                refine WL.vS hS hE (runs_plain rfl) (Gives.p hE rfl) rfl ?_; clear hE a; intro a hE
                refine WL.nil ?_
                refine W.region ?_
                refine WL.vS hS hE (runs_plain rfl) (Gives.p hE rfl) rfl ?_; clear hE a; intro a hE
                refine WL.vS hS hE (runs_plain rfl) (Gives.p hE rfl) rfl ?_; clear hE a; intro a hE
                refine WL.vS hS hE (runs_plain rfl) (Gives.p hE rfl) rfl ?_; clear hE a; intro a hE
                refine WL.nil ?_
                subst hK273
                exact ⟨n267, Nat.lt_succ_self _, n267, (w64 (q271 + 1)), (w64 (q272 - 1)), rfl, hq265, hE.pick _ ⟨rfl, rfl, rfl, rfl, rfl, trivial⟩, hS⟩
              · replace hq265 := iteF hc296 hq265
                subst hK273
                refine W.exit rfl ?_
                exact ⟨q271, q272, Option.some.inj hq265, hE.pick _ ⟨rfl, rfl, rfl, rfl, trivial⟩, hS⟩
          · clear hE hS a w; rintro a w ⟨q271, q272, rfl, hE, hS⟩
            dsimp only at hq83
            refine W.seq ?_
            obtain ⟨q298, hq297, hq83⟩ := bndS hq83
            refine W.cut (fun a w => ∃ (q301 : Bool), q301 = q298 ∧ Rep a 149 [(2, .pointer (some ⟨b51, 0, none⟩)), (9, .slice a261 x259.length c262), (10, .int .i64 q96), (14, .int .i64 q271), (144, .bool q301)] ∧ St w s255 (vecC 22 1 a261 c262 x259.length cs263 :: pt b51 (.cells #[.int .i64 x0.Period, .slice a0_0 x0.Plan.length c0_0, .slice a0_1 x0.Links.length c0_1] 25 (0, 0)) :: R)) ?_ ?_
            · refine W.gen fun K302 hK302 => ?_
              refine W.region ?_
              refine WL.vS hS hE (runs_plain rfl) (Gives.p hE rfl) rfl ?_; clear hE a; intro a hE
              refine WL.vS hS hE (runs_plain rfl) (Gives.p hE rfl) rfl ?_; clear hE a; intro a hE
              refine WL.vS hS hE (runs_plain rfl) (Gives.p hE rfl) rfl ?_; clear hE a; intro a hE
              rcases Bool.eq_false_or_eq_true (decide (q271 ≥ 3)) with hg303 | hg303
              · replace hq297 := iteT hg303 hq297
                refine WL.no hE (runs_not hE rfl rfl rfl (by rw [hg303]; decide)) rfl ?_; clear hE a; intro a hE
                refine WL.no hE (runs_not hE rfl rfl rfl (by rw [hg303]; decide)) rfl ?_; clear hE a; intro a hE
                refine WL.no hE (runs_not hE rfl rfl rfl (by rw [hg303]; decide)) rfl ?_; clear hE a; intro a hE
                refine WL.no hE (runs_not hE rfl rfl rfl (by rw [hg303]; decide)) rfl ?_; clear hE a; intro a hE
                refine WL.vS hS hE (runs_plain rfl) (Gives.pickT hE rfl hg303 rfl) rfl ?_; clear hE a; intro a hE
                refine WL.nil ?_
                subst hK302
                exact ⟨true, hq297, hE.pick _ ⟨rfl, rfl, rfl, rfl, rfl, trivial⟩, hS⟩
              · replace hq297 := iteF hg303 hq297
                refine WL.vS hS hE (runs_if hE rfl rfl rfl hg303) (Gives.p hE rfl) rfl ?_; clear hE a; intro a hE
                refine WL.vS hS hE (runs_if hE rfl rfl rfl hg303) (Gives.p hE rfl) rfl ?_; clear hE a; intro a hE
                refine WL.vS hS hE (runs_if hE rfl rfl rfl hg303) (Gives.len hE rfl sl40) rfl ?_; clear hE a; intro a hE
                refine WL.vS hS hE (runs_if hE rfl rfl rfl hg303) (Gives.p hE rfl) rfl ?_; clear hE a; intro a hE
                refine WL.vS hS hE (runs_plain rfl) (Gives.pickF hE rfl hg303 rfl) rfl ?_; clear hE a; intro a hE
                refine WL.nil ?_
                subst hK302
                exact ⟨(q271 == ((x259.length : Nat) : Int)), hq297, hE.pick _ ⟨rfl, rfl, rfl, rfl, rfl, trivial⟩, hS⟩
            · clear hE hS a w; rintro a w ⟨q301, rfl, hE, hS⟩
              refine W.cond hE rfl (fun hc304 => ?_) (fun hc304 => ?_)
              · replace hq83 := iteT hc304 hq83
                refine W.seq ?_
                refine W.region ?_
                refine WL.vS hS hE (runs_plain rfl) (Gives.p hE rfl) rfl ?_; clear hE a; intro a hE
                refine WL.vS hS hE (runs_plain rfl) (Gives.len hE rfl sl40) rfl ?_; clear hE a; intro a hE
                refine WL.vS hS hE (runs_plain rfl) (Gives.p hE rfl) rfl ?_; clear hE a; intro a hE
                refine WL.vS hS hE (runs_plain rfl) (Gives.p hE rfl) rfl ?_; clear hE a; intro a hE
                refine WL.vS hS hE (runs_plain rfl) (Gives.p hE rfl) rfl ?_; clear hE a; intro a hE
                refine WL.vS hS hE (runs_plain rfl) (Gives.p hE rfl) rfl ?_; clear hE a; intro a hE
                refine WL.nil ?_
                refine W.ret ?_
                subst hK97
                rw [← Option.some.inj hq83] at hr
                dsimp only at hr
                refine finG (fn := Try.f36) (rs := [.tmp 4, .tmp 5]) (vs := [_, _]) hE rfl ⟨rfl, rfl, trivial⟩ ?_
                obtain rfl := Option.some.inj hr
                replace hS := hS.tail
                replace hS := hS.tail
                exact ⟨rfl, (hS.down (Sg.Le.trans (Sg.Le.trans (Sg.Le.trans hle67 hle78) hle88) hle256))⟩
              · replace hq83 := iteF hc304 hq83
                refine W.skip ?_
                refine W.region ?_
                refine WL.vS hS hE (runs_plain rfl) (Gives.p hE rfl) rfl ?_; clear hE a; intro a hE
                refine WL.vS hS hE (runs_plain rfl) (Gives.p hE rfl) rfl ?_; clear hE a; intro a hE
                refine WL.vS hS hE (runs_plain rfl) (Gives.p hE rfl) rfl ?_; clear hE a; intro a hE
                refine WL.nil ?_
                subst hK97
                exact ⟨n85, Nat.lt_succ_self _, n85, x259, (w64 (q96 + 1)), a261, c262, x259.length, cs263, s255, rfl, (Sg.Le.trans hle88 hle256), hq83, h264, (rfl), hE.pick _ ⟨rfl, rfl, rfl, trivial⟩, hS⟩
      · exact fun _ _ h => h.elim
set_option maxHeartbeats 8000000 in
theorem Fishlaw2MendSettles_ok {fu : Nat}  {w : World} {s : Sg} {R : List HP} {x0 : MendRound} {a0_0 : Option Addr} {c0_0 : Nat} {a0_1 : Option Addr} {c0_1 : Nat} {x1 : Int} (hS : St w s (R)) (h0_0 : Sl 1 (RI .i64) s a0_0 c0_0 x0.Plan) (h0_1 : Sl 4 RMendLink s a0_1 c0_1 x0.Links) {r : Bool} (hr : Fishlaw2MendSettles fu x0 x1 = some r) :
    Calls Try.prog 8 [.agg [.int .i64 x0.Period, .slice a0_0 x0.Plan.length c0_0, .slice a0_1 x0.Links.length c0_1].toArray, .int .i64 x1].toArray w (fun e w => e = .returned (.bool r) ∧ St w s (R)) := by
  refine enter Try.func8 rfl rfl rfl fun a hE => ?_
  rw [Fishlaw2MendSettles] at hr
  refine W.seq ?_
  refine W.region ?_
  refine WL.box hE hS (runs_plain rfl) rfl rfl rfl ?_; clear hE hS a w; intro b51 a w hE hS
  refine WL.vS hS hE (runs_plain rfl) (Gives.p hE rfl) rfl ?_; clear hE a; intro a hE
  refine WL.nil ?_
  refine W.seq ?_
  refine W.region ?_
  refine WL.vS hS hE (runs_plain rfl) (Gives.loadBA hE 0 rfl rfl ty25) rfl ?_; clear hE a; intro a hE
  refine WL.vS hS hE (runs_plain rfl) (Gives.p hE rfl) rfl ?_; clear hE a; intro a hE
  obtain ⟨q52, hq53, hr⟩ := bindS hr
  have hc_ := MendSettles_ok hS h0_0 h0_1 hq53
  refine WL.fnq hE (hc_) (runs_plain rfl) bd33 rfl rfl rfl ?_
  clear hE hS hc_; rintro e w ⟨rfl, hS⟩; refine ⟨_, rfl, ?_⟩; clear a; intro a hE
  refine WL.vS hS hE (runs_plain rfl) (Gives.p hE rfl) rfl ?_; clear hE a; intro a hE
  refine WL.vS hS hE (runs_plain rfl) (Gives.p hE rfl) rfl ?_; clear hE a; intro a hE
  refine WL.vS hS hE (runs_plain rfl) (Gives.p hE rfl) rfl ?_; clear hE a; intro a hE
  refine WL.vS hS hE (runs_plain rfl) (Gives.p hE rfl) rfl ?_; clear hE a; intro a hE
  refine WL.vS hS hE (runs_plain rfl) (Gives.p hE rfl) rfl ?_; clear hE a; intro a hE
  refine WL.nil ?_
  refine W.seq ?_
  refine W.region ?_
  refine WL.vS hS hE (runs_plain rfl) (Gives.loadBA hE 0 rfl rfl ty25) rfl ?_; clear hE a; intro a hE
  obtain ⟨q54, hq55, hr⟩ := bindS hr
  have hc_ := MendRoom_ok hS h0_0 h0_1 hq55
  refine WL.fnq hE (hc_) (runs_plain rfl) bd34 rfl rfl rfl ?_
  clear hE hS hc_; rintro e w ⟨a56, c57, s59, rfl, hle60, h58, hS⟩; refine ⟨_, rfl, ?_⟩; clear a; intro a hE
  replace h0_0 := Sl.mono RI.mono hle60 h0_0
  replace h0_1 := Sl.mono RMendLink.mono hle60 h0_1
  refine WL.vS hS hE (runs_plain rfl) (Gives.p hE rfl) rfl ?_; clear hE a; intro a hE
  refine WL.vS hS hE (runs_plain rfl) (Gives.p hE rfl) rfl ?_; clear hE a; intro a hE
  refine WL.vS hS hE (runs_plain rfl) (Gives.p hE rfl) rfl ?_; clear hE a; intro a hE
  refine WL.vS hS hE (runs_plain rfl) (Gives.p hE rfl) rfl ?_; clear hE a; intro a hE
  refine WL.vS hS hE (runs_plain rfl) (Gives.p hE rfl) rfl ?_; clear hE a; intro a hE
  refine WL.nil ?_
  refine W.seq ?_
  refine W.seq ?_
  refine W.region ?_
  refine WL.vS hS hE (runs_plain rfl) (Gives.loadBA hE 0 rfl rfl ty25) rfl ?_; clear hE a; intro a hE
  obtain ⟨q61, hq62, hr⟩ := bindS hr
  have hc_ := Fishref2RoundFault_ok hS h0_0 h0_1 hq62
  refine WL.fnq hE (hc_) (runs_plain rfl) bd14 rfl rfl rfl ?_
  clear hE hS hc_; rintro e w ⟨rfl, hS⟩; refine ⟨_, rfl, ?_⟩; clear a; intro a hE
  refine WL.vS hS hE (runs_plain rfl) (Gives.p hE rfl) rfl ?_; clear hE a; intro a hE
  refine WL.nil ?_
  refine W.seq ?_
  refine W.region ?_
  refine WL.vS hS hE (runs_plain rfl) (Gives.p hE rfl) rfl ?_; clear hE a; intro a hE
  refine WL.vS hS hE (runs_plain rfl) (Gives.p hE rfl) rfl ?_; clear hE a; intro a hE
  refine WL.nil ?_
  refine W.cond hE rfl (fun hc63 => ?_) (fun hc63 => ?_)
  · replace hr := iteT hc63 hr
    refine W.seq ?_
    obtain ⟨q65, hq64, hr⟩ := bindS hr
    refine W.cut (fun a w => ∃ (q68 : Bool), q68 = q65 ∧ Rep a 93 [(4, .bool q68)] ∧ St w s59 (pt b51 (.cells #[.int .i64 x0.Period, .slice a0_0 x0.Plan.length c0_0, .slice a0_1 x0.Links.length c0_1] 25 (0, 0)) :: R)) ?_ ?_
    · refine W.gen fun K69 hK69 => ?_
      refine W.region ?_
      obtain ⟨q70, hq71, hq64⟩ := bindS hq64
      have hc_ := Fishlaw2rounds_ok hS  hq71
      refine WL.fnq hE (hc_) (runs_plain rfl) bd15 rfl rfl rfl ?_
      clear hE hS hc_; rintro e w ⟨rfl, hS⟩; refine ⟨_, rfl, ?_⟩; clear a; intro a hE
      refine WL.vS hS hE (runs_plain rfl) (Gives.p hE rfl) rfl ?_; clear hE a; intro a hE
      rcases Bool.eq_false_or_eq_true q70 with hg72 | hg72
      · replace hq64 := iteT hg72 hq64
        refine WL.vS hS hE (runs_if hE rfl rfl rfl hg72) (Gives.p hE rfl) rfl ?_; clear hE a; intro a hE
        refine WL.vS hS hE (runs_if hE rfl rfl rfl hg72) (Gives.p hE rfl) rfl ?_; clear hE a; intro a hE
        refine WL.vS hS hE (runs_if hE rfl rfl rfl hg72) (Gives.p hE rfl) rfl ?_; clear hE a; intro a hE
        refine WL.vS hS hE (runs_plain rfl) (Gives.pickT hE rfl hg72 rfl) rfl ?_; clear hE a; intro a hE
        refine WL.vS hS hE (runs_plain rfl) (Gives.p hE rfl) rfl ?_; clear hE a; intro a hE
        rcases Bool.eq_false_or_eq_true (q52.2 == q61) with hg73 | hg73
        · replace hq64 := iteT hg73 hq64
          refine WL.vS hS hE (runs_if hE rfl rfl rfl hg73) (Gives.p hE rfl) rfl ?_; clear hE a; intro a hE
          refine WL.vS hS hE (runs_if hE rfl rfl rfl hg73) (Gives.p hE rfl) rfl ?_; clear hE a; intro a hE
          refine WL.vS hS hE (runs_if hE rfl rfl rfl hg73) (Gives.p hE rfl) rfl ?_; clear hE a; intro a hE
          refine WL.vS hS hE (runs_plain rfl) (Gives.pickT hE rfl hg73 rfl) rfl ?_; clear hE a; intro a hE
          refine WL.vS hS hE (runs_plain rfl) (Gives.p hE rfl) rfl ?_; clear hE a; intro a hE
          rcases Bool.eq_false_or_eq_true (q54.2 == q61) with hg74 | hg74
          · replace hq64 := iteT hg74 hq64
            refine WL.vS hS hE (runs_if hE rfl rfl rfl hg74) (Gives.p hE rfl) rfl ?_; clear hE a; intro a hE
            refine WL.vS hS hE (runs_if hE rfl rfl rfl hg74) (Gives.p hE rfl) rfl ?_; clear hE a; intro a hE
            refine WL.vS hS hE (runs_plain rfl) (Gives.pickT hE rfl hg74 rfl) rfl ?_; clear hE a; intro a hE
            refine WL.vS hS hE (runs_plain rfl) (Gives.p hE rfl) rfl ?_; clear hE a; intro a hE
            rcases Bool.eq_false_or_eq_true (q52.1 == 0) with hg75 | hg75
            · replace hq64 := iteT hg75 hq64
              refine WL.vS hS hE (runs_if hE rfl rfl rfl hg75) (Gives.p hE rfl) rfl ?_; clear hE a; intro a hE
              refine WL.vS hS hE (runs_if hE rfl rfl rfl hg75) (Gives.len hE rfl sl40) rfl ?_; clear hE a; intro a hE
              refine WL.vS hS hE (runs_if hE rfl rfl rfl hg75) (Gives.p hE rfl) rfl ?_; clear hE a; intro a hE
              refine WL.vS hS hE (runs_plain rfl) (Gives.pickT hE rfl hg75 rfl) rfl ?_; clear hE a; intro a hE
              refine WL.vS hS hE (runs_plain rfl) (Gives.p hE rfl) rfl ?_; clear hE a; intro a hE
              refine WL.nil ?_
              subst hK69
              exact ⟨(((q54.1).length : Int) == 0), Option.some.inj hq64, hE.pick _ ⟨rfl, trivial⟩, hS⟩
            · replace hq64 := iteF hg75 hq64
              refine WL.no hE (runs_not hE rfl rfl rfl (by rw [hg75]; decide)) rfl ?_; clear hE a; intro a hE
              refine WL.no hE (runs_not hE rfl rfl rfl (by rw [hg75]; decide)) rfl ?_; clear hE a; intro a hE
              refine WL.no hE (runs_not hE rfl rfl rfl (by rw [hg75]; decide)) rfl ?_; clear hE a; intro a hE
              refine WL.vS hS hE (runs_plain rfl) (Gives.pickF hE rfl hg75 rfl) rfl ?_; clear hE a; intro a hE
              refine WL.vS hS hE (runs_plain rfl) (Gives.p hE rfl) rfl ?_; clear hE a; intro a hE
              refine WL.nil ?_
              subst hK69
              exact ⟨false, Option.some.inj hq64, hE.pick _ ⟨rfl, trivial⟩, hS⟩
          · replace hq64 := iteF hg74 hq64
            refine WL.no hE (runs_not hE rfl rfl rfl (by rw [hg74]; decide)) rfl ?_; clear hE a; intro a hE
            refine WL.no hE (runs_not hE rfl rfl rfl (by rw [hg74]; decide)) rfl ?_; clear hE a; intro a hE
            refine WL.vS hS hE (runs_plain rfl) (Gives.pickF hE rfl hg74 rfl) rfl ?_; clear hE a; intro a hE
            refine WL.vS hS hE (runs_plain rfl) (Gives.p hE rfl) rfl ?_; clear hE a; intro a hE
            refine WL.no hE (runs_not hE rfl rfl rfl (by decide)) rfl ?_; clear hE a; intro a hE
            refine WL.no hE (runs_not hE rfl rfl rfl (by decide)) rfl ?_; clear hE a; intro a hE
            refine WL.no hE (runs_not hE rfl rfl rfl (by decide)) rfl ?_; clear hE a; intro a hE
            refine WL.vS hS hE (runs_plain rfl) (Gives.pickF hE rfl rfl rfl) rfl ?_; clear hE a; intro a hE
            refine WL.vS hS hE (runs_plain rfl) (Gives.p hE rfl) rfl ?_; clear hE a; intro a hE
            refine WL.nil ?_
            subst hK69
            exact ⟨false, Option.some.inj hq64, hE.pick _ ⟨rfl, trivial⟩, hS⟩
        · replace hq64 := iteF hg73 hq64
          refine WL.no hE (runs_not hE rfl rfl rfl (by rw [hg73]; decide)) rfl ?_; clear hE a; intro a hE
          refine WL.no hE (runs_not hE rfl rfl rfl (by rw [hg73]; decide)) rfl ?_; clear hE a; intro a hE
          refine WL.no hE (runs_not hE rfl rfl rfl (by rw [hg73]; decide)) rfl ?_; clear hE a; intro a hE
          refine WL.vS hS hE (runs_plain rfl) (Gives.pickF hE rfl hg73 rfl) rfl ?_; clear hE a; intro a hE
          refine WL.vS hS hE (runs_plain rfl) (Gives.p hE rfl) rfl ?_; clear hE a; intro a hE
          refine WL.no hE (runs_not hE rfl rfl rfl (by decide)) rfl ?_; clear hE a; intro a hE
          refine WL.no hE (runs_not hE rfl rfl rfl (by decide)) rfl ?_; clear hE a; intro a hE
          refine WL.vS hS hE (runs_plain rfl) (Gives.pickF hE rfl rfl rfl) rfl ?_; clear hE a; intro a hE
          refine WL.vS hS hE (runs_plain rfl) (Gives.p hE rfl) rfl ?_; clear hE a; intro a hE
          refine WL.no hE (runs_not hE rfl rfl rfl (by decide)) rfl ?_; clear hE a; intro a hE
          refine WL.no hE (runs_not hE rfl rfl rfl (by decide)) rfl ?_; clear hE a; intro a hE
          refine WL.no hE (runs_not hE rfl rfl rfl (by decide)) rfl ?_; clear hE a; intro a hE
          refine WL.vS hS hE (runs_plain rfl) (Gives.pickF hE rfl rfl rfl) rfl ?_; clear hE a; intro a hE
          refine WL.vS hS hE (runs_plain rfl) (Gives.p hE rfl) rfl ?_; clear hE a; intro a hE
          refine WL.nil ?_
          subst hK69
          exact ⟨false, Option.some.inj hq64, hE.pick _ ⟨rfl, trivial⟩, hS⟩
      · replace hq64 := iteF hg72 hq64
        refine WL.no hE (runs_not hE rfl rfl rfl (by rw [hg72]; decide)) rfl ?_; clear hE a; intro a hE
        refine WL.no hE (runs_not hE rfl rfl rfl (by rw [hg72]; decide)) rfl ?_; clear hE a; intro a hE
        refine WL.no hE (runs_not hE rfl rfl rfl (by rw [hg72]; decide)) rfl ?_; clear hE a; intro a hE
        refine WL.vS hS hE (runs_plain rfl) (Gives.pickF hE rfl hg72 rfl) rfl ?_; clear hE a; intro a hE
        refine WL.vS hS hE (runs_plain rfl) (Gives.p hE rfl) rfl ?_; clear hE a; intro a hE
        refine WL.no hE (runs_not hE rfl rfl rfl (by decide)) rfl ?_; clear hE a; intro a hE
        refine WL.no hE (runs_not hE rfl rfl rfl (by decide)) rfl ?_; clear hE a; intro a hE
        refine WL.no hE (runs_not hE rfl rfl rfl (by decide)) rfl ?_; clear hE a; intro a hE
        refine WL.vS hS hE (runs_plain rfl) (Gives.pickF hE rfl rfl rfl) rfl ?_; clear hE a; intro a hE
        refine WL.vS hS hE (runs_plain rfl) (Gives.p hE rfl) rfl ?_; clear hE a; intro a hE
        refine WL.no hE (runs_not hE rfl rfl rfl (by decide)) rfl ?_; clear hE a; intro a hE
        refine WL.no hE (runs_not hE rfl rfl rfl (by decide)) rfl ?_; clear hE a; intro a hE
        refine WL.vS hS hE (runs_plain rfl) (Gives.pickF hE rfl rfl rfl) rfl ?_; clear hE a; intro a hE
        refine WL.vS hS hE (runs_plain rfl) (Gives.p hE rfl) rfl ?_; clear hE a; intro a hE
        refine WL.no hE (runs_not hE rfl rfl rfl (by decide)) rfl ?_; clear hE a; intro a hE
        refine WL.no hE (runs_not hE rfl rfl rfl (by decide)) rfl ?_; clear hE a; intro a hE
        refine WL.no hE (runs_not hE rfl rfl rfl (by decide)) rfl ?_; clear hE a; intro a hE
        refine WL.vS hS hE (runs_plain rfl) (Gives.pickF hE rfl rfl rfl) rfl ?_; clear hE a; intro a hE
        refine WL.vS hS hE (runs_plain rfl) (Gives.p hE rfl) rfl ?_; clear hE a; intro a hE
        refine WL.nil ?_
        subst hK69
        exact ⟨false, Option.some.inj hq64, hE.pick _ ⟨rfl, trivial⟩, hS⟩
    · clear hE hS a w; rintro a w ⟨q68, rfl, hE, hS⟩
      refine W.ret ?_
      refine finG (fn := Try.f8) (rs := [.tmp 4]) (vs := [_]) hE rfl ⟨rfl, trivial⟩ ?_
      obtain rfl := Option.some.inj hr
      replace hS := hS.tail
      exact ⟨rfl, (hS.down hle60)⟩
  · replace hr := iteF hc63 hr
    refine W.skip ?_
    refine W.seq ?_
    refine W.seq ?_
    obtain ⟨q77, hq76, hr⟩ := bindS hr
    refine W.cut (fun a w => ∃ (q80 : Bool), ∃ (s78 : Sg), s59.Le s78 ∧ q80 = q77 ∧ Rep a 93 [(1, .int .i64 x1), (2, .pointer (some ⟨b51, 0, none⟩)), (5, .int .i64 q52.1), (6, .int .i64 q52.2), (59, .bool q80)] ∧ St w s78 (pt b51 (.cells #[.int .i64 x0.Period, .slice a0_0 x0.Plan.length c0_0, .slice a0_1 x0.Links.length c0_1] 25 (0, 0)) :: R)) ?_ ?_
    · refine W.gen fun K81 hK81 => ?_
      refine W.region ?_
      obtain ⟨q82, hq83, hq76⟩ := bindS hq76
      have hc_ := Fishlaw2rounds_ok hS  hq83
      refine WL.fnq hE (hc_) (runs_plain rfl) bd15 rfl rfl rfl ?_
      clear hE hS hc_; rintro e w ⟨rfl, hS⟩; refine ⟨_, rfl, ?_⟩; clear a; intro a hE
      refine WL.vS hS hE (runs_plain rfl) (Gives.p hE rfl) rfl ?_; clear hE a; intro a hE
      refine WL.vS hS hE (runs_plain rfl) (Gives.p hE rfl) rfl ?_; clear hE a; intro a hE
      rcases Bool.eq_false_or_eq_true !q82 with hg84 | hg84
      · replace hq76 := iteT hg84 hq76
        refine WL.no hE (runs_not hE rfl rfl rfl (by rw [hg84]; decide)) rfl ?_; clear hE a; intro a hE
        refine WL.no hE (runs_not hE rfl rfl rfl (by rw [hg84]; decide)) rfl ?_; clear hE a; intro a hE
        refine WL.vS hS hE (runs_plain rfl) (Gives.pickT hE rfl hg84 rfl) rfl ?_; clear hE a; intro a hE
        refine WL.vS hS hE (runs_plain rfl) (Gives.p hE rfl) rfl ?_; clear hE a; intro a hE
        refine WL.no hE (runs_not hE rfl rfl rfl (by decide)) rfl ?_; clear hE a; intro a hE
        refine WL.no hE (runs_not hE rfl rfl rfl (by decide)) rfl ?_; clear hE a; intro a hE
        refine WL.no hE (runs_not hE rfl rfl rfl (by decide)) rfl ?_; clear hE a; intro a hE
        refine WL.no hE (runs_not hE rfl rfl rfl (by decide)) rfl ?_; clear hE a; intro a hE
        refine WL.no hE (runs_not hE rfl rfl rfl (by decide)) rfl ?_; clear hE a; intro a hE
        refine WL.vS hS hE (runs_plain rfl) (Gives.pickT hE rfl rfl rfl) rfl ?_; clear hE a; intro a hE
        refine WL.nil ?_
        subst hK81
        exact ⟨true, s59, (Sg.Le.refl _), Option.some.inj hq76, hE.pick _ ⟨rfl, rfl, rfl, rfl, rfl, trivial⟩, hS⟩
      · replace hq76 := iteF hg84 hq76
        refine WL.vS hS hE (runs_if hE rfl rfl rfl hg84) (Gives.p hE rfl) rfl ?_; clear hE a; intro a hE
        refine WL.vS hS hE (runs_if hE rfl rfl rfl hg84) (Gives.p hE rfl) rfl ?_; clear hE a; intro a hE
        refine WL.vS hS hE (runs_plain rfl) (Gives.pickF hE rfl hg84 rfl) rfl ?_; clear hE a; intro a hE
        refine WL.vS hS hE (runs_plain rfl) (Gives.p hE rfl) rfl ?_; clear hE a; intro a hE
        rcases Bool.eq_false_or_eq_true (q54.2 != 0) with hg85 | hg85
        · replace hq76 := iteT hg85 hq76
          refine WL.no hE (runs_not hE rfl rfl rfl (by rw [hg85]; decide)) rfl ?_; clear hE a; intro a hE
          refine WL.no hE (runs_not hE rfl rfl rfl (by rw [hg85]; decide)) rfl ?_; clear hE a; intro a hE
          refine WL.no hE (runs_not hE rfl rfl rfl (by rw [hg85]; decide)) rfl ?_; clear hE a; intro a hE
          refine WL.no hE (runs_not hE rfl rfl rfl (by rw [hg85]; decide)) rfl ?_; clear hE a; intro a hE
          refine WL.no hE (runs_not hE rfl rfl rfl (by rw [hg85]; decide)) rfl ?_; clear hE a; intro a hE
          refine WL.vS hS hE (runs_plain rfl) (Gives.pickT hE rfl hg85 rfl) rfl ?_; clear hE a; intro a hE
          refine WL.nil ?_
          subst hK81
          exact ⟨true, s59, (Sg.Le.refl _), Option.some.inj hq76, hE.pick _ ⟨rfl, rfl, rfl, rfl, rfl, trivial⟩, hS⟩
        · replace hq76 := iteF hg85 hq76
          refine WL.vS hS hE (runs_if hE rfl rfl rfl hg85) (Gives.p hE rfl) rfl ?_; clear hE a; intro a hE
          refine WL.vS hS hE (runs_if hE rfl rfl rfl hg85) (Gives.loadBA hE 0 rfl rfl ty25) rfl ?_; clear hE a; intro a hE
          obtain ⟨q86, hq87, hq76⟩ := bindS hq76
          have hc_ := Fishref2RoomOf_ok hS h0_0 h0_1 hq87
          refine WL.fnq hE (hc_) (runs_if hE rfl rfl rfl hg85) bd35 rfl rfl rfl ?_
          clear hE hS hc_; rintro e w ⟨a88, c89, s91, rfl, hle92, h90, hS⟩; refine ⟨_, rfl, ?_⟩; clear a; intro a hE
          replace h0_0 := Sl.mono RI.mono hle92 h0_0
          replace h0_1 := Sl.mono RMendLink.mono hle92 h0_1
          replace h58 := Sl.mono (RL.mono RI.mono) hle92 h58
          obtain ⟨q93, hq94, hq76⟩ := bindS hq76
          have hc_ := Fishlaw2lists_ok hS h58 h90 hq94
          refine WL.fnq hE (hc_) (runs_if hE rfl rfl rfl hg85) bd21 rfl rfl rfl ?_
          clear hE hS hc_; rintro e w ⟨rfl, hS⟩; refine ⟨_, rfl, ?_⟩; clear a; intro a hE
          refine WL.vS hS hE (runs_if hE rfl rfl rfl hg85) (Gives.p hE rfl) rfl ?_; clear hE a; intro a hE
          refine WL.vS hS hE (runs_plain rfl) (Gives.pickF hE rfl hg85 rfl) rfl ?_; clear hE a; intro a hE
          refine WL.nil ?_
          subst hK81
          exact ⟨!q93, s91, hle92, Option.some.inj hq76, hE.pick _ ⟨rfl, rfl, rfl, rfl, rfl, trivial⟩, hS⟩
    · clear hE hS a w; rintro a w ⟨q80, s78, hle79, rfl, hE, hS⟩
      replace h0_0 := Sl.mono RI.mono hle79 h0_0
      replace h0_1 := Sl.mono RMendLink.mono hle79 h0_1
      refine W.cond hE rfl (fun hc95 => ?_) (fun hc95 => ?_)
      · replace hr := iteT hc95 hr
        refine W.seq ?_
        refine W.region ?_
        refine WL.vS hS hE (runs_plain rfl) (Gives.p hE rfl) rfl ?_; clear hE a; intro a hE
        refine WL.nil ?_
        refine W.ret ?_
        refine finG (fn := Try.f8) (rs := [.tmp 4]) (vs := [_]) hE rfl ⟨rfl, trivial⟩ ?_
        obtain rfl := Option.some.inj hr
        replace hS := hS.tail
        exact ⟨rfl, (hS.down (Sg.Le.trans hle60 hle79))⟩
      · replace hr := iteF hc95 hr
        refine W.skip ?_
        refine W.seq ?_
        refine W.seq ?_
        obtain ⟨q97, hq96, hr⟩ := bndS hr
        refine W.cut (fun a w => ∃ (q100 : Bool), q100 = q97 ∧ Rep a 93 [(1, .int .i64 x1), (2, .pointer (some ⟨b51, 0, none⟩)), (5, .int .i64 q52.1), (6, .int .i64 q52.2), (65, .bool q100)] ∧ St w s78 (pt b51 (.cells #[.int .i64 x0.Period, .slice a0_0 x0.Plan.length c0_0, .slice a0_1 x0.Links.length c0_1] 25 (0, 0)) :: R)) ?_ ?_
        · refine W.gen fun K101 hK101 => ?_
          refine W.region ?_
          refine WL.vS hS hE (runs_plain rfl) (Gives.p hE rfl) rfl ?_; clear hE a; intro a hE
          refine WL.vS hS hE (runs_plain rfl) (Gives.p hE rfl) rfl ?_; clear hE a; intro a hE
          refine WL.vS hS hE (runs_plain rfl) (Gives.p hE rfl) rfl ?_; clear hE a; intro a hE
          rcases Bool.eq_false_or_eq_true (decide (x1 < 0)) with hg102 | hg102
          · replace hq96 := iteT hg102 hq96
            refine WL.no hE (runs_not hE rfl rfl rfl (by rw [hg102]; decide)) rfl ?_; clear hE a; intro a hE
            refine WL.no hE (runs_not hE rfl rfl rfl (by rw [hg102]; decide)) rfl ?_; clear hE a; intro a hE
            refine WL.vS hS hE (runs_plain rfl) (Gives.pickT hE rfl hg102 rfl) rfl ?_; clear hE a; intro a hE
            refine WL.nil ?_
            subst hK101
            exact ⟨true, hq96, hE.pick _ ⟨rfl, rfl, rfl, rfl, rfl, trivial⟩, hS⟩
          · replace hq96 := iteF hg102 hq96
            refine WL.vS hS hE (runs_if hE rfl rfl rfl hg102) (Gives.p hE rfl) rfl ?_; clear hE a; intro a hE
            refine WL.vS hS hE (runs_if hE rfl rfl rfl hg102) (Gives.p hE rfl) rfl ?_; clear hE a; intro a hE
            refine WL.vS hS hE (runs_plain rfl) (Gives.pickF hE rfl hg102 rfl) rfl ?_; clear hE a; intro a hE
            refine WL.nil ?_
            subst hK101
            exact ⟨decide (x1 > 28800), hq96, hE.pick _ ⟨rfl, rfl, rfl, rfl, rfl, trivial⟩, hS⟩
        · clear hE hS a w; rintro a w ⟨q100, rfl, hE, hS⟩
          refine W.cond hE rfl (fun hc103 => ?_) (fun hc103 => ?_)
          · replace hr := iteT hc103 hr
            refine W.seq ?_
            obtain ⟨q105, hq104, hr⟩ := bndS hr
            refine W.cut (fun a w => ∃ (q108 : Bool), q108 = q105 ∧ Rep a 93 [(4, .bool q108)] ∧ St w s78 (pt b51 (.cells #[.int .i64 x0.Period, .slice a0_0 x0.Plan.length c0_0, .slice a0_1 x0.Links.length c0_1] 25 (0, 0)) :: R)) ?_ ?_
            · refine W.gen fun K109 hK109 => ?_
              refine W.region ?_
              refine WL.vS hS hE (runs_plain rfl) (Gives.p hE rfl) rfl ?_; clear hE a; intro a hE
              refine WL.vS hS hE (runs_plain rfl) (Gives.p hE rfl) rfl ?_; clear hE a; intro a hE
              refine WL.vS hS hE (runs_plain rfl) (Gives.p hE rfl) rfl ?_; clear hE a; intro a hE
              rcases Bool.eq_false_or_eq_true (q52.2 == 2) with hg110 | hg110
              · replace hq104 := iteT hg110 hq104
                refine WL.vS hS hE (runs_if hE rfl rfl rfl hg110) (Gives.p hE rfl) rfl ?_; clear hE a; intro a hE
                refine WL.vS hS hE (runs_if hE rfl rfl rfl hg110) (Gives.p hE rfl) rfl ?_; clear hE a; intro a hE
                refine WL.vS hS hE (runs_plain rfl) (Gives.pickT hE rfl hg110 rfl) rfl ?_; clear hE a; intro a hE
                refine WL.vS hS hE (runs_plain rfl) (Gives.p hE rfl) rfl ?_; clear hE a; intro a hE
                refine WL.nil ?_
                subst hK109
                exact ⟨(q52.1 == 0), hq104, hE.pick _ ⟨rfl, trivial⟩, hS⟩
              · replace hq104 := iteF hg110 hq104
                refine WL.no hE (runs_not hE rfl rfl rfl (by rw [hg110]; decide)) rfl ?_; clear hE a; intro a hE
                refine WL.no hE (runs_not hE rfl rfl rfl (by rw [hg110]; decide)) rfl ?_; clear hE a; intro a hE
                refine WL.vS hS hE (runs_plain rfl) (Gives.pickF hE rfl hg110 rfl) rfl ?_; clear hE a; intro a hE
                refine WL.vS hS hE (runs_plain rfl) (Gives.p hE rfl) rfl ?_; clear hE a; intro a hE
                refine WL.nil ?_
                subst hK109
                exact ⟨false, hq104, hE.pick _ ⟨rfl, trivial⟩, hS⟩
            · clear hE hS a w; rintro a w ⟨q108, rfl, hE, hS⟩
              refine W.ret ?_
              refine finG (fn := Try.f8) (rs := [.tmp 4]) (vs := [_]) hE rfl ⟨rfl, trivial⟩ ?_
              obtain rfl := Option.some.inj hr
              replace hS := hS.tail
              exact ⟨rfl, (hS.down (Sg.Le.trans hle60 hle79))⟩
          · replace hr := iteF hc103 hr
            refine W.skip ?_
            refine W.seq ?_
            refine W.region ?_
            refine WL.vS hS hE (runs_plain rfl) (Gives.loadBA hE 0 rfl rfl ty25) rfl ?_; clear hE a; intro a hE
            refine WL.vS hS hE (runs_plain rfl) (Gives.p hE rfl) rfl ?_; clear hE a; intro a hE
            obtain ⟨q111, hq112, hr⟩ := bindS hr
            have hc_ := Fishref2SettlesOf_ok hS h0_0 h0_1 hq112
            refine WL.fnq hE (hc_) (runs_plain rfl) bd36 rfl rfl rfl ?_
            clear hE hS hc_; rintro e w ⟨rfl, hS⟩; refine ⟨_, rfl, ?_⟩; clear a; intro a hE
            refine WL.vS hS hE (runs_plain rfl) (Gives.p hE rfl) rfl ?_; clear hE a; intro a hE
            refine WL.vS hS hE (runs_plain rfl) (Gives.p hE rfl) rfl ?_; clear hE a; intro a hE
            refine WL.vS hS hE (runs_plain rfl) (Gives.p hE rfl) rfl ?_; clear hE a; intro a hE
            refine WL.vS hS hE (runs_plain rfl) (Gives.p hE rfl) rfl ?_; clear hE a; intro a hE
            refine WL.vS hS hE (runs_plain rfl) (Gives.p hE rfl) rfl ?_; clear hE a; intro a hE
            refine WL.nil ?_
            refine W.seq ?_
            refine W.seq ?_
            refine W.region ?_
            refine WL.vS hS hE (runs_plain rfl) (Gives.p hE rfl) rfl ?_; clear hE a; intro a hE
            refine WL.vS hS hE (runs_plain rfl) (Gives.p hE rfl) rfl ?_; clear hE a; intro a hE
            refine WL.nil ?_
            refine W.cond hE rfl (fun hc113 => ?_) (fun hc113 => ?_)
            · replace hr := iteT hc113 hr
              refine W.seq ?_
              obtain ⟨q115, hq114, hr⟩ := bndS hr
              refine W.cut (fun a w => ∃ (q118 : Bool), q118 = q115 ∧ Rep a 93 [(4, .bool q118)] ∧ St w s78 (pt b51 (.cells #[.int .i64 x0.Period, .slice a0_0 x0.Plan.length c0_0, .slice a0_1 x0.Links.length c0_1] 25 (0, 0)) :: R)) ?_ ?_
              · refine W.gen fun K119 hK119 => ?_
                refine W.region ?_
                refine WL.vS hS hE (runs_plain rfl) (Gives.p hE rfl) rfl ?_; clear hE a; intro a hE
                refine WL.vS hS hE (runs_plain rfl) (Gives.p hE rfl) rfl ?_; clear hE a; intro a hE
                refine WL.vS hS hE (runs_plain rfl) (Gives.p hE rfl) rfl ?_; clear hE a; intro a hE
                rcases Bool.eq_false_or_eq_true (q52.2 == 9) with hg120 | hg120
                · replace hq114 := iteT hg120 hq114
                  refine WL.vS hS hE (runs_if hE rfl rfl rfl hg120) (Gives.p hE rfl) rfl ?_; clear hE a; intro a hE
                  refine WL.vS hS hE (runs_if hE rfl rfl rfl hg120) (Gives.p hE rfl) rfl ?_; clear hE a; intro a hE
                  refine WL.vS hS hE (runs_plain rfl) (Gives.pickT hE rfl hg120 rfl) rfl ?_; clear hE a; intro a hE
                  refine WL.vS hS hE (runs_plain rfl) (Gives.p hE rfl) rfl ?_; clear hE a; intro a hE
                  refine WL.nil ?_
                  subst hK119
                  exact ⟨(q52.1 == 0), hq114, hE.pick _ ⟨rfl, trivial⟩, hS⟩
                · replace hq114 := iteF hg120 hq114
                  refine WL.no hE (runs_not hE rfl rfl rfl (by rw [hg120]; decide)) rfl ?_; clear hE a; intro a hE
                  refine WL.no hE (runs_not hE rfl rfl rfl (by rw [hg120]; decide)) rfl ?_; clear hE a; intro a hE
                  refine WL.vS hS hE (runs_plain rfl) (Gives.pickF hE rfl hg120 rfl) rfl ?_; clear hE a; intro a hE
                  refine WL.vS hS hE (runs_plain rfl) (Gives.p hE rfl) rfl ?_; clear hE a; intro a hE
                  refine WL.nil ?_
                  subst hK119
                  exact ⟨false, hq114, hE.pick _ ⟨rfl, trivial⟩, hS⟩
              · clear hE hS a w; rintro a w ⟨q118, rfl, hE, hS⟩
                refine W.ret ?_
                refine finG (fn := Try.f8) (rs := [.tmp 4]) (vs := [_]) hE rfl ⟨rfl, trivial⟩ ?_
                obtain rfl := Option.some.inj hr
                replace hS := hS.tail
                exact ⟨rfl, (hS.down (Sg.Le.trans hle60 hle79))⟩
            · replace hr := iteF hc113 hr
              refine W.skip ?_
              refine W.seq ?_
              obtain ⟨q122, hq121, hr⟩ := bndS hr
              refine W.cut (fun a w => ∃ (q125 : Bool), q125 = q122 ∧ Rep a 93 [(4, .bool q125)] ∧ St w s78 (pt b51 (.cells #[.int .i64 x0.Period, .slice a0_0 x0.Plan.length c0_0, .slice a0_1 x0.Links.length c0_1] 25 (0, 0)) :: R)) ?_ ?_
              · refine W.gen fun K126 hK126 => ?_
                refine W.region ?_
                refine WL.vS hS hE (runs_plain rfl) (Gives.p hE rfl) rfl ?_; clear hE a; intro a hE
                refine WL.vS hS hE (runs_plain rfl) (Gives.p hE rfl) rfl ?_; clear hE a; intro a hE
                refine WL.vS hS hE (runs_plain rfl) (Gives.p hE rfl) rfl ?_; clear hE a; intro a hE
                rcases Bool.eq_false_or_eq_true (q52.2 == 0) with hg127 | hg127
                · replace hq121 := iteT hg127 hq121
                  refine WL.vS hS hE (runs_if hE rfl rfl rfl hg127) (Gives.p hE rfl) rfl ?_; clear hE a; intro a hE
                  refine WL.vS hS hE (runs_if hE rfl rfl rfl hg127) (Gives.p hE rfl) rfl ?_; clear hE a; intro a hE
                  refine WL.vS hS hE (runs_if hE rfl rfl rfl hg127) (Gives.p hE rfl) rfl ?_; clear hE a; intro a hE
                  refine WL.vS hS hE (runs_plain rfl) (Gives.pickT hE rfl hg127 rfl) rfl ?_; clear hE a; intro a hE
                  refine WL.vS hS hE (runs_plain rfl) (Gives.p hE rfl) rfl ?_; clear hE a; intro a hE
                  refine WL.nil ?_
                  subst hK126
                  exact ⟨(q52.1 == q111.1), hq121, hE.pick _ ⟨rfl, trivial⟩, hS⟩
                · replace hq121 := iteF hg127 hq121
                  refine WL.no hE (runs_not hE rfl rfl rfl (by rw [hg127]; decide)) rfl ?_; clear hE a; intro a hE
                  refine WL.no hE (runs_not hE rfl rfl rfl (by rw [hg127]; decide)) rfl ?_; clear hE a; intro a hE
                  refine WL.no hE (runs_not hE rfl rfl rfl (by rw [hg127]; decide)) rfl ?_; clear hE a; intro a hE
                  refine WL.vS hS hE (runs_plain rfl) (Gives.pickF hE rfl hg127 rfl) rfl ?_; clear hE a; intro a hE
                  refine WL.vS hS hE (runs_plain rfl) (Gives.p hE rfl) rfl ?_; clear hE a; intro a hE
                  refine WL.nil ?_
                  subst hK126
                  exact ⟨false, hq121, hE.pick _ ⟨rfl, trivial⟩, hS⟩
              · clear hE hS a w; rintro a w ⟨q125, rfl, hE, hS⟩
                refine W.ret ?_
                refine finG (fn := Try.f8) (rs := [.tmp 4]) (vs := [_]) hE rfl ⟨rfl, trivial⟩ ?_
                obtain rfl := Option.some.inj hr
                replace hS := hS.tail
                exact ⟨rfl, (hS.down (Sg.Le.trans hle60 hle79))⟩
end Go.Proofs.Ytfioafdipipcaaa
