/- The walks of the functions that MendSettles reaches: each call comes to what its mirror says. The conditions are those of each contract. -/
import Derived.Test.YtfioafdipipcaaaProg
import Derived.Test.YtfioafdipipcaaaMendSettlesM
import Derived.Test.YtfioafdipipcaaaFpMore
import Derived.Test.YtfioafdipipcaaaMendSettlesW1
namespace Go.Proofs.Ytfioafdipipcaaa
open Go Go.Fp
set_option maxHeartbeats 8000000 in
theorem SlicesIndexLbool_ok  {w : World} {s : Sg} {R : List HP} {x0 : List Bool} {a0 : Option Addr} {c0 : Nat} {x1 : Bool} (hS : St w s (R)) (h0 : Sl 1 RB s a0 c0 x0) {r : Int} (hr : SlicesIndexLbool x0 x1 = r) :
    Calls Try.prog 84 [.slice a0 x0.length c0, .bool x1].toArray w (fun e w => e = .returned (.int .i64 r) ∧ St w s (R)) := by
  refine enter Try.func84 rfl rfl rfl fun a hE => ?_
  rw [SlicesIndexLbool] at hr
  refine W.seq ?_
  refine W.region ?_
  refine WL.vS hS hE (runs_plain rfl) (Gives.p hE rfl) rfl ?_; clear hE a; intro a hE
  refine WL.nil ?_
  refine W.seq ?_
  refine W.seq ?_
  refine W.region ?_
  refine WL.vS hS hE (runs_plain rfl) (Gives.p hE rfl) rfl ?_; clear hE a; intro a hE
  refine WL.vS hS hE (runs_plain rfl) (Gives.len hE rfl sl82) rfl ?_; clear hE a; intro a hE
  refine WL.vS hS hE (runs_plain rfl) (Gives.p hE rfl) rfl ?_; clear hE a; intro a hE
  refine WL.nil ?_
  obtain ⟨q52, hq51, hr⟩ := bndS hr
  refine W.cut (fun a w => (.next ()) = q52 ∧ Rep a 19 [] ∧ St w s (R)) ?_ ?_
  · refine W.block ?_
    refine W.loop (fun m a w => ∃ (rest55 : List Bool) (k53 : Nat), rest55.length = m ∧ x0.drop k53 = rest55 ∧ SlicesIndexLbool.loop1 x1 rest55 k53 = q52 ∧ Rep a 19 [(0, .slice a0 x0.length c0), (1, .bool x1), (7, .int .i64 ((x0).length : Int)), (8, .int .i64 ((k53 : Nat) : Int))] ∧ St w s (R)) (m := x0.length) ⟨x0, 0, rfl, rfl, hq51, hE.pick _ ⟨rfl, rfl, rfl, rfl, trivial⟩, hS⟩ ?_
    clear hE hS a w hq51; rintro m59 a w ⟨rest55, k53, rfl, hd56, hq51, hE, hS⟩
    refine W.gen fun K62 hK62 => ?_
    rcases rest55 with _ | ⟨x54, rest55⟩
    · have hlt57 := drop_nil hd56
      refine W.seq ?_
      refine W.region ?_
      refine WL.vS hS hE (runs_plain rfl) (Gives.p hE rfl) rfl ?_; clear hE a; intro a hE
      refine WL.nil ?_
      refine W.seq ?_
      refine W.condF hE rfl (decide_eq_false (by omega)) ?_
      subst hK62
      refine W.exit rfl ?_
      exact ⟨hq51, hE.pick _ trivial, hS⟩
    · obtain ⟨hlt57, hx58, hd56⟩ := drop_cons hd56
      rw [SlicesIndexLbool.loop1] at hq51
      refine W.seq ?_
      refine W.region ?_
      refine WL.vS hS hE (runs_plain rfl) (Gives.p hE rfl) rfl ?_; clear hE a; intro a hE
      refine WL.nil ?_
      refine W.seq ?_
      refine W.condT hE rfl (decide_eq_true (by omega)) ?_
      refine W.skip ?_
      refine W.seq ?_
      refine W.block ?_
      refine W.seq ?_
      refine W.region ?_
      refine WL.vS hS hE (runs_plain rfl) (Gives.p hE rfl) rfl ?_; clear hE a; intro a hE
      refine WL.vS hS hE (runs_plain rfl) (Gives.p hE rfl) rfl ?_; clear hE a; intro a hE
      refine WL.nil ?_
      refine W.seq ?_
      refine W.region ?_
      refine WL.vS hS hE (runs_plain rfl) (Gives.p hE rfl) rfl ?_; clear hE a; intro a hE
      refine WL.vS hS hE (runs_plain rfl) (Gives.p hE rfl) rfl ?_; clear hE a; intro a hE
      refine WL.vS hS hE (runs_plain rfl) (Gives.p hE rfl) rfl ?_; clear hE a; intro a hE
      obtain ⟨cs63, hl64, hR65, hat66⟩ := h0.at hx58
      subst hR65
      refine WL.vS hS hE (runs_plain rfl) (Gives.idx hE k53 rfl rfl sl82 rfl hlt57 (h0.aok hlt57)) rfl ?_; clear hE a; intro a hE
      refine WL.vS hS hE (runs_plain rfl) (Gives.load1 hE rfl (fun w h => hat66 w _ h) ty4) rfl ?_; clear hE a; intro a hE
      refine WL.vS hS hE (runs_plain rfl) (Gives.eqB hE rfl rfl bl4) rfl ?_; clear hE a; intro a hE
      refine WL.nil ?_
      refine W.cond hE rfl (fun hc67 => ?_) (fun hc67 => ?_)
      · replace hq51 := iteT hc67 hq51
        refine W.seq ?_
        refine W.region ?_
        refine WL.vS hS hE (runs_plain rfl) (Gives.p hE rfl) rfl ?_; clear hE a; intro a hE
        refine WL.vS hS hE (runs_plain rfl) (Gives.p hE rfl) rfl ?_; clear hE a; intro a hE
        refine WL.nil ?_
        refine W.ret ?_
        subst hK62
        rw [← hq51] at hr
        dsimp only at hr
        refine finG (fn := Try.f84) (rs := [.tmp 4]) (vs := [_]) hE rfl ⟨rfl, trivial⟩ ?_
        subst hr
        exact ⟨rfl, hS⟩
      · replace hq51 := iteF hc67 hq51
        refine W.skip ?_
        refine W.region ?_
        refine WL.vS hS hE (runs_plain rfl) (Gives.inc hE rfl (by have := h0.small; omega)) rfl ?_; clear hE a; intro a hE
        refine WL.vS hS hE (runs_plain rfl) (Gives.p hE rfl) rfl ?_; clear hE a; intro a hE
        refine WL.nil ?_
        subst hK62
        exact ⟨rest55.length, Nat.lt_succ_self _, rest55, k53 + 1, rfl, hd56, hq51, hE.pick _ ⟨rfl, rfl, rfl, rfl, trivial⟩, hS⟩
  · clear hE hS a w; rintro a w ⟨rfl, hE, hS⟩
    dsimp only at hr
    refine W.seq ?_
    refine W.region ?_
    refine WL.vS hS hE (runs_plain rfl) (Gives.p hE rfl) rfl ?_; clear hE a; intro a hE
    refine WL.nil ?_
    refine W.ret ?_
    refine finG (fn := Try.f84) (rs := [.tmp 4]) (vs := [_]) hE rfl ⟨rfl, trivial⟩ ?_
    subst hr
    exact ⟨rfl, hS⟩
set_option maxHeartbeats 8000000 in
theorem SlicesContainsLbool_ok  {w : World} {s : Sg} {R : List HP} {x0 : List Bool} {a0 : Option Addr} {c0 : Nat} {x1 : Bool} (hS : St w s (R)) (h0 : Sl 1 RB s a0 c0 x0) {r : Bool} (hr : SlicesContainsLbool x0 x1 = r) :
    Calls Try.prog 53 [.slice a0 x0.length c0, .bool x1].toArray w (fun e w => e = .returned (.bool r) ∧ St w s (R)) := by
  refine enter Try.func53 rfl rfl rfl fun a hE => ?_
  rw [SlicesContainsLbool] at hr
  refine W.seq ?_
  refine W.region ?_
  refine WL.vS hS hE (runs_plain rfl) (Gives.p hE rfl) rfl ?_; clear hE a; intro a hE
  refine WL.nil ?_
  refine W.seq ?_
  refine W.region ?_
  refine WL.vS hS hE (runs_plain rfl) (Gives.p hE rfl) rfl ?_; clear hE a; intro a hE
  refine WL.vS hS hE (runs_plain rfl) (Gives.p hE rfl) rfl ?_; clear hE a; intro a hE
  refine WL.fnq hE (SlicesIndexLbool_ok hS h0 rfl (r := SlicesIndexLbool x0 x1)) (runs_plain rfl) bd84 rfl rfl rfl ?_
  clear hE hS; rintro e w ⟨rfl, hS⟩; refine ⟨_, rfl, ?_⟩; clear a; intro a hE
  refine WL.vS hS hE (runs_plain rfl) (Gives.p hE rfl) rfl ?_; clear hE a; intro a hE
  refine WL.vS hS hE (runs_plain rfl) (Gives.p hE rfl) rfl ?_; clear hE a; intro a hE
  refine WL.nil ?_
  refine W.ret ?_
  refine finG (fn := Try.f53) (rs := [.tmp 4]) (vs := [_]) hE rfl ⟨rfl, trivial⟩ ?_
  subst hr
  exact ⟨rfl, hS⟩
set_option maxHeartbeats 8000000 in
theorem Fishref2RoundFault_ok  {w : World} {s : Sg} {R : List HP} {x0 : MendRound} {a0_0 : Option Addr} {c0_0 : Nat} {a0_1 : Option Addr} {c0_1 : Nat} (hS : St w s (R)) (h0_0 : Sl 1 (RI .i64) s a0_0 c0_0 x0.Plan) (h0_1 : Sl 4 RMendLink s a0_1 c0_1 x0.Links) {r : Int} (hr : Fishref2RoundFault x0 = some r) :
    Calls Try.prog 14 [.agg [.int .i64 x0.Period, .slice a0_0 x0.Plan.length c0_0, .slice a0_1 x0.Links.length c0_1].toArray].toArray w (fun e w => e = .returned (.int .i64 r) ∧ St w s (R)) := by
  refine enter Try.func14 rfl rfl rfl fun a hE => ?_
  rw [Fishref2RoundFault] at hr
  refine W.seq ?_
  refine W.region ?_
  refine WL.box hE hS (runs_plain rfl) rfl rfl rfl ?_; clear hE hS a w; intro b51 a w hE hS
  refine WL.vS hS hE (runs_plain rfl) (Gives.p hE rfl) rfl ?_; clear hE a; intro a hE
  refine WL.nil ?_
  refine W.seq ?_
  refine W.seq ?_
  refine W.region ?_
  refine WL.vS hS hE (runs_plain rfl) (Gives.fld hE rfl fl25_0) rfl ?_; clear hE a; intro a hE
  refine WL.vS hS hE (runs_plain rfl) (Gives.loadB hE 0 rfl rfl rfl ty3) rfl ?_; clear hE a; intro a hE
  refine WL.fnq hE (Fishref2within_ok hS  rfl (r := Fishref2within x0.Period 1 3600)) (runs_plain rfl) bd51 rfl rfl rfl ?_
  clear hE hS; rintro e w ⟨rfl, hS⟩; refine ⟨_, rfl, ?_⟩; clear a; intro a hE
  refine WL.vS hS hE (runs_plain rfl) (Gives.p hE rfl) rfl ?_; clear hE a; intro a hE
  refine WL.nil ?_
  refine W.cond hE rfl (fun hc52 => ?_) (fun hc52 => ?_)
  · replace hr := iteT hc52 hr
    refine W.seq ?_
    refine W.region ?_
    refine WL.vS hS hE (runs_plain rfl) (Gives.p hE rfl) rfl ?_; clear hE a; intro a hE
    refine WL.nil ?_
    refine W.ret ?_
    refine finG (fn := Try.f14) (rs := [.tmp 2]) (vs := [_]) hE rfl ⟨rfl, trivial⟩ ?_
    obtain rfl := Option.some.inj hr
    replace hS := hS.tail
    exact ⟨rfl, hS⟩
  · replace hr := iteF hc52 hr
    refine W.skip ?_
    refine W.seq ?_
    refine W.region ?_
    refine WL.vS hS hE (runs_plain rfl) (Gives.fld hE rfl fl25_1) rfl ?_; clear hE a; intro a hE
    refine WL.vS hS hE (runs_plain rfl) (Gives.loadB hE 0 rfl rfl rfl ty22) rfl ?_; clear hE a; intro a hE
    refine WL.vS hS hE (runs_plain rfl) (Gives.len hE rfl sl22) rfl ?_; clear hE a; intro a hE
    refine WL.vS hS hE (runs_plain rfl) (Gives.p hE rfl) rfl ?_; clear hE a; intro a hE
    refine WL.nil ?_
    refine W.seq ?_
    refine W.seq ?_
    obtain ⟨q54, hq53, hr⟩ := bndS hr
    refine W.cut (fun a w => ∃ (q57 : Bool), q57 = q54 ∧ Rep a 138 [(1, .pointer (some ⟨b51, 0, none⟩)), (3, .int .i64 ((x0.Plan).length : Int)), (28, .bool q57)] ∧ St w s (pt b51 (.cells #[.int .i64 x0.Period, .slice a0_0 x0.Plan.length c0_0, .slice a0_1 x0.Links.length c0_1] 25 (0, 0)) :: R)) ?_ ?_
    · refine W.gen fun K58 hK58 => ?_
      refine W.region ?_
      refine WL.vS hS hE (runs_plain rfl) (Gives.p hE rfl) rfl ?_; clear hE a; intro a hE
      refine WL.fnq hE (Fishref2within_ok hS  rfl (r := Fishref2within ((x0.Plan).length : Int) 1 8)) (runs_plain rfl) bd51 rfl rfl rfl ?_
      clear hE hS; rintro e w ⟨rfl, hS⟩; refine ⟨_, rfl, ?_⟩; clear a; intro a hE
      refine WL.vS hS hE (runs_plain rfl) (Gives.p hE rfl) rfl ?_; clear hE a; intro a hE
      refine WL.vS hS hE (runs_plain rfl) (Gives.p hE rfl) rfl ?_; clear hE a; intro a hE
      rcases Bool.eq_false_or_eq_true (!(Fishref2within ((x0.Plan).length : Int) 1 8)) with hg59 | hg59
      · replace hq53 := iteT hg59 hq53
        refine WL.no hE (runs_not hE rfl rfl rfl (by rw [hg59]; decide)) rfl ?_; clear hE a; intro a hE
        refine WL.no hE (runs_not hE rfl rfl rfl (by rw [hg59]; decide)) rfl ?_; clear hE a; intro a hE
        refine WL.no hE (runs_not hE rfl rfl rfl (by rw [hg59]; decide)) rfl ?_; clear hE a; intro a hE
        refine WL.no hE (runs_not hE rfl rfl rfl (by rw [hg59]; decide)) rfl ?_; clear hE a; intro a hE
        refine WL.vS hS hE (runs_plain rfl) (Gives.pickT hE rfl hg59 rfl) rfl ?_; clear hE a; intro a hE
        refine WL.nil ?_
        subst hK58
        exact ⟨true, hq53, hE.pick _ ⟨rfl, rfl, rfl, trivial⟩, hS⟩
      · replace hq53 := iteF hg59 hq53
        refine WL.vS hS hE (runs_if hE rfl rfl rfl hg59) (Gives.fld hE rfl fl25_2) rfl ?_; clear hE a; intro a hE
        refine WL.vS hS hE (runs_if hE rfl rfl rfl hg59) (Gives.loadB hE 0 rfl rfl rfl ty23) rfl ?_; clear hE a; intro a hE
        refine WL.vS hS hE (runs_if hE rfl rfl rfl hg59) (Gives.len hE rfl sl23) rfl ?_; clear hE a; intro a hE
        refine WL.vS hS hE (runs_if hE rfl rfl rfl hg59) (Gives.p hE rfl) rfl ?_; clear hE a; intro a hE
        refine WL.vS hS hE (runs_plain rfl) (Gives.pickF hE rfl hg59 rfl) rfl ?_; clear hE a; intro a hE
        refine WL.nil ?_
        subst hK58
        exact ⟨decide (((x0.Links).length : Int) > 24), hq53, hE.pick _ ⟨rfl, rfl, rfl, trivial⟩, hS⟩
    · clear hE hS a w; rintro a w ⟨q57, rfl, hE, hS⟩
      refine W.cond hE rfl (fun hc60 => ?_) (fun hc60 => ?_)
      · replace hr := iteT hc60 hr
        refine W.seq ?_
        refine W.region ?_
        refine WL.vS hS hE (runs_plain rfl) (Gives.p hE rfl) rfl ?_; clear hE a; intro a hE
        refine WL.nil ?_
        refine W.ret ?_
        refine finG (fn := Try.f14) (rs := [.tmp 2]) (vs := [_]) hE rfl ⟨rfl, trivial⟩ ?_
        obtain rfl := Option.some.inj hr
        replace hS := hS.tail
        exact ⟨rfl, hS⟩
      · replace hr := iteF hc60 hr
        refine W.skip ?_
        refine W.seq ?_
        refine W.seq ?_
        refine W.region ?_
        refine WL.vS hS hE (runs_plain rfl) (Gives.fld hE rfl fl25_1) rfl ?_; clear hE a; intro a hE
        refine WL.vS hS hE (runs_plain rfl) (Gives.loadB hE 0 rfl rfl rfl ty22) rfl ?_; clear hE a; intro a hE
        refine WL.vS hS hE (runs_plain rfl) (Gives.len hE rfl sl22) rfl ?_; clear hE a; intro a hE
        refine WL.vS hS hE (runs_plain rfl) (Gives.p hE rfl) rfl ?_; clear hE a; intro a hE
        refine WL.nil ?_
        obtain ⟨q62, hq61, hr⟩ := bndS hr
        refine W.cut (fun a w => (.next ()) = q62 ∧ Rep a 138 [(1, .pointer (some ⟨b51, 0, none⟩)), (3, .int .i64 ((x0.Plan).length : Int))] ∧ St w s (pt b51 (.cells #[.int .i64 x0.Period, .slice a0_0 x0.Plan.length c0_0, .slice a0_1 x0.Links.length c0_1] 25 (0, 0)) :: R)) ?_ ?_
        · refine W.block ?_
          refine W.loop (fun m a w => ∃ (rest65 : List Int) (k63 : Nat), rest65.length = m ∧ x0.Plan.drop k63 = rest65 ∧ Fishref2RoundFault.loop1 x0 rest65 = q62 ∧ Rep a 138 [(1, .pointer (some ⟨b51, 0, none⟩)), (3, .int .i64 ((x0.Plan).length : Int)), (30, .slice a0_0 x0.Plan.length c0_0), (31, .int .i64 ((x0.Plan).length : Int)), (32, .int .i64 ((k63 : Nat) : Int))] ∧ St w s (pt b51 (.cells #[.int .i64 x0.Period, .slice a0_0 x0.Plan.length c0_0, .slice a0_1 x0.Links.length c0_1] 25 (0, 0)) :: R)) (m := x0.Plan.length) ⟨x0.Plan, 0, rfl, rfl, hq61, hE.pick _ ⟨rfl, rfl, rfl, rfl, rfl, trivial⟩, hS⟩ ?_
          clear hE hS a w hq61; rintro m69 a w ⟨rest65, k63, rfl, hd66, hq61, hE, hS⟩
          refine W.gen fun K72 hK72 => ?_
          rcases rest65 with _ | ⟨x64, rest65⟩
          · have hlt67 := drop_nil hd66
            refine W.seq ?_
            refine W.region ?_
            refine WL.vS hS hE (runs_plain rfl) (Gives.p hE rfl) rfl ?_; clear hE a; intro a hE
            refine WL.nil ?_
            refine W.seq ?_
            refine W.condF hE rfl (decide_eq_false (by omega)) ?_
            subst hK72
            refine W.exit rfl ?_
            exact ⟨hq61, hE.pick _ ⟨rfl, rfl, trivial⟩, hS⟩
          · obtain ⟨hlt67, hx68, hd66⟩ := drop_cons hd66
            rw [Fishref2RoundFault.loop1] at hq61
            refine W.seq ?_
            refine W.region ?_
            refine WL.vS hS hE (runs_plain rfl) (Gives.p hE rfl) rfl ?_; clear hE a; intro a hE
            refine WL.nil ?_
            refine W.seq ?_
            refine W.condT hE rfl (decide_eq_true (by omega)) ?_
            refine W.skip ?_
            refine W.seq ?_
            refine W.block ?_
            refine W.seq ?_
            refine W.region ?_
            obtain ⟨cs73, hl74, hR75, hat76⟩ := h0_0.at hx68
            subst hR75
            refine WL.vS hS hE (runs_plain rfl) (Gives.idx hE k63 rfl rfl sl22 rfl hlt67 (h0_0.aok hlt67)) rfl ?_; clear hE a; intro a hE
            refine WL.vS hS hE (runs_plain rfl) (Gives.load1 hE rfl (fun w h => hat76 w _ h) ty3) rfl ?_; clear hE a; intro a hE
            refine WL.vS hS hE (runs_plain rfl) (Gives.p hE rfl) rfl ?_; clear hE a; intro a hE
            refine WL.nil ?_
            refine W.seq ?_
            refine W.region ?_
            refine WL.vS hS hE (runs_plain rfl) (Gives.p hE rfl) rfl ?_; clear hE a; intro a hE
            refine WL.vS hS hE (runs_plain rfl) (Gives.fld hE rfl fl25_0) rfl ?_; clear hE a; intro a hE
            refine WL.vS hS hE (runs_plain rfl) (Gives.loadB hE 0 rfl rfl rfl ty3) rfl ?_; clear hE a; intro a hE
            refine WL.vS hS hE (runs_plain rfl) (Gives.p hE rfl) rfl ?_; clear hE a; intro a hE
            refine WL.fnq hE (Fishref2within_ok hS  rfl (r := Fishref2within x64 0 (w64 (x0.Period - 1)))) (runs_plain rfl) bd51 rfl rfl rfl ?_
            clear hE hS; rintro e w ⟨rfl, hS⟩; refine ⟨_, rfl, ?_⟩; clear a; intro a hE
            refine WL.vS hS hE (runs_plain rfl) (Gives.p hE rfl) rfl ?_; clear hE a; intro a hE
            refine WL.nil ?_
            refine W.cond hE rfl (fun hc77 => ?_) (fun hc77 => ?_)
            · replace hq61 := iteT hc77 hq61
              refine W.seq ?_
              refine W.region ?_
              refine WL.vS hS hE (runs_plain rfl) (Gives.p hE rfl) rfl ?_; clear hE a; intro a hE
              refine WL.nil ?_
              refine W.ret ?_
              subst hK72
              rw [← hq61] at hr
              dsimp only at hr
              refine finG (fn := Try.f14) (rs := [.tmp 2]) (vs := [_]) hE rfl ⟨rfl, trivial⟩ ?_
              obtain rfl := Option.some.inj hr
              replace hS := hS.tail
              exact ⟨rfl, hS⟩
            · replace hq61 := iteF hc77 hq61
              refine W.skip ?_
              refine W.region ?_
              refine WL.vS hS hE (runs_plain rfl) (Gives.inc hE rfl (by have := h0_0.small; omega)) rfl ?_; clear hE a; intro a hE
              refine WL.vS hS hE (runs_plain rfl) (Gives.p hE rfl) rfl ?_; clear hE a; intro a hE
              refine WL.nil ?_
              subst hK72
              exact ⟨rest65.length, Nat.lt_succ_self _, rest65, k63 + 1, rfl, hd66, hq61, hE.pick _ ⟨rfl, rfl, rfl, rfl, rfl, trivial⟩, hS⟩
        · clear hE hS a w; rintro a w ⟨rfl, hE, hS⟩
          dsimp only at hr
          refine W.seq ?_
          refine W.seq ?_
          refine W.region ?_
          refine WL.vS hS hE (runs_plain rfl) (Gives.fld hE rfl fl25_2) rfl ?_; clear hE a; intro a hE
          refine WL.vS hS hE (runs_plain rfl) (Gives.loadB hE 0 rfl rfl rfl ty23) rfl ?_; clear hE a; intro a hE
          refine WL.vS hS hE (runs_plain rfl) (Gives.len hE rfl sl23) rfl ?_; clear hE a; intro a hE
          refine WL.vS hS hE (runs_plain rfl) (Gives.p hE rfl) rfl ?_; clear hE a; intro a hE
          refine WL.nil ?_
          obtain ⟨q79, hq78, hr⟩ := bindS hr
          refine W.cut (fun a w => (.next ()) = q79 ∧ Rep a 138 [(1, .pointer (some ⟨b51, 0, none⟩)), (3, .int .i64 ((x0.Plan).length : Int))] ∧ St w s (pt b51 (.cells #[.int .i64 x0.Period, .slice a0_0 x0.Plan.length c0_0, .slice a0_1 x0.Links.length c0_1] 25 (0, 0)) :: R)) ?_ ?_
          · refine W.block ?_
            refine W.loop (fun m a w => ∃ (rest82 : List MendLink) (k80 : Nat), rest82.length = m ∧ x0.Links.drop k80 = rest82 ∧ Fishref2RoundFault.loop2 x0 rest82 = some q79 ∧ Rep a 138 [(1, .pointer (some ⟨b51, 0, none⟩)), (3, .int .i64 ((x0.Plan).length : Int)), (44, .slice a0_1 x0.Links.length c0_1), (45, .int .i64 ((x0.Links).length : Int)), (46, .int .i64 ((k80 : Nat) : Int))] ∧ St w s (pt b51 (.cells #[.int .i64 x0.Period, .slice a0_0 x0.Plan.length c0_0, .slice a0_1 x0.Links.length c0_1] 25 (0, 0)) :: R)) (m := x0.Links.length) ⟨x0.Links, 0, rfl, rfl, hq78, hE.pick _ ⟨rfl, rfl, rfl, rfl, rfl, trivial⟩, hS⟩ ?_
            clear hE hS a w hq78; rintro m86 a w ⟨rest82, k80, rfl, hd83, hq78, hE, hS⟩
            refine W.gen fun K89 hK89 => ?_
            rcases rest82 with _ | ⟨x81, rest82⟩
            · have hlt84 := drop_nil hd83
              refine W.seq ?_
              refine W.region ?_
              refine WL.vS hS hE (runs_plain rfl) (Gives.p hE rfl) rfl ?_; clear hE a; intro a hE
              refine WL.nil ?_
              refine W.seq ?_
              refine W.condF hE rfl (decide_eq_false (by omega)) ?_
              subst hK89
              refine W.exit rfl ?_
              exact ⟨Option.some.inj hq78, hE.pick _ ⟨rfl, rfl, trivial⟩, hS⟩
            · obtain ⟨hlt84, hx85, hd83⟩ := drop_cons hd83
              rw [Fishref2RoundFault.loop2] at hq78
              refine W.seq ?_
              refine W.region ?_
              refine WL.vS hS hE (runs_plain rfl) (Gives.p hE rfl) rfl ?_; clear hE a; intro a hE
              refine WL.nil ?_
              refine W.seq ?_
              refine W.condT hE rfl (decide_eq_true (by omega)) ?_
              refine W.skip ?_
              refine W.seq ?_
              refine W.block ?_
              refine W.seq ?_
              refine W.region ?_
              obtain ⟨cs90, hl91, hR92, hat93⟩ := h0_1.at hx85
              subst hR92
              refine WL.vS hS hE (runs_plain rfl) (Gives.idx hE k80 rfl rfl sl23 rfl hlt84 (h0_1.aok hlt84)) rfl ?_; clear hE a; intro a hE
              refine WL.vS hS hE (runs_plain rfl) (Gives.loadA hE rfl (fun w h => hat93 w _ h) ty36) rfl ?_; clear hE a; intro a hE
              refine WL.alloc hE hS (runs_plain rfl) zr36 rfl ?_; clear hE hS a w; intro b94 a w hE hS
              refine WL.storeI hE hS 0 rfl (MendLink.cells x81) (runs_plain rfl) rfl rfl rfl ty36 rfl rfl rfl rfl ?_; clear hE hS a w; intro a w hE hS
              refine WL.nil ?_
              refine W.block ?_
              refine W.seq ?_
              obtain ⟨q96, hq95, hq78⟩ := bndS hq78
              refine W.cut (fun a w => ∃ (q99 : Bool), q99 = q96 ∧ Rep a 138 [(1, .pointer (some ⟨b51, 0, none⟩)), (3, .int .i64 ((x0.Plan).length : Int)), (7, .pointer (some ⟨b94, 0, none⟩)), (44, .slice a0_1 x0.Links.length c0_1), (45, .int .i64 ((x0.Links).length : Int)), (46, .int .i64 ((k80 : Nat) : Int)), (50, .bool q99)] ∧ St w s (pt b94 (.cells (MendLink.cells x81).toArray 36 (0, 0)) :: pt b51 (.cells #[.int .i64 x0.Period, .slice a0_0 x0.Plan.length c0_0, .slice a0_1 x0.Links.length c0_1] 25 (0, 0)) :: R)) ?_ ?_
              · refine W.gen fun K100 hK100 => ?_
                refine W.region ?_
                refine WL.vS hS hE (runs_plain rfl) (Gives.fld hE rfl fl36_0) rfl ?_; clear hE a; intro a hE
                refine WL.vS hS hE (runs_plain rfl) (Gives.loadB hE 0 rfl rfl rfl ty3) rfl ?_; clear hE a; intro a hE
                refine WL.vS hS hE (runs_plain rfl) (Gives.p hE rfl) rfl ?_; clear hE a; intro a hE
                refine WL.vS hS hE (runs_plain rfl) (Gives.p hE rfl) rfl ?_; clear hE a; intro a hE
                rcases Bool.eq_false_or_eq_true (decide (x81.From < 0)) with hg101 | hg101
                · replace hq95 := iteT hg101 hq95
                  refine WL.no hE (runs_not hE rfl rfl rfl (by rw [hg101]; decide)) rfl ?_; clear hE a; intro a hE
                  refine WL.no hE (runs_not hE rfl rfl rfl (by rw [hg101]; decide)) rfl ?_; clear hE a; intro a hE
                  refine WL.no hE (runs_not hE rfl rfl rfl (by rw [hg101]; decide)) rfl ?_; clear hE a; intro a hE
                  refine WL.no hE (runs_not hE rfl rfl rfl (by rw [hg101]; decide)) rfl ?_; clear hE a; intro a hE
                  refine WL.vS hS hE (runs_plain rfl) (Gives.pickT hE rfl hg101 rfl) rfl ?_; clear hE a; intro a hE
                  refine WL.vS hS hE (runs_plain rfl) (Gives.p hE rfl) rfl ?_; clear hE a; intro a hE
                  refine WL.no hE (runs_not hE rfl rfl rfl (by decide)) rfl ?_; clear hE a; intro a hE
                  refine WL.no hE (runs_not hE rfl rfl rfl (by decide)) rfl ?_; clear hE a; intro a hE
                  refine WL.no hE (runs_not hE rfl rfl rfl (by decide)) rfl ?_; clear hE a; intro a hE
                  refine WL.vS hS hE (runs_plain rfl) (Gives.pickT hE rfl rfl rfl) rfl ?_; clear hE a; intro a hE
                  refine WL.vS hS hE (runs_plain rfl) (Gives.p hE rfl) rfl ?_; clear hE a; intro a hE
                  refine WL.no hE (runs_not hE rfl rfl rfl (by decide)) rfl ?_; clear hE a; intro a hE
                  refine WL.no hE (runs_not hE rfl rfl rfl (by decide)) rfl ?_; clear hE a; intro a hE
                  refine WL.no hE (runs_not hE rfl rfl rfl (by decide)) rfl ?_; clear hE a; intro a hE
                  refine WL.no hE (runs_not hE rfl rfl rfl (by decide)) rfl ?_; clear hE a; intro a hE
                  refine WL.vS hS hE (runs_plain rfl) (Gives.pickT hE rfl rfl rfl) rfl ?_; clear hE a; intro a hE
                  refine WL.vS hS hE (runs_plain rfl) (Gives.p hE rfl) rfl ?_; clear hE a; intro a hE
                  refine WL.nil ?_
                  subst hK100
                  exact ⟨true, hq95, hE.pick _ ⟨rfl, rfl, rfl, rfl, rfl, rfl, rfl, trivial⟩, hS⟩
                · replace hq95 := iteF hg101 hq95
                  refine WL.vS hS hE (runs_if hE rfl rfl rfl hg101) (Gives.fld hE rfl fl36_0) rfl ?_; clear hE a; intro a hE
                  refine WL.vS hS hE (runs_if hE rfl rfl rfl hg101) (Gives.loadB hE 0 rfl rfl rfl ty3) rfl ?_; clear hE a; intro a hE
                  refine WL.vS hS hE (runs_if hE rfl rfl rfl hg101) (Gives.p hE rfl) rfl ?_; clear hE a; intro a hE
                  refine WL.vS hS hE (runs_if hE rfl rfl rfl hg101) (Gives.p hE rfl) rfl ?_; clear hE a; intro a hE
                  refine WL.vS hS hE (runs_plain rfl) (Gives.pickF hE rfl hg101 rfl) rfl ?_; clear hE a; intro a hE
                  refine WL.vS hS hE (runs_plain rfl) (Gives.p hE rfl) rfl ?_; clear hE a; intro a hE
                  rcases Bool.eq_false_or_eq_true (decide (x81.From ≥ ((x0.Plan).length : Int))) with hg102 | hg102
                  · replace hq95 := iteT hg102 hq95
                    refine WL.no hE (runs_not hE rfl rfl rfl (by rw [hg102]; decide)) rfl ?_; clear hE a; intro a hE
                    refine WL.no hE (runs_not hE rfl rfl rfl (by rw [hg102]; decide)) rfl ?_; clear hE a; intro a hE
                    refine WL.no hE (runs_not hE rfl rfl rfl (by rw [hg102]; decide)) rfl ?_; clear hE a; intro a hE
                    refine WL.vS hS hE (runs_plain rfl) (Gives.pickT hE rfl hg102 rfl) rfl ?_; clear hE a; intro a hE
                    refine WL.vS hS hE (runs_plain rfl) (Gives.p hE rfl) rfl ?_; clear hE a; intro a hE
                    refine WL.no hE (runs_not hE rfl rfl rfl (by decide)) rfl ?_; clear hE a; intro a hE
                    refine WL.no hE (runs_not hE rfl rfl rfl (by decide)) rfl ?_; clear hE a; intro a hE
                    refine WL.no hE (runs_not hE rfl rfl rfl (by decide)) rfl ?_; clear hE a; intro a hE
                    refine WL.no hE (runs_not hE rfl rfl rfl (by decide)) rfl ?_; clear hE a; intro a hE
                    refine WL.vS hS hE (runs_plain rfl) (Gives.pickT hE rfl rfl rfl) rfl ?_; clear hE a; intro a hE
                    refine WL.vS hS hE (runs_plain rfl) (Gives.p hE rfl) rfl ?_; clear hE a; intro a hE
                    refine WL.nil ?_
                    subst hK100
                    exact ⟨true, hq95, hE.pick _ ⟨rfl, rfl, rfl, rfl, rfl, rfl, rfl, trivial⟩, hS⟩
                  · replace hq95 := iteF hg102 hq95
                    refine WL.vS hS hE (runs_if hE rfl rfl rfl hg102) (Gives.fld hE rfl fl36_1) rfl ?_; clear hE a; intro a hE
                    refine WL.vS hS hE (runs_if hE rfl rfl rfl hg102) (Gives.loadB hE 0 rfl rfl rfl ty3) rfl ?_; clear hE a; intro a hE
                    refine WL.vS hS hE (runs_if hE rfl rfl rfl hg102) (Gives.p hE rfl) rfl ?_; clear hE a; intro a hE
                    refine WL.vS hS hE (runs_plain rfl) (Gives.pickF hE rfl hg102 rfl) rfl ?_; clear hE a; intro a hE
                    refine WL.vS hS hE (runs_plain rfl) (Gives.p hE rfl) rfl ?_; clear hE a; intro a hE
                    rcases Bool.eq_false_or_eq_true (decide (x81.To < 0)) with hg103 | hg103
                    · replace hq95 := iteT hg103 hq95
                      refine WL.no hE (runs_not hE rfl rfl rfl (by rw [hg103]; decide)) rfl ?_; clear hE a; intro a hE
                      refine WL.no hE (runs_not hE rfl rfl rfl (by rw [hg103]; decide)) rfl ?_; clear hE a; intro a hE
                      refine WL.no hE (runs_not hE rfl rfl rfl (by rw [hg103]; decide)) rfl ?_; clear hE a; intro a hE
                      refine WL.no hE (runs_not hE rfl rfl rfl (by rw [hg103]; decide)) rfl ?_; clear hE a; intro a hE
                      refine WL.vS hS hE (runs_plain rfl) (Gives.pickT hE rfl hg103 rfl) rfl ?_; clear hE a; intro a hE
                      refine WL.vS hS hE (runs_plain rfl) (Gives.p hE rfl) rfl ?_; clear hE a; intro a hE
                      refine WL.nil ?_
                      subst hK100
                      exact ⟨true, hq95, hE.pick _ ⟨rfl, rfl, rfl, rfl, rfl, rfl, rfl, trivial⟩, hS⟩
                    · replace hq95 := iteF hg103 hq95
                      refine WL.vS hS hE (runs_if hE rfl rfl rfl hg103) (Gives.fld hE rfl fl36_1) rfl ?_; clear hE a; intro a hE
                      refine WL.vS hS hE (runs_if hE rfl rfl rfl hg103) (Gives.loadB hE 0 rfl rfl rfl ty3) rfl ?_; clear hE a; intro a hE
                      refine WL.vS hS hE (runs_if hE rfl rfl rfl hg103) (Gives.p hE rfl) rfl ?_; clear hE a; intro a hE
                      refine WL.vS hS hE (runs_if hE rfl rfl rfl hg103) (Gives.p hE rfl) rfl ?_; clear hE a; intro a hE
                      refine WL.vS hS hE (runs_plain rfl) (Gives.pickF hE rfl hg103 rfl) rfl ?_; clear hE a; intro a hE
                      refine WL.vS hS hE (runs_plain rfl) (Gives.p hE rfl) rfl ?_; clear hE a; intro a hE
                      refine WL.nil ?_
                      subst hK100
                      exact ⟨decide (x81.To ≥ ((x0.Plan).length : Int)), hq95, hE.pick _ ⟨rfl, rfl, rfl, rfl, rfl, rfl, rfl, trivial⟩, hS⟩
              · clear hE hS a w; rintro a w ⟨q99, rfl, hE, hS⟩
                refine W.cond hE rfl (fun hc104 => ?_) (fun hc104 => ?_)
                · replace hq78 := iteT hc104 hq78
                  refine W.seq ?_
                  refine W.region ?_
                  refine WL.vS hS hE (runs_plain rfl) (Gives.p hE rfl) rfl ?_; clear hE a; intro a hE
                  refine WL.nil ?_
                  refine W.ret ?_
                  subst hK89
                  rw [← Option.some.inj hq78] at hr
                  dsimp only at hr
                  refine finG (fn := Try.f14) (rs := [.tmp 2]) (vs := [_]) hE rfl ⟨rfl, trivial⟩ ?_
                  obtain rfl := Option.some.inj hr
                  replace hS := hS.tail
                  replace hS := hS.tail
                  exact ⟨rfl, hS⟩
                · replace hq78 := iteF hc104 hq78
                  refine W.seq ?_
                  obtain ⟨q106, hq105, hq78⟩ := bndS hq78
                  refine W.cut (fun a w => ∃ (q109 : Bool), q109 = q106 ∧ Rep a 138 [(1, .pointer (some ⟨b51, 0, none⟩)), (3, .int .i64 ((x0.Plan).length : Int)), (7, .pointer (some ⟨b94, 0, none⟩)), (44, .slice a0_1 x0.Links.length c0_1), (45, .int .i64 ((x0.Links).length : Int)), (46, .int .i64 ((k80 : Nat) : Int)), (71, .bool q109)] ∧ St w s (pt b94 (.cells (MendLink.cells x81).toArray 36 (0, 0)) :: pt b51 (.cells #[.int .i64 x0.Period, .slice a0_0 x0.Plan.length c0_0, .slice a0_1 x0.Links.length c0_1] 25 (0, 0)) :: R)) ?_ ?_
                  · refine W.gen fun K110 hK110 => ?_
                    refine W.region ?_
                    refine WL.vS hS hE (runs_plain rfl) (Gives.fld hE rfl fl36_2) rfl ?_; clear hE a; intro a hE
                    refine WL.vS hS hE (runs_plain rfl) (Gives.loadB hE 0 rfl rfl rfl ty3) rfl ?_; clear hE a; intro a hE
                    refine WL.fnq hE (Fishref2within_ok hS  rfl (r := Fishref2within x81.Len 0 28800)) (runs_plain rfl) bd51 rfl rfl rfl ?_
                    clear hE hS; rintro e w ⟨rfl, hS⟩; refine ⟨_, rfl, ?_⟩; clear a; intro a hE
                    refine WL.vS hS hE (runs_plain rfl) (Gives.p hE rfl) rfl ?_; clear hE a; intro a hE
                    refine WL.vS hS hE (runs_plain rfl) (Gives.p hE rfl) rfl ?_; clear hE a; intro a hE
                    rcases Bool.eq_false_or_eq_true (!(Fishref2within x81.Len 0 28800)) with hg111 | hg111
                    · replace hq105 := iteT hg111 hq105
                      refine WL.no hE (runs_not hE rfl rfl rfl (by rw [hg111]; decide)) rfl ?_; clear hE a; intro a hE
                      refine WL.no hE (runs_not hE rfl rfl rfl (by rw [hg111]; decide)) rfl ?_; clear hE a; intro a hE
                      refine WL.no hE (runs_not hE rfl rfl rfl (by rw [hg111]; decide)) rfl ?_; clear hE a; intro a hE
                      refine WL.no hE (runs_not hE rfl rfl rfl (by rw [hg111]; decide)) rfl ?_; clear hE a; intro a hE
                      refine WL.vS hS hE (runs_plain rfl) (Gives.pickT hE rfl hg111 rfl) rfl ?_; clear hE a; intro a hE
                      refine WL.vS hS hE (runs_plain rfl) (Gives.p hE rfl) rfl ?_; clear hE a; intro a hE
                      refine WL.nil ?_
                      subst hK110
                      exact ⟨true, hq105, hE.pick _ ⟨rfl, rfl, rfl, rfl, rfl, rfl, rfl, trivial⟩, hS⟩
                    · replace hq105 := iteF hg111 hq105
                      refine WL.vS hS hE (runs_if hE rfl rfl rfl hg111) (Gives.fld hE rfl fl36_3) rfl ?_; clear hE a; intro a hE
                      refine WL.vS hS hE (runs_if hE rfl rfl rfl hg111) (Gives.loadB hE 0 rfl rfl rfl ty3) rfl ?_; clear hE a; intro a hE
                      refine WL.fnq hE (Fishref2within_ok hS  rfl (r := Fishref2within x81.Back 0 3)) (runs_if hE rfl rfl rfl hg111) bd51 rfl rfl rfl ?_
                      clear hE hS; rintro e w ⟨rfl, hS⟩; refine ⟨_, rfl, ?_⟩; clear a; intro a hE
                      refine WL.vS hS hE (runs_if hE rfl rfl rfl hg111) (Gives.p hE rfl) rfl ?_; clear hE a; intro a hE
                      refine WL.vS hS hE (runs_plain rfl) (Gives.pickF hE rfl hg111 rfl) rfl ?_; clear hE a; intro a hE
                      refine WL.vS hS hE (runs_plain rfl) (Gives.p hE rfl) rfl ?_; clear hE a; intro a hE
                      refine WL.nil ?_
                      subst hK110
                      exact ⟨!(Fishref2within x81.Back 0 3), hq105, hE.pick _ ⟨rfl, rfl, rfl, rfl, rfl, rfl, rfl, trivial⟩, hS⟩
                  · clear hE hS a w; rintro a w ⟨q109, rfl, hE, hS⟩
                    refine W.cond hE rfl (fun hc112 => ?_) (fun hc112 => ?_)
                    · replace hq78 := iteT hc112 hq78
                      refine W.seq ?_
                      refine W.region ?_
                      refine WL.vS hS hE (runs_plain rfl) (Gives.p hE rfl) rfl ?_; clear hE a; intro a hE
                      refine WL.nil ?_
                      refine W.ret ?_
                      subst hK89
                      rw [← Option.some.inj hq78] at hr
                      dsimp only at hr
                      refine finG (fn := Try.f14) (rs := [.tmp 2]) (vs := [_]) hE rfl ⟨rfl, trivial⟩ ?_
                      obtain rfl := Option.some.inj hr
                      replace hS := hS.tail
                      replace hS := hS.tail
                      exact ⟨rfl, hS⟩
                    · replace hq78 := iteF hc112 hq78
                      refine W.seq ?_
                      refine W.region ?_
                      refine WL.vS hS hE (runs_plain rfl) (Gives.loadBA hE 1 rfl rfl ty25) rfl ?_; clear hE a; intro a hE
                      refine WL.vS hS hE (runs_plain rfl) (Gives.loadBA hE 0 rfl rfl ty36) rfl ?_; clear hE a; intro a hE
                      obtain ⟨q113, hq114, hq78⟩ := bindS hq78
                      have hc_ := Fishref2SlackOf_ok hS h0_0 h0_1 hq114
                      refine WL.fnq hE (hc_) (runs_plain rfl) bd52 rfl rfl rfl ?_
                      clear hE hS hc_; rintro e w ⟨rfl, hS⟩; refine ⟨_, rfl, ?_⟩; clear a; intro a hE
                      refine WL.vS hS hE (runs_plain rfl) (Gives.p hE rfl) rfl ?_; clear hE a; intro a hE
                      refine WL.vS hS hE (runs_plain rfl) (Gives.p hE rfl) rfl ?_; clear hE a; intro a hE
                      refine WL.nil ?_
                      refine W.cond hE rfl (fun hc115 => ?_) (fun hc115 => ?_)
                      · replace hq78 := iteT hc115 hq78
                        refine W.seq ?_
                        refine W.region ?_
                        refine WL.vS hS hE (runs_plain rfl) (Gives.p hE rfl) rfl ?_; clear hE a; intro a hE
                        refine WL.nil ?_
                        refine W.ret ?_
                        subst hK89
                        rw [← Option.some.inj hq78] at hr
                        dsimp only at hr
                        refine finG (fn := Try.f14) (rs := [.tmp 2]) (vs := [_]) hE rfl ⟨rfl, trivial⟩ ?_
                        obtain rfl := Option.some.inj hr
                        replace hS := hS.tail
                        replace hS := hS.tail
                        exact ⟨rfl, hS⟩
                      · replace hq78 := iteF hc115 hq78
                        refine W.skip ?_
                        refine W.region ?_
                        refine WL.vS hS hE (runs_plain rfl) (Gives.inc hE rfl (by have := h0_1.small; omega)) rfl ?_; clear hE a; intro a hE
                        refine WL.vS hS hE (runs_plain rfl) (Gives.p hE rfl) rfl ?_; clear hE a; intro a hE
                        refine WL.nil ?_
                        replace hS := hS.tail
                        subst hK89
                        exact ⟨rest82.length, Nat.lt_succ_self _, rest82, k80 + 1, rfl, hd83, hq78, hE.pick _ ⟨rfl, rfl, rfl, rfl, rfl, trivial⟩, hS⟩
          · clear hE hS a w; rintro a w ⟨rfl, hE, hS⟩
            dsimp only at hr
            refine W.seq ?_
            refine W.region ?_
            refine WL.vS hS hE (runs_plain rfl) (Gives.p hE rfl) rfl ?_; clear hE a; intro a hE
            obtain ⟨x116, hx117, hr⟩ := bindS hr
            refine WL.mkD (Rr := RB) hE hS (runs_plain rfl) rfl rfl ap82 zr4 rfl hx117 rfl ?_; clear hE hS a w; intro b118 cs119 a w h120 hE hS
            refine WL.vS hS hE (runs_plain rfl) (Gives.p hE rfl) rfl ?_; clear hE a; intro a hE
            refine WL.nil ?_
            refine W.seq ?_
            refine W.seq ?_
            refine W.region ?_
            refine WL.vS hS hE (runs_plain rfl) (Gives.p hE rfl) rfl ?_; clear hE a; intro a hE
            refine WL.vS hS hE (runs_plain rfl) (Gives.p hE rfl) rfl ?_; clear hE a; intro a hE
            refine WL.nil ?_
            obtain ⟨q123, hq122, hr⟩ := bindS hr
            refine W.cut (fun a w => ∃ (q133 : List Bool), ∃ (cs137 : List Value), q133 = q123 ∧ Ev 1 RB s cs137 q133 ∧ q133.length = x116.length ∧ Rep a 138 [(8, .slice (some ⟨b118, 0, none⟩) x116.length x116.length)] ∧ St w s (vecC 4 1 (some ⟨b118, 0, none⟩) x116.length x116.length cs137 :: pt b51 (.cells #[.int .i64 x0.Period, .slice a0_0 x0.Plan.length c0_0, .slice a0_1 x0.Links.length c0_1] 25 (0, 0)) :: R)) ?_ ?_
            · refine W.block ?_
              refine W.loop (fun m a w => ∃ (rest126 : List Int) (k124 : Nat), ∃ (q133 : List Bool), ∃ (cs137 : List Value), rest126.length = m ∧ x0.Plan.drop k124 = rest126 ∧ Fishref2RoundFault.loop3 x0 rest126 q133 = some q123 ∧ Ev 1 RB s cs137 q133 ∧ q133.length = x116.length ∧ Rep a 138 [(1, .pointer (some ⟨b51, 0, none⟩)), (3, .int .i64 ((x0.Plan).length : Int)), (8, .slice (some ⟨b118, 0, none⟩) x116.length x116.length), (90, .int .i64 ((x0.Plan).length : Int)), (91, .int .i64 ((k124 : Nat) : Int))] ∧ St w s (vecC 4 1 (some ⟨b118, 0, none⟩) x116.length x116.length cs137 :: pt b51 (.cells #[.int .i64 x0.Period, .slice a0_0 x0.Plan.length c0_0, .slice a0_1 x0.Links.length c0_1] 25 (0, 0)) :: R)) (m := x0.Plan.length) ⟨x0.Plan, 0, x116, cs119, rfl, rfl, hq122, h120, (rfl), hE.pick _ ⟨rfl, rfl, rfl, rfl, rfl, trivial⟩, hS⟩ ?_
              clear hE hS a w hq122; rintro m130 a w ⟨rest126, k124, q133, cs137, rfl, hd127, hq122, h136, hn138, hE, hS⟩
              refine W.gen fun K139 hK139 => ?_
              rcases rest126 with _ | ⟨x125, rest126⟩
              · have hlt128 := drop_nil hd127
                refine W.seq ?_
                refine W.region ?_
                refine WL.vS hS hE (runs_plain rfl) (Gives.p hE rfl) rfl ?_; clear hE a; intro a hE
                refine WL.nil ?_
                refine W.seq ?_
                refine W.condF hE rfl (decide_eq_false (by omega)) ?_
                subst hK139
                refine W.exit rfl ?_
                exact ⟨q133, cs137, Option.some.inj hq122, h136, hn138, hE.pick _ ⟨rfl, trivial⟩, hS⟩
              · obtain ⟨hlt128, hx129, hd127⟩ := drop_cons hd127
                rw [Fishref2RoundFault.loop3] at hq122
                refine W.seq ?_
                refine W.region ?_
                refine WL.vS hS hE (runs_plain rfl) (Gives.p hE rfl) rfl ?_; clear hE a; intro a hE
                refine WL.nil ?_
                refine W.seq ?_
                refine W.condT hE rfl (decide_eq_true (by omega)) ?_
                refine W.skip ?_
                refine W.seq ?_
                refine W.block ?_
                refine W.seq ?_
                refine W.region ?_
                refine WL.vS hS hE (runs_plain rfl) (Gives.p hE rfl) rfl ?_; clear hE a; intro a hE
                refine WL.vS hS hE (runs_plain rfl) (Gives.p hE rfl) rfl ?_; clear hE a; intro a hE
                refine WL.nil ?_
                obtain ⟨q141, hq140, hq122⟩ := bindS hq122
                refine W.cut (fun a w => ∃ (q151 : List Bool), ∃ (cs155 : List Value), q151 = q141 ∧ Ev 1 RB s cs155 q151 ∧ q151.length = x116.length ∧ Rep a 138 [(1, .pointer (some ⟨b51, 0, none⟩)), (3, .int .i64 ((x0.Plan).length : Int)), (8, .slice (some ⟨b118, 0, none⟩) x116.length x116.length), (90, .int .i64 ((x0.Plan).length : Int)), (91, .int .i64 ((k124 : Nat) : Int))] ∧ St w s (vecC 4 1 (some ⟨b118, 0, none⟩) x116.length x116.length cs155 :: pt b51 (.cells #[.int .i64 x0.Period, .slice a0_0 x0.Plan.length c0_0, .slice a0_1 x0.Links.length c0_1] 25 (0, 0)) :: R)) ?_ ?_
                · refine W.block ?_
                  refine W.loop (fun m a w => ∃ (rest144 : List Int) (k142 : Nat), ∃ (q151 : List Bool), ∃ (cs155 : List Value), rest144.length = m ∧ x0.Plan.drop k142 = rest144 ∧ Fishref2RoundFault.loop4 x0 rest144 k142 q151 = some q141 ∧ Ev 1 RB s cs155 q151 ∧ q151.length = x116.length ∧ Rep a 138 [(1, .pointer (some ⟨b51, 0, none⟩)), (3, .int .i64 ((x0.Plan).length : Int)), (8, .slice (some ⟨b118, 0, none⟩) x116.length x116.length), (90, .int .i64 ((x0.Plan).length : Int)), (91, .int .i64 ((k124 : Nat) : Int)), (93, .int .i64 ((x0.Plan).length : Int)), (94, .int .i64 ((k142 : Nat) : Int))] ∧ St w s (vecC 4 1 (some ⟨b118, 0, none⟩) x116.length x116.length cs155 :: pt b51 (.cells #[.int .i64 x0.Period, .slice a0_0 x0.Plan.length c0_0, .slice a0_1 x0.Links.length c0_1] 25 (0, 0)) :: R)) (m := x0.Plan.length) ⟨x0.Plan, 0, q133, cs137, rfl, rfl, hq140, h136, hn138, hE.pick _ ⟨rfl, rfl, rfl, rfl, rfl, rfl, rfl, trivial⟩, hS⟩ ?_
                  clear hE hS a w hq140; rintro m148 a w ⟨rest144, k142, q151, cs155, rfl, hd145, hq140, h154, hn156, hE, hS⟩
                  refine W.gen fun K157 hK157 => ?_
                  rcases rest144 with _ | ⟨x143, rest144⟩
                  · have hlt146 := drop_nil hd145
                    refine W.seq ?_
                    refine W.region ?_
                    refine WL.vS hS hE (runs_plain rfl) (Gives.p hE rfl) rfl ?_; clear hE a; intro a hE
                    refine WL.nil ?_
                    refine W.seq ?_
                    refine W.condF hE rfl (decide_eq_false (by omega)) ?_
                    subst hK157
                    refine W.exit rfl ?_
                    exact ⟨q151, cs155, Option.some.inj hq140, h154, hn156, hE.pick _ ⟨rfl, rfl, rfl, rfl, rfl, trivial⟩, hS⟩
                  · obtain ⟨hlt146, hx147, hd145⟩ := drop_cons hd145
                    rw [Fishref2RoundFault.loop4] at hq140
                    refine W.seq ?_
                    refine W.region ?_
                    refine WL.vS hS hE (runs_plain rfl) (Gives.p hE rfl) rfl ?_; clear hE a; intro a hE
                    refine WL.nil ?_
                    refine W.seq ?_
                    refine W.condT hE rfl (decide_eq_true (by omega)) ?_
                    refine W.skip ?_
                    refine W.seq ?_
                    refine W.block ?_
                    refine W.seq ?_
                    refine W.region ?_
                    refine WL.vS hS hE (runs_plain rfl) (Gives.p hE rfl) rfl ?_; clear hE a; intro a hE
                    refine WL.vS hS hE (runs_plain rfl) (Gives.p hE rfl) rfl ?_; clear hE a; intro a hE
                    refine WL.nil ?_
                    refine W.seq ?_
                    refine W.region ?_
                    refine WL.vS hS hE (runs_plain rfl) (Gives.p hE rfl) rfl ?_; clear hE a; intro a hE
                    refine WL.nil ?_
                    refine W.seq ?_
                    refine W.seq ?_
                    refine W.region ?_
                    refine WL.vS hS hE (runs_plain rfl) (Gives.fld hE rfl fl25_2) rfl ?_; clear hE a; intro a hE
                    refine WL.vS hS hE (runs_plain rfl) (Gives.loadB hE 1 rfl rfl rfl ty23) rfl ?_; clear hE a; intro a hE
                    refine WL.vS hS hE (runs_plain rfl) (Gives.len hE rfl sl23) rfl ?_; clear hE a; intro a hE
                    refine WL.vS hS hE (runs_plain rfl) (Gives.p hE rfl) rfl ?_; clear hE a; intro a hE
                    refine WL.nil ?_
                    obtain ⟨q159, hq158, hq140⟩ := bindS hq140
                    refine W.cut (fun a w => ∃ (q169 : Bool), q169 = q159 ∧ Rep a 138 [(1, .pointer (some ⟨b51, 0, none⟩)), (3, .int .i64 ((x0.Plan).length : Int)), (8, .slice (some ⟨b118, 0, none⟩) x116.length x116.length), (9, .int .i64 ((k142 : Nat) : Int)), (10, .bool q169), (90, .int .i64 ((x0.Plan).length : Int)), (91, .int .i64 ((k124 : Nat) : Int)), (93, .int .i64 ((x0.Plan).length : Int)), (94, .int .i64 ((k142 : Nat) : Int))] ∧ St w s (vecC 4 1 (some ⟨b118, 0, none⟩) x116.length x116.length cs155 :: pt b51 (.cells #[.int .i64 x0.Period, .slice a0_0 x0.Plan.length c0_0, .slice a0_1 x0.Links.length c0_1] 25 (0, 0)) :: R)) ?_ ?_
                    · refine W.block ?_
                      refine W.loop (fun m a w => ∃ (rest162 : List MendLink) (k160 : Nat), ∃ (q169 : Bool), rest162.length = m ∧ x0.Links.drop k160 = rest162 ∧ Fishref2RoundFault.loop5 q151 k142 rest162 q169 = some q159 ∧ Rep a 138 [(1, .pointer (some ⟨b51, 0, none⟩)), (3, .int .i64 ((x0.Plan).length : Int)), (8, .slice (some ⟨b118, 0, none⟩) x116.length x116.length), (9, .int .i64 ((k142 : Nat) : Int)), (10, .bool q169), (90, .int .i64 ((x0.Plan).length : Int)), (91, .int .i64 ((k124 : Nat) : Int)), (93, .int .i64 ((x0.Plan).length : Int)), (94, .int .i64 ((k142 : Nat) : Int)), (98, .slice a0_1 x0.Links.length c0_1), (99, .int .i64 ((x0.Links).length : Int)), (100, .int .i64 ((k160 : Nat) : Int))] ∧ St w s (vecC 4 1 (some ⟨b118, 0, none⟩) x116.length x116.length cs155 :: pt b51 (.cells #[.int .i64 x0.Period, .slice a0_0 x0.Plan.length c0_0, .slice a0_1 x0.Links.length c0_1] 25 (0, 0)) :: R)) (m := x0.Links.length) ⟨x0.Links, 0, true, rfl, rfl, hq158, hE.pick _ ⟨rfl, rfl, rfl, rfl, rfl, rfl, rfl, rfl, rfl, rfl, rfl, rfl, trivial⟩, hS⟩ ?_
                      clear hE hS a w hq158; rintro m166 a w ⟨rest162, k160, q169, rfl, hd163, hq158, hE, hS⟩
                      refine W.gen fun K170 hK170 => ?_
                      rcases rest162 with _ | ⟨x161, rest162⟩
                      · have hlt164 := drop_nil hd163
                        refine W.seq ?_
                        refine W.region ?_
                        refine WL.vS hS hE (runs_plain rfl) (Gives.p hE rfl) rfl ?_; clear hE a; intro a hE
                        refine WL.nil ?_
                        refine W.seq ?_
                        refine W.condF hE rfl (decide_eq_false (by omega)) ?_
                        subst hK170
                        refine W.exit rfl ?_
                        exact ⟨q169, Option.some.inj hq158, hE.pick _ ⟨rfl, rfl, rfl, rfl, rfl, rfl, rfl, rfl, rfl, trivial⟩, hS⟩
                      · obtain ⟨hlt164, hx165, hd163⟩ := drop_cons hd163
                        rw [Fishref2RoundFault.loop5] at hq158
                        refine W.seq ?_
                        refine W.region ?_
                        refine WL.vS hS hE (runs_plain rfl) (Gives.p hE rfl) rfl ?_; clear hE a; intro a hE
                        refine WL.nil ?_
                        refine W.seq ?_
                        refine W.condT hE rfl (decide_eq_true (by omega)) ?_
                        refine W.skip ?_
                        refine W.seq ?_
                        refine W.block ?_
                        refine W.seq ?_
                        refine W.region ?_
                        obtain ⟨cs171, hl172, hR173, hat174⟩ := h0_1.at hx165
                        subst hR173
                        refine WL.vS hS hE (runs_plain rfl) (Gives.idx hE k160 rfl rfl sl23 rfl hlt164 (h0_1.aok hlt164)) rfl ?_; clear hE a; intro a hE
                        refine WL.vS hS hE (runs_plain rfl) (Gives.loadA hE rfl (fun w h => hat174 w _ h) ty36) rfl ?_; clear hE a; intro a hE
                        refine WL.alloc hE hS (runs_plain rfl) zr36 rfl ?_; clear hE hS a w; intro b175 a w hE hS
                        refine WL.storeI hE hS 0 rfl (MendLink.cells x161) (runs_plain rfl) rfl rfl rfl ty36 rfl rfl rfl rfl ?_; clear hE hS a w; intro a w hE hS
                        refine WL.nil ?_
                        obtain ⟨q177, hq176, hq158⟩ := bindS hq158
                        refine W.cut (fun a w => ∃ (q180 : Bool), q180 = q177 ∧ Rep a 138 [(1, .pointer (some ⟨b51, 0, none⟩)), (3, .int .i64 ((x0.Plan).length : Int)), (8, .slice (some ⟨b118, 0, none⟩) x116.length x116.length), (9, .int .i64 ((k142 : Nat) : Int)), (10, .bool q180), (90, .int .i64 ((x0.Plan).length : Int)), (91, .int .i64 ((k124 : Nat) : Int)), (93, .int .i64 ((x0.Plan).length : Int)), (94, .int .i64 ((k142 : Nat) : Int)), (98, .slice a0_1 x0.Links.length c0_1), (99, .int .i64 ((x0.Links).length : Int)), (100, .int .i64 ((k160 : Nat) : Int))] ∧ St w s (pt b175 (.cells (MendLink.cells x161).toArray 36 (0, 0)) :: vecC 4 1 (some ⟨b118, 0, none⟩) x116.length x116.length cs155 :: pt b51 (.cells #[.int .i64 x0.Period, .slice a0_0 x0.Plan.length c0_0, .slice a0_1 x0.Links.length c0_1] 25 (0, 0)) :: R)) ?_ ?_
                        · refine W.gen fun K181 hK181 => ?_
                          refine W.region ?_
                          refine WL.vS hS hE (runs_plain rfl) (Gives.p hE rfl) rfl ?_; clear hE a; intro a hE
                          refine WL.vS hS hE (runs_plain rfl) (Gives.p hE rfl) rfl ?_; clear hE a; intro a hE
                          rcases Bool.eq_false_or_eq_true q169 with hg182 | hg182
                          · replace hq176 := iteT hg182 hq176
                            refine WL.vS hS hE (runs_if hE rfl rfl rfl hg182) (Gives.fld hE rfl fl36_3) rfl ?_; clear hE a; intro a hE
                            refine WL.vS hS hE (runs_if hE rfl rfl rfl hg182) (Gives.loadB hE 0 rfl rfl rfl ty3) rfl ?_; clear hE a; intro a hE
                            refine WL.vS hS hE (runs_if hE rfl rfl rfl hg182) (Gives.p hE rfl) rfl ?_; clear hE a; intro a hE
                            refine WL.vS hS hE (runs_if hE rfl rfl rfl hg182) (Gives.p hE rfl) rfl ?_; clear hE a; intro a hE
                            rcases Bool.eq_false_or_eq_true (decide (x161.Back > 0)) with hg183 | hg183
                            · replace hq176 := iteT hg183 hq176
                              refine WL.no hE (runs_not hE rfl rfl rfl (by rw [hg183]; decide)) rfl ?_; clear hE a; intro a hE
                              refine WL.no hE (runs_not hE rfl rfl rfl (by rw [hg183]; decide)) rfl ?_; clear hE a; intro a hE
                              refine WL.no hE (runs_not hE rfl rfl rfl (by rw [hg183]; decide)) rfl ?_; clear hE a; intro a hE
                              refine WL.no hE (runs_not hE rfl rfl rfl (by rw [hg183]; decide)) rfl ?_; clear hE a; intro a hE
                              refine WL.vS hS hE (runs_if hE rfl rfl rfl hg182) (Gives.pickT hE rfl hg183 rfl) rfl ?_; clear hE a; intro a hE
                              refine WL.vS hS hE (runs_if hE rfl rfl rfl hg182) (Gives.p hE rfl) rfl ?_; clear hE a; intro a hE
                              refine WL.no hE (runs_not hE rfl rfl rfl (by decide)) rfl ?_; clear hE a; intro a hE
                              refine WL.no hE (runs_not hE rfl rfl rfl (by decide)) rfl ?_; clear hE a; intro a hE
                              refine WL.no hE (runs_not hE rfl rfl rfl (by decide)) rfl ?_; clear hE a; intro a hE
                              refine WL.no hE (runs_not hE rfl rfl rfl (by decide)) rfl ?_; clear hE a; intro a hE
                              refine WL.no hE (runs_not hE rfl rfl rfl (by decide)) rfl ?_; clear hE a; intro a hE
                              refine WL.vS hS hE (runs_if hE rfl rfl rfl hg182) (Gives.pickT hE rfl rfl rfl) rfl ?_; clear hE a; intro a hE
                              refine WL.vS hS hE (runs_plain rfl) (Gives.pickT hE rfl hg182 rfl) rfl ?_; clear hE a; intro a hE
                              refine WL.vS hS hE (runs_plain rfl) (Gives.p hE rfl) rfl ?_; clear hE a; intro a hE
                              refine WL.nil ?_
                              subst hK181
                              exact ⟨true, Option.some.inj hq176, hE.pick _ ⟨rfl, rfl, rfl, rfl, rfl, rfl, rfl, rfl, rfl, rfl, rfl, rfl, trivial⟩, hS⟩
                            · replace hq176 := iteF hg183 hq176
                              refine WL.vS hS hE (runs_if hE rfl rfl rfl hg183) (Gives.fld hE rfl fl36_1) rfl ?_; clear hE a; intro a hE
                              refine WL.vS hS hE (runs_if hE rfl rfl rfl hg183) (Gives.loadB hE 0 rfl rfl rfl ty3) rfl ?_; clear hE a; intro a hE
                              refine WL.vS hS hE (runs_if hE rfl rfl rfl hg183) (Gives.p hE rfl) rfl ?_; clear hE a; intro a hE
                              refine WL.vS hS hE (runs_if hE rfl rfl rfl hg183) (Gives.p hE rfl) rfl ?_; clear hE a; intro a hE
                              refine WL.vS hS hE (runs_if hE rfl rfl rfl hg182) (Gives.pickF hE rfl hg183 rfl) rfl ?_; clear hE a; intro a hE
                              refine WL.vS hS hE (runs_if hE rfl rfl rfl hg182) (Gives.p hE rfl) rfl ?_; clear hE a; intro a hE
                              rcases Bool.eq_false_or_eq_true (x161.To != ((k142 : Nat) : Int)) with hg184 | hg184
                              · replace hq176 := iteT hg184 hq176
                                refine WL.no hE (runs_not hE rfl rfl rfl (by rw [hg184]; decide)) rfl ?_; clear hE a; intro a hE
                                refine WL.no hE (runs_not hE rfl rfl rfl (by rw [hg184]; decide)) rfl ?_; clear hE a; intro a hE
                                refine WL.no hE (runs_not hE rfl rfl rfl (by rw [hg184]; decide)) rfl ?_; clear hE a; intro a hE
                                refine WL.no hE (runs_not hE rfl rfl rfl (by rw [hg184]; decide)) rfl ?_; clear hE a; intro a hE
                                refine WL.no hE (runs_not hE rfl rfl rfl (by rw [hg184]; decide)) rfl ?_; clear hE a; intro a hE
                                refine WL.vS hS hE (runs_if hE rfl rfl rfl hg182) (Gives.pickT hE rfl hg184 rfl) rfl ?_; clear hE a; intro a hE
                                refine WL.vS hS hE (runs_plain rfl) (Gives.pickT hE rfl hg182 rfl) rfl ?_; clear hE a; intro a hE
                                refine WL.vS hS hE (runs_plain rfl) (Gives.p hE rfl) rfl ?_; clear hE a; intro a hE
                                refine WL.nil ?_
                                subst hK181
                                exact ⟨true, Option.some.inj hq176, hE.pick _ ⟨rfl, rfl, rfl, rfl, rfl, rfl, rfl, rfl, rfl, rfl, rfl, rfl, trivial⟩, hS⟩
                              · replace hq176 := iteF hg184 hq176
                                refine WL.vS hS hE (runs_if hE rfl rfl rfl hg184) (Gives.p hE rfl) rfl ?_; clear hE a; intro a hE
                                refine WL.vS hS hE (runs_if hE rfl rfl rfl hg184) (Gives.fld hE rfl fl36_0) rfl ?_; clear hE a; intro a hE
                                refine WL.vS hS hE (runs_if hE rfl rfl rfl hg184) (Gives.loadB hE 0 rfl rfl rfl ty3) rfl ?_; clear hE a; intro a hE
                                obtain ⟨x185, hx186, hq176⟩ := bindS hq176
                                obtain ⟨hi187, hlt188, hy189⟩ := gx_some hx186
                                obtain ⟨vs190, hl191, hR192, hd193, hget194⟩ := h154.at hy189
                                subst hR192
                                refine WL.vS hS hE (runs_if hE rfl rfl rfl hg184) (Gives.idx hE ((x161.From).toNat) rfl rfl sl82 hi187 (by have := hn156; omega) (hS.vecAok 1 rfl (by have := hn156; omega : (x161.From).toNat < x116.length))) rfl ?_; clear hE a; intro a hE
                                refine WL.vS hS hE (runs_if hE rfl rfl rfl hg184) (Gives.load1 hE rfl (fun w h => St.vecSees h 1 rfl ((x161.From).toNat * 1) _ hget194) ty4) rfl ?_; clear hE a; intro a hE
                                refine WL.vS hS hE (runs_if hE rfl rfl rfl hg182) (Gives.pickF hE rfl hg184 rfl) rfl ?_; clear hE a; intro a hE
                                refine WL.vS hS hE (runs_plain rfl) (Gives.pickT hE rfl hg182 rfl) rfl ?_; clear hE a; intro a hE
                                refine WL.vS hS hE (runs_plain rfl) (Gives.p hE rfl) rfl ?_; clear hE a; intro a hE
                                refine WL.nil ?_
                                subst hK181
                                exact ⟨x185, Option.some.inj hq176, hE.pick _ ⟨rfl, rfl, rfl, rfl, rfl, rfl, rfl, rfl, rfl, rfl, rfl, rfl, trivial⟩, hS⟩
                          · replace hq176 := iteF hg182 hq176
                            refine WL.no hE (runs_not hE rfl rfl rfl (by rw [hg182]; decide)) rfl ?_; clear hE a; intro a hE
                            refine WL.no hE (runs_not hE rfl rfl rfl (by rw [hg182]; decide)) rfl ?_; clear hE a; intro a hE
                            refine WL.no hE (runs_not hE rfl rfl rfl (by rw [hg182]; decide)) rfl ?_; clear hE a; intro a hE
                            refine WL.no hE (runs_not hE rfl rfl rfl (by rw [hg182]; decide)) rfl ?_; clear hE a; intro a hE
                            refine WL.no hE (runs_undef hE rfl rfl rfl) rfl ?_; clear hE a; intro a hE
                            refine WL.no hE (runs_undef hE rfl rfl rfl) rfl ?_; clear hE a; intro a hE
                            refine WL.no hE (runs_undef hE rfl rfl rfl) rfl ?_; clear hE a; intro a hE
                            refine WL.no hE (runs_undef hE rfl rfl rfl) rfl ?_; clear hE a; intro a hE
                            refine WL.no hE (runs_not hE rfl rfl rfl (by rw [hg182]; decide)) rfl ?_; clear hE a; intro a hE
                            refine WL.no hE (runs_not hE rfl rfl rfl (by rw [hg182]; decide)) rfl ?_; clear hE a; intro a hE
                            refine WL.no hE (runs_undef hE rfl rfl rfl) rfl ?_; clear hE a; intro a hE
                            refine WL.no hE (runs_undef hE rfl rfl rfl) rfl ?_; clear hE a; intro a hE
                            refine WL.no hE (runs_undef hE rfl rfl rfl) rfl ?_; clear hE a; intro a hE
                            refine WL.no hE (runs_undef hE rfl rfl rfl) rfl ?_; clear hE a; intro a hE
                            refine WL.no hE (runs_undef hE rfl rfl rfl) rfl ?_; clear hE a; intro a hE
                            refine WL.no hE (runs_not hE rfl rfl rfl (by rw [hg182]; decide)) rfl ?_; clear hE a; intro a hE
                            refine WL.vS hS hE (runs_plain rfl) (Gives.pickF hE rfl hg182 rfl) rfl ?_; clear hE a; intro a hE
                            refine WL.vS hS hE (runs_plain rfl) (Gives.p hE rfl) rfl ?_; clear hE a; intro a hE
                            refine WL.nil ?_
                            subst hK181
                            exact ⟨false, Option.some.inj hq176, hE.pick _ ⟨rfl, rfl, rfl, rfl, rfl, rfl, rfl, rfl, rfl, rfl, rfl, rfl, trivial⟩, hS⟩
                        · clear hE hS a w; rintro a w ⟨q180, rfl, hE, hS⟩
                          refine W.region ?_
                          refine WL.vS hS hE (runs_plain rfl) (Gives.inc hE rfl (by have := h0_1.small; omega)) rfl ?_; clear hE a; intro a hE
                          refine WL.vS hS hE (runs_plain rfl) (Gives.p hE rfl) rfl ?_; clear hE a; intro a hE
                          refine WL.nil ?_
                          replace hS := hS.tail
                          subst hK170
                          exact ⟨rest162.length, Nat.lt_succ_self _, rest162, k160 + 1, q180, rfl, hd163, hq158, hE.pick _ ⟨rfl, rfl, rfl, rfl, rfl, rfl, rfl, rfl, rfl, rfl, rfl, rfl, trivial⟩, hS⟩
                    · clear hE hS a w; rintro a w ⟨q169, rfl, hE, hS⟩
                      obtain ⟨q196, hq195, hq140⟩ := bindS hq140
                      refine W.cut (fun a w => ∃ (q199 : List Bool), ∃ (cs203 : List Value), q199 = q196 ∧ Ev 1 RB s cs203 q199 ∧ q199.length = x116.length ∧ Rep a 138 [(1, .pointer (some ⟨b51, 0, none⟩)), (3, .int .i64 ((x0.Plan).length : Int)), (8, .slice (some ⟨b118, 0, none⟩) x116.length x116.length), (90, .int .i64 ((x0.Plan).length : Int)), (91, .int .i64 ((k124 : Nat) : Int)), (93, .int .i64 ((x0.Plan).length : Int)), (94, .int .i64 ((k142 : Nat) : Int))] ∧ St w s (vecC 4 1 (some ⟨b118, 0, none⟩) x116.length x116.length cs203 :: pt b51 (.cells #[.int .i64 x0.Period, .slice a0_0 x0.Plan.length c0_0, .slice a0_1 x0.Links.length c0_1] 25 (0, 0)) :: R)) ?_ ?_
                      · refine W.gen fun K205 hK205 => ?_
                        refine W.region ?_
                        refine WL.vS hS hE (runs_plain rfl) (Gives.p hE rfl) rfl ?_; clear hE a; intro a hE
                        refine WL.vS hS hE (runs_plain rfl) (Gives.p hE rfl) rfl ?_; clear hE a; intro a hE
                        refine WL.vS hS hE (runs_plain rfl) (Gives.p hE rfl) rfl ?_; clear hE a; intro a hE
                        refine WL.vS hS hE (runs_plain rfl) (Gives.p hE rfl) rfl ?_; clear hE a; intro a hE
                        obtain ⟨x206, hx207, hq195⟩ := bindS hq195
                        obtain ⟨hi208, hlt209, hy210⟩ := gx_some hx207
                        obtain ⟨vs211, hl212, hR213, hd214, hget215⟩ := h154.at hy210
                        subst hR213
                        refine WL.vS hS hE (runs_plain rfl) (Gives.idx hE ((((k142 : Nat) : Int)).toNat) rfl rfl sl82 hi208 (by have := hn156; omega) (hS.vecAok 0 rfl (by have := hn156; omega : (((k142 : Nat) : Int)).toNat < x116.length))) rfl ?_; clear hE a; intro a hE
                        refine WL.vS hS hE (runs_plain rfl) (Gives.load1 hE rfl (fun w h => St.vecSees h 0 rfl ((((k142 : Nat) : Int)).toNat * 1) _ hget215) ty4) rfl ?_; clear hE a; intro a hE
                        refine WL.vS hS hE (runs_plain rfl) (Gives.p hE rfl) rfl ?_; clear hE a; intro a hE
                        rcases Bool.eq_false_or_eq_true x206 with hg216 | hg216
                        · replace hq195 := iteT hg216 hq195
                          refine WL.no hE (runs_not hE rfl rfl rfl (by rw [hg216]; decide)) rfl ?_; clear hE a; intro a hE
                          refine WL.vS hS hE (runs_plain rfl) (Gives.pickT hE rfl hg216 rfl) rfl ?_; clear hE a; intro a hE
                          obtain ⟨_, hx218, hq195⟩ := bindS hq195
                          obtain ⟨h219, h220⟩ := ix_some hx218
                          refine WL.vS hS hE (runs_plain rfl) (Gives.idx hE ((((k142 : Nat) : Int)).toNat) rfl rfl sl82 h219 (by have := hn156; omega) (hS.vecAok 0 rfl (by have := hn156; omega : (((k142 : Nat) : Int)).toNat < x116.length))) rfl ?_; clear hE a; intro a hE
                          obtain ⟨x222, hx223, hq195⟩ := bindS hq195
                          refine WL.setD hE hS 0 rfl (runs_plain rfl) rfl rfl (vs := [.bool true]) rfl ty4 rfl rfl rfl h154 hn156 (sx_some hx223).1 hx223 rfl rfl ?_; clear hE hS a w; intro cs224 a w h225 hn226 hE hS
                          refine WL.nil ?_
                          subst hK205
                          exact ⟨x222, cs224, Option.some.inj hq195, h225, hn226, hE.pick _ ⟨rfl, rfl, rfl, rfl, rfl, rfl, rfl, trivial⟩, hS⟩
                        · replace hq195 := iteF hg216 hq195
                          refine WL.vS hS hE (runs_if hE rfl rfl rfl hg216) (Gives.p hE rfl) rfl ?_; clear hE a; intro a hE
                          refine WL.vS hS hE (runs_plain rfl) (Gives.pickF hE rfl hg216 rfl) rfl ?_; clear hE a; intro a hE
                          obtain ⟨_, hx228, hq195⟩ := bindS hq195
                          obtain ⟨h229, h230⟩ := ix_some hx228
                          refine WL.vS hS hE (runs_plain rfl) (Gives.idx hE ((((k142 : Nat) : Int)).toNat) rfl rfl sl82 h229 (by have := hn156; omega) (hS.vecAok 0 rfl (by have := hn156; omega : (((k142 : Nat) : Int)).toNat < x116.length))) rfl ?_; clear hE a; intro a hE
                          obtain ⟨x232, hx233, hq195⟩ := bindS hq195
                          refine WL.setD hE hS 0 rfl (runs_plain rfl) rfl rfl (vs := [.bool q169]) rfl ty4 rfl rfl rfl h154 hn156 (sx_some hx233).1 hx233 rfl rfl ?_; clear hE hS a w; intro cs234 a w h235 hn236 hE hS
                          refine WL.nil ?_
                          subst hK205
                          exact ⟨x232, cs234, Option.some.inj hq195, h235, hn236, hE.pick _ ⟨rfl, rfl, rfl, rfl, rfl, rfl, rfl, trivial⟩, hS⟩
                      · clear hE hS a w; rintro a w ⟨q199, cs203, rfl, h202, hn204, hE, hS⟩
                        refine W.region ?_
                        refine WL.vS hS hE (runs_plain rfl) (Gives.inc hE rfl (by have := h0_0.small; omega)) rfl ?_; clear hE a; intro a hE
                        refine WL.vS hS hE (runs_plain rfl) (Gives.p hE rfl) rfl ?_; clear hE a; intro a hE
                        refine WL.nil ?_
                        subst hK157
                        exact ⟨rest144.length, Nat.lt_succ_self _, rest144, k142 + 1, q199, cs203, rfl, hd145, hq140, h202, hn204, hE.pick _ ⟨rfl, rfl, rfl, rfl, rfl, rfl, rfl, trivial⟩, hS⟩
                · clear hE hS a w; rintro a w ⟨q151, cs155, rfl, h154, hn156, hE, hS⟩
                  refine W.region ?_
                  refine WL.vS hS hE (runs_plain rfl) (Gives.inc hE rfl (by have := h0_0.small; omega)) rfl ?_; clear hE a; intro a hE
                  refine WL.vS hS hE (runs_plain rfl) (Gives.p hE rfl) rfl ?_; clear hE a; intro a hE
                  refine WL.nil ?_
                  subst hK139
                  exact ⟨rest126.length, Nat.lt_succ_self _, rest126, k124 + 1, q151, cs155, rfl, hd127, hq122, h154, hn156, hE.pick _ ⟨rfl, rfl, rfl, rfl, rfl, trivial⟩, hS⟩
            · clear hE hS a w; rintro a w ⟨q133, cs137, rfl, h136, hn138, hE, hS⟩
              refine W.seq ?_
              refine W.seq ?_
              refine W.region ?_
              refine WL.vS hS hE (runs_plain rfl) (Gives.p hE rfl) rfl ?_; clear hE a; intro a hE
              have hF := hS.lendV RB.mono 0 rfl h136 hn138; clear hS; obtain ⟨t237, hle238, hS, hs239, bk240⟩ := hF
              refine WL.fnq hE ((by have hc_ := SlicesContainsLbool_ok hS hs239 rfl (r := SlicesContainsLbool q133 false); rw [hn138] at hc_; exact hc_)) (runs_plain rfl) bd53 rfl rfl rfl ?_
              clear hE hS; rintro e w ⟨rfl, hS⟩; refine ⟨_, rfl, ?_⟩; clear a; intro a hE
              replace hS := bk240 _ _ hS
              refine WL.nil ?_
              refine W.cond hE rfl (fun hc241 => ?_) (fun hc241 => ?_)
              · replace hr := iteT hc241 hr
                refine W.seq ?_
                refine W.region ?_
                refine WL.vS hS hE (runs_plain rfl) (Gives.p hE rfl) rfl ?_; clear hE a; intro a hE
                refine WL.nil ?_
                refine W.ret ?_
                refine finG (fn := Try.f14) (rs := [.tmp 2]) (vs := [_]) hE rfl ⟨rfl, trivial⟩ ?_
                obtain rfl := Option.some.inj hr
                replace hS := hS.tail
                replace hS := hS.tail
                exact ⟨rfl, hS⟩
              · replace hr := iteF hc241 hr
                refine W.skip ?_
                refine W.seq ?_
                refine W.region ?_
                refine WL.vS hS hE (runs_plain rfl) (Gives.p hE rfl) rfl ?_; clear hE a; intro a hE
                refine WL.nil ?_
                refine W.ret ?_
                refine finG (fn := Try.f14) (rs := [.tmp 2]) (vs := [_]) hE rfl ⟨rfl, trivial⟩ ?_
                obtain rfl := Option.some.inj hr
                replace hS := hS.tail
                replace hS := hS.tail
                exact ⟨rfl, hS⟩
set_option maxHeartbeats 8000000 in
theorem SlicesEqualLint_ok  {w : World} {s : Sg} {R : List HP} {x0 : List Int} {a0 : Option Addr} {c0 : Nat} {x1 : List Int} {a1 : Option Addr} {c1 : Nat} (hS : St w s (R)) (h0 : Sl 1 (RI .i64) s a0 c0 x0) (h1 : Sl 1 (RI .i64) s a1 c1 x1) {r : Bool} (hr : SlicesEqualLint x0 x1 = some r) :
    Calls Try.prog 28 [.slice a0 x0.length c0, .slice a1 x1.length c1].toArray w (fun e w => e = .returned (.bool r) ∧ St w s (R)) := by
  refine enter Try.func28 rfl rfl rfl fun a hE => ?_
  rw [SlicesEqualLint] at hr
  refine W.seq ?_
  refine W.region ?_
  refine WL.vS hS hE (runs_plain rfl) (Gives.p hE rfl) rfl ?_; clear hE a; intro a hE
  refine WL.nil ?_
  refine W.seq ?_
  refine W.seq ?_
  refine W.region ?_
  refine WL.vS hS hE (runs_plain rfl) (Gives.p hE rfl) rfl ?_; clear hE a; intro a hE
  refine WL.vS hS hE (runs_plain rfl) (Gives.len hE rfl sl22) rfl ?_; clear hE a; intro a hE
  refine WL.vS hS hE (runs_plain rfl) (Gives.p hE rfl) rfl ?_; clear hE a; intro a hE
  refine WL.vS hS hE (runs_plain rfl) (Gives.len hE rfl sl22) rfl ?_; clear hE a; intro a hE
  refine WL.vS hS hE (runs_plain rfl) (Gives.p hE rfl) rfl ?_; clear hE a; intro a hE
  refine WL.nil ?_
  refine W.cond hE rfl (fun hc51 => ?_) (fun hc51 => ?_)
  · replace hr := iteT hc51 hr
    refine W.seq ?_
    refine W.region ?_
    refine WL.vS hS hE (runs_plain rfl) (Gives.p hE rfl) rfl ?_; clear hE a; intro a hE
    refine WL.nil ?_
    refine W.ret ?_
    refine finG (fn := Try.f28) (rs := [.tmp 4]) (vs := [_]) hE rfl ⟨rfl, trivial⟩ ?_
    obtain rfl := Option.some.inj hr
    exact ⟨rfl, hS⟩
  · replace hr := iteF hc51 hr
    refine W.skip ?_
    refine W.seq ?_
    refine W.seq ?_
    refine W.region ?_
    refine WL.vS hS hE (runs_plain rfl) (Gives.p hE rfl) rfl ?_; clear hE a; intro a hE
    refine WL.vS hS hE (runs_plain rfl) (Gives.len hE rfl sl22) rfl ?_; clear hE a; intro a hE
    refine WL.vS hS hE (runs_plain rfl) (Gives.p hE rfl) rfl ?_; clear hE a; intro a hE
    refine WL.nil ?_
    obtain ⟨q53, hq52, hr⟩ := bindS hr
    refine W.cut (fun a w => (.next ()) = q53 ∧ Rep a 26 [] ∧ St w s (R)) ?_ ?_
    · refine W.block ?_
      refine W.loop (fun m a w => ∃ (rest56 : List Int) (k54 : Nat), rest56.length = m ∧ x0.drop k54 = rest56 ∧ SlicesEqualLint.loop1 x1 rest56 k54 = some q53 ∧ Rep a 26 [(0, .slice a0 x0.length c0), (1, .slice a1 x1.length c1), (12, .int .i64 ((x0).length : Int)), (13, .int .i64 ((k54 : Nat) : Int))] ∧ St w s (R)) (m := x0.length) ⟨x0, 0, rfl, rfl, hq52, hE.pick _ ⟨rfl, rfl, rfl, rfl, trivial⟩, hS⟩ ?_
      clear hE hS a w hq52; rintro m60 a w ⟨rest56, k54, rfl, hd57, hq52, hE, hS⟩
      refine W.gen fun K63 hK63 => ?_
      rcases rest56 with _ | ⟨x55, rest56⟩
      · have hlt58 := drop_nil hd57
        refine W.seq ?_
        refine W.region ?_
        refine WL.vS hS hE (runs_plain rfl) (Gives.p hE rfl) rfl ?_; clear hE a; intro a hE
        refine WL.nil ?_
        refine W.seq ?_
        refine W.condF hE rfl (decide_eq_false (by omega)) ?_
        subst hK63
        refine W.exit rfl ?_
        exact ⟨Option.some.inj hq52, hE.pick _ trivial, hS⟩
      · obtain ⟨hlt58, hx59, hd57⟩ := drop_cons hd57
        rw [SlicesEqualLint.loop1] at hq52
        refine W.seq ?_
        refine W.region ?_
        refine WL.vS hS hE (runs_plain rfl) (Gives.p hE rfl) rfl ?_; clear hE a; intro a hE
        refine WL.nil ?_
        refine W.seq ?_
        refine W.condT hE rfl (decide_eq_true (by omega)) ?_
        refine W.skip ?_
        refine W.seq ?_
        refine W.block ?_
        refine W.seq ?_
        refine W.region ?_
        refine WL.vS hS hE (runs_plain rfl) (Gives.p hE rfl) rfl ?_; clear hE a; intro a hE
        refine WL.vS hS hE (runs_plain rfl) (Gives.p hE rfl) rfl ?_; clear hE a; intro a hE
        refine WL.nil ?_
        refine W.seq ?_
        refine W.regionQ (C := fun w => St w s (R)) mixed (by kernel_rfl) hS.drew ?_
        refine QL.v hE (runs_plain rfl) (Gives.p hE rfl) rfl ?_; clear hE a; intro a hE
        refine QL.v hE (runs_plain rfl) (Gives.p hE rfl) rfl ?_; clear hE a; intro a hE
        obtain ⟨cs64, hl65, hR66, hat67⟩ := h0.at hx59
        subst hR66
        refine QL.v hE (runs_plain rfl) (Gives.idx hE k54 rfl rfl sl22 rfl hlt58 (h0.aok hlt58)) rfl ?_; clear hE a; intro a hE
        refine QL.v hE (runs_plain rfl) (Gives.load1 hE rfl (fun w h => hat67 w _ h) ty3) rfl ?_; clear hE a; intro a hE
        refine QL.v hE (runs_plain rfl) (Gives.p hE rfl) rfl ?_; clear hE a; intro a hE
        refine QL.v hE (runs_plain rfl) (Gives.p hE rfl) rfl ?_; clear hE a; intro a hE
        obtain ⟨x68, hx69, hq52⟩ := bindS hq52
        obtain ⟨hi70, hlt71, hy72⟩ := gx_some hx69
        obtain ⟨cs73, hl74, hR75, hat76⟩ := h1.at hy72
        subst hR75
        refine QL.v hE (runs_plain rfl) (Gives.idx hE (((k54 : Nat) : Int)).toNat rfl rfl sl22 hi70 hlt71 (h1.aok hlt71)) rfl ?_; clear hE a; intro a hE
        refine QL.v hE (runs_plain rfl) (Gives.load1 hE rfl (fun w h => hat76 w _ h) ty3) rfl ?_; clear hE a; intro a hE
        refine QL.v hE (runs_plain rfl) (Gives.p hE rfl) rfl ?_; clear hE a; intro a hE
        refine QL.nil ?_; clear hS w; intro w hS
        refine W.cond hE rfl (fun hc77 => ?_) (fun hc77 => ?_)
        · replace hq52 := iteT hc77 hq52
          refine W.seq ?_
          refine W.region ?_
          refine WL.vS hS hE (runs_plain rfl) (Gives.p hE rfl) rfl ?_; clear hE a; intro a hE
          refine WL.nil ?_
          refine W.ret ?_
          subst hK63
          rw [← Option.some.inj hq52] at hr
          dsimp only at hr
          refine finG (fn := Try.f28) (rs := [.tmp 4]) (vs := [_]) hE rfl ⟨rfl, trivial⟩ ?_
          obtain rfl := Option.some.inj hr
          exact ⟨rfl, hS⟩
        · replace hq52 := iteF hc77 hq52
          refine W.skip ?_
          refine W.region ?_
          refine WL.vS hS hE (runs_plain rfl) (Gives.inc hE rfl (by have := h0.small; omega)) rfl ?_; clear hE a; intro a hE
          refine WL.vS hS hE (runs_plain rfl) (Gives.p hE rfl) rfl ?_; clear hE a; intro a hE
          refine WL.nil ?_
          subst hK63
          exact ⟨rest56.length, Nat.lt_succ_self _, rest56, k54 + 1, rfl, hd57, hq52, hE.pick _ ⟨rfl, rfl, rfl, rfl, trivial⟩, hS⟩
    · clear hE hS a w; rintro a w ⟨rfl, hE, hS⟩
      dsimp only at hr
      refine W.seq ?_
      refine W.region ?_
      refine WL.vS hS hE (runs_plain rfl) (Gives.p hE rfl) rfl ?_; clear hE a; intro a hE
      refine WL.nil ?_
      refine W.ret ?_
      refine finG (fn := Try.f28) (rs := [.tmp 4]) (vs := [_]) hE rfl ⟨rfl, trivial⟩ ?_
      obtain rfl := Option.some.inj hr
      exact ⟨rfl, hS⟩
set_option maxHeartbeats 8000000 in
theorem SlicesEqualFuncLLint_v1_ok  {w : World} {s : Sg} {R : List HP} {x0 : List (List Int)} {a0 : Option Addr} {c0 : Nat} {x1 : List (List Int)} {a1 : Option Addr} {c1 : Nat} (hS : St w s (R)) (h0 : Sl 1 (RL 1 (RI .i64)) s a0 c0 x0) (h1 : Sl 1 (RL 1 (RI .i64)) s a1 c1 x1) {r : Bool} (hr : SlicesEqualFuncLLint_v1 x0 x1 = some r) :
    Calls Try.prog 61 [.slice a0 x0.length c0, .slice a1 x1.length c1, .func (.func 28) #[] #[]].toArray w (fun e w => e = .returned (.bool r) ∧ St w s (R)) := by
  refine enter Try.func61 rfl rfl rfl fun a hE => ?_
  rw [SlicesEqualFuncLLint_v1] at hr
  refine W.seq ?_
  refine W.region ?_
  refine WL.vS hS hE (runs_plain rfl) (Gives.p hE rfl) rfl ?_; clear hE a; intro a hE
  refine WL.nil ?_
  refine W.seq ?_
  refine W.seq ?_
  refine W.region ?_
  refine WL.vS hS hE (runs_plain rfl) (Gives.p hE rfl) rfl ?_; clear hE a; intro a hE
  refine WL.vS hS hE (runs_plain rfl) (Gives.len hE rfl sl40) rfl ?_; clear hE a; intro a hE
  refine WL.vS hS hE (runs_plain rfl) (Gives.p hE rfl) rfl ?_; clear hE a; intro a hE
  refine WL.vS hS hE (runs_plain rfl) (Gives.len hE rfl sl40) rfl ?_; clear hE a; intro a hE
  refine WL.vS hS hE (runs_plain rfl) (Gives.p hE rfl) rfl ?_; clear hE a; intro a hE
  refine WL.nil ?_
  refine W.cond hE rfl (fun hc51 => ?_) (fun hc51 => ?_)
  · replace hr := iteT hc51 hr
    refine W.seq ?_
    refine W.region ?_
    refine WL.vS hS hE (runs_plain rfl) (Gives.p hE rfl) rfl ?_; clear hE a; intro a hE
    refine WL.nil ?_
    refine W.ret ?_
    refine finG (fn := Try.f61) (rs := [.tmp 6]) (vs := [_]) hE rfl ⟨rfl, trivial⟩ ?_
    obtain rfl := Option.some.inj hr
    exact ⟨rfl, hS⟩
  · replace hr := iteF hc51 hr
    refine W.skip ?_
    refine W.seq ?_
    refine W.seq ?_
    refine W.region ?_
    refine WL.vS hS hE (runs_plain rfl) (Gives.p hE rfl) rfl ?_; clear hE a; intro a hE
    refine WL.vS hS hE (runs_plain rfl) (Gives.len hE rfl sl40) rfl ?_; clear hE a; intro a hE
    refine WL.vS hS hE (runs_plain rfl) (Gives.p hE rfl) rfl ?_; clear hE a; intro a hE
    refine WL.nil ?_
    obtain ⟨q53, hq52, hr⟩ := bindS hr
    refine W.cut (fun a w => (.next ()) = q53 ∧ Rep a 32 [] ∧ St w s (R)) ?_ ?_
    · refine W.block ?_
      refine W.loop (fun m a w => ∃ (rest56 : List (List Int)) (k54 : Nat), rest56.length = m ∧ x0.drop k54 = rest56 ∧ SlicesEqualFuncLLint_v1.loop1 x1 rest56 k54 = some q53 ∧ Rep a 32 [(1, .slice a1 x1.length c1), (2, .func (.func 28) #[] #[]), (15, .slice a0 x0.length c0), (16, .int .i64 ((x0).length : Int)), (17, .int .i64 ((k54 : Nat) : Int))] ∧ St w s (R)) (m := x0.length) ⟨x0, 0, rfl, rfl, hq52, hE.pick _ ⟨rfl, rfl, rfl, rfl, rfl, trivial⟩, hS⟩ ?_
      clear hE hS a w hq52; rintro m60 a w ⟨rest56, k54, rfl, hd57, hq52, hE, hS⟩
      refine W.gen fun K63 hK63 => ?_
      rcases rest56 with _ | ⟨x55, rest56⟩
      · have hlt58 := drop_nil hd57
        refine W.seq ?_
        refine W.region ?_
        refine WL.vS hS hE (runs_plain rfl) (Gives.p hE rfl) rfl ?_; clear hE a; intro a hE
        refine WL.nil ?_
        refine W.seq ?_
        refine W.condF hE rfl (decide_eq_false (by omega)) ?_
        subst hK63
        refine W.exit rfl ?_
        exact ⟨Option.some.inj hq52, hE.pick _ trivial, hS⟩
      · obtain ⟨hlt58, hx59, hd57⟩ := drop_cons hd57
        rw [SlicesEqualFuncLLint_v1.loop1] at hq52
        refine W.seq ?_
        refine W.region ?_
        refine WL.vS hS hE (runs_plain rfl) (Gives.p hE rfl) rfl ?_; clear hE a; intro a hE
        refine WL.nil ?_
        refine W.seq ?_
        refine W.condT hE rfl (decide_eq_true (by omega)) ?_
        refine W.skip ?_
        refine W.seq ?_
        refine W.block ?_
        refine W.seq ?_
        refine W.region ?_
        refine WL.vS hS hE (runs_plain rfl) (Gives.p hE rfl) rfl ?_; clear hE a; intro a hE
        obtain ⟨cs64, hl65, hR66, hat67⟩ := h0.at hx59
        obtain ⟨a68, c69, rfl, h70⟩ := hR66
        refine WL.vS hS hE (runs_plain rfl) (Gives.idx hE k54 rfl rfl sl40 rfl hlt58 (h0.aok hlt58)) rfl ?_; clear hE a; intro a hE
        refine WL.vS hS hE (runs_plain rfl) (Gives.load1 hE rfl (fun w h => hat67 w _ h) ty22) rfl ?_; clear hE a; intro a hE
        refine WL.vS hS hE (runs_plain rfl) (Gives.p hE rfl) rfl ?_; clear hE a; intro a hE
        refine WL.vS hS hE (runs_plain rfl) (Gives.p hE rfl) rfl ?_; clear hE a; intro a hE
        refine WL.nil ?_
        refine W.seq ?_
        refine W.region ?_
        refine WL.vS hS hE (runs_plain rfl) (Gives.p hE rfl) rfl ?_; clear hE a; intro a hE
        refine WL.vS hS hE (runs_plain rfl) (Gives.p hE rfl) rfl ?_; clear hE a; intro a hE
        obtain ⟨x71, hx72, hq52⟩ := bindS hq52
        obtain ⟨hi73, hlt74, hy75⟩ := gx_some hx72
        obtain ⟨cs76, hl77, hR78, hat79⟩ := h1.at hy75
        obtain ⟨a80, c81, rfl, h82⟩ := hR78
        refine WL.vS hS hE (runs_plain rfl) (Gives.idx hE (((k54 : Nat) : Int)).toNat rfl rfl sl40 hi73 hlt74 (h1.aok hlt74)) rfl ?_; clear hE a; intro a hE
        refine WL.vS hS hE (runs_plain rfl) (Gives.load1 hE rfl (fun w h => hat79 w _ h) ty22) rfl ?_; clear hE a; intro a hE
        refine WL.vS hS hE (runs_plain rfl) (Gives.p hE rfl) rfl ?_; clear hE a; intro a hE
        refine WL.nil ?_
        refine W.seq ?_
        refine W.region ?_
        refine WL.vS hS hE (runs_plain rfl) (Gives.p hE rfl) rfl ?_; clear hE a; intro a hE
        refine WL.vS hS hE (runs_plain rfl) (Gives.p hE rfl) rfl ?_; clear hE a; intro a hE
        refine WL.vS hS hE (runs_plain rfl) (Gives.p hE rfl) rfl ?_; clear hE a; intro a hE
        obtain ⟨q83, hq84, hq52⟩ := bindS hq52
        have hc_ := SlicesEqualLint_ok hS h70 h82 hq84
        refine WL.fnw hE (hc_) rfl (runs_plain rfl) bd28 rfl rfl rfl ?_
        clear hE hS hc_; rintro e w ⟨rfl, hS⟩; refine ⟨_, rfl, ?_⟩; clear a; intro a hE
        refine WL.vS hS hE (runs_plain rfl) (Gives.p hE rfl) rfl ?_; clear hE a; intro a hE
        refine WL.nil ?_
        refine W.cond hE rfl (fun hc85 => ?_) (fun hc85 => ?_)
        · replace hq52 := iteT hc85 hq52
          refine W.seq ?_
          refine W.region ?_
          refine WL.vS hS hE (runs_plain rfl) (Gives.p hE rfl) rfl ?_; clear hE a; intro a hE
          refine WL.nil ?_
          refine W.ret ?_
          subst hK63
          rw [← Option.some.inj hq52] at hr
          dsimp only at hr
          refine finG (fn := Try.f61) (rs := [.tmp 6]) (vs := [_]) hE rfl ⟨rfl, trivial⟩ ?_
          obtain rfl := Option.some.inj hr
          exact ⟨rfl, hS⟩
        · replace hq52 := iteF hc85 hq52
          refine W.skip ?_
          refine W.region ?_
          refine WL.vS hS hE (runs_plain rfl) (Gives.inc hE rfl (by have := h0.small; omega)) rfl ?_; clear hE a; intro a hE
          refine WL.vS hS hE (runs_plain rfl) (Gives.p hE rfl) rfl ?_; clear hE a; intro a hE
          refine WL.nil ?_
          subst hK63
          exact ⟨rest56.length, Nat.lt_succ_self _, rest56, k54 + 1, rfl, hd57, hq52, hE.pick _ ⟨rfl, rfl, rfl, rfl, rfl, trivial⟩, hS⟩
    · clear hE hS a w; rintro a w ⟨rfl, hE, hS⟩
      dsimp only at hr
      refine W.seq ?_
      refine W.region ?_
      refine WL.vS hS hE (runs_plain rfl) (Gives.p hE rfl) rfl ?_; clear hE a; intro a hE
      refine WL.nil ?_
      refine W.ret ?_
      refine finG (fn := Try.f61) (rs := [.tmp 6]) (vs := [_]) hE rfl ⟨rfl, trivial⟩ ?_
      obtain rfl := Option.some.inj hr
      exact ⟨rfl, hS⟩
set_option maxHeartbeats 8000000 in
theorem Fishlaw2lists_ok  {w : World} {s : Sg} {R : List HP} {x0 : List (List Int)} {a0 : Option Addr} {c0 : Nat} {x1 : List (List Int)} {a1 : Option Addr} {c1 : Nat} (hS : St w s (R)) (h0 : Sl 1 (RL 1 (RI .i64)) s a0 c0 x0) (h1 : Sl 1 (RL 1 (RI .i64)) s a1 c1 x1) {r : Bool} (hr : Fishlaw2lists x0 x1 = some r) :
    Calls Try.prog 21 [.slice a0 x0.length c0, .slice a1 x1.length c1].toArray w (fun e w => e = .returned (.bool r) ∧ St w s (R)) := by
  refine enter Try.func21 rfl rfl rfl fun a hE => ?_
  rw [Fishlaw2lists] at hr
  refine W.seq ?_
  refine W.region ?_
  refine WL.vS hS hE (runs_plain rfl) (Gives.p hE rfl) rfl ?_; clear hE a; intro a hE
  refine WL.nil ?_
  refine W.seq ?_
  refine W.region ?_
  refine WL.vS hS hE (runs_plain rfl) (Gives.p hE rfl) rfl ?_; clear hE a; intro a hE
  refine WL.vS hS hE (runs_plain rfl) (Gives.p hE rfl) rfl ?_; clear hE a; intro a hE
  obtain ⟨q51, hq52, hr⟩ := bindS hr
  have hc_ := SlicesEqualFuncLLint_v1_ok hS h0 h1 hq52
  refine WL.fnq hE (hc_) (runs_plain rfl) bd61 rfl rfl rfl ?_
  clear hE hS hc_; rintro e w ⟨rfl, hS⟩; refine ⟨_, rfl, ?_⟩; clear a; intro a hE
  refine WL.vS hS hE (runs_plain rfl) (Gives.p hE rfl) rfl ?_; clear hE a; intro a hE
  refine WL.nil ?_
  refine W.ret ?_
  refine finG (fn := Try.f21) (rs := [.tmp 4]) (vs := [_]) hE rfl ⟨rfl, trivial⟩ ?_
  obtain rfl := Option.some.inj hr
  exact ⟨rfl, hS⟩
set_option maxHeartbeats 8000000 in
theorem Fishlaw2rounds_ok {fu : Nat}  {w : World} {s : Sg} {R : List HP}  (hS : St w s (R))  {r : Bool} (hr : Fishlaw2rounds fu = some r) :
    Calls Try.prog 15 [].toArray w (fun e w => e = .returned (.bool r) ∧ St w s (R)) := by
  refine enter Try.func15 rfl rfl rfl fun a hE => ?_
  rw [Fishlaw2rounds] at hr
  refine W.seq ?_
  refine W.region ?_
  refine WL.vS hS hE (runs_plain rfl) (Gives.p hE rfl) rfl ?_; clear hE a; intro a hE
  refine WL.nil ?_
  refine W.seq ?_
  refine W.region ?_
  refine WL.lit hE hS (e := 3) (es := 1) (vs := [(0, .int .i64 0), (1, .int .i64 20)]) (cs := [.int .i64 0, .int .i64 20]) (runs_plain rfl) rfl (by kernel_rfl) rfl ?_; clear hE hS a w; intro b51 a w hE hS
  replace hS := hS.ptVec (es := 1) (m := 2) rfl (by decide)
  have h53 : Ev 1 (RI .i64) s [.int .i64 0, .int .i64 20] [0, 20] := (Ev.cons (c1 := [.int .i64 0]) rfl rfl (Ev.cons (c1 := [.int .i64 20]) rfl rfl (Ev.nil)))
  have hF := hS.fixD RI.mono 0 rfl h53 (rfl); clear hS; obtain ⟨s54, hle55, hS, h56⟩ := hF
  refine WL.vS hS hE (runs_plain rfl) (Gives.build hE (vs := [(0, .int .i64 0), (1, .int .i64 1), (2, .int .i64 15)]) [.int .i64 0, .int .i64 1, .int .i64 15, .int .i64 0] rfl (by kernel_rfl)) rfl ?_; clear hE a; intro a hE
  refine WL.vS hS hE (runs_plain rfl) (Gives.build hE (vs := [(0, .int .i64 1), (1, .int .i64 0), (2, .int .i64 35), (3, .int .i64 1)]) [.int .i64 1, .int .i64 0, .int .i64 35, .int .i64 1] rfl (by kernel_rfl)) rfl ?_; clear hE a; intro a hE
  refine WL.lit hE hS (e := 36) (es := 4) (vs := [(0, .agg [.int .i64 0, .int .i64 1, .int .i64 15, .int .i64 0].toArray), (1, .agg [.int .i64 1, .int .i64 0, .int .i64 35, .int .i64 1].toArray)]) (cs := [.int .i64 0, .int .i64 1, .int .i64 15, .int .i64 0, .int .i64 1, .int .i64 0, .int .i64 35, .int .i64 1]) (runs_plain rfl) rfl (by kernel_rfl) rfl ?_; clear hE hS a w; intro b57 a w hE hS
  replace hS := hS.ptVec (es := 4) (m := 2) rfl (by decide)
  have h59 : Ev 4 RMendLink s54 [.int .i64 0, .int .i64 1, .int .i64 15, .int .i64 0, .int .i64 1, .int .i64 0, .int .i64 35, .int .i64 1] [(MendLink.mk 0 1 15 0), (MendLink.mk 1 0 35 1)] := (Ev.cons (c1 := [.int .i64 0, .int .i64 1, .int .i64 15, .int .i64 0]) rfl rfl (Ev.cons (c1 := [.int .i64 1, .int .i64 0, .int .i64 35, .int .i64 1]) rfl rfl (Ev.nil)))
  have hF := hS.fixD RMendLink.mono 0 rfl h59 (rfl); clear hS; obtain ⟨s60, hle61, hS, h62⟩ := hF
  replace h56 := Sl.mono RI.mono hle61 h56
  refine WL.vS hS hE (runs_plain rfl) (Gives.build hE (vs := [(0, .int .i64 60), (1, .slice (some ⟨b51, 0, none⟩) 2 2), (2, .slice (some ⟨b57, 0, none⟩) 2 2)]) [.int .i64 60, .slice (some ⟨b51, 0, none⟩) 2 2, .slice (some ⟨b57, 0, none⟩) 2 2] rfl (by kernel_rfl)) rfl ?_; clear hE a; intro a hE
  refine WL.alloc hE hS (runs_plain rfl) zr25 rfl ?_; clear hE hS a w; intro b63 a w hE hS
  refine WL.storeI hE hS 0 rfl [.int .i64 60, .slice (some ⟨b51, 0, none⟩) 2 2, .slice (some ⟨b57, 0, none⟩) 2 2] (runs_plain rfl) rfl rfl rfl ty25 rfl rfl rfl rfl ?_; clear hE hS a w; intro a w hE hS
  refine WL.nil ?_
  refine W.seq ?_
  refine W.region ?_
  refine WL.vS hS hE (runs_plain rfl) (Gives.loadBA hE 0 rfl rfl ty25) rfl ?_; clear hE a; intro a hE
  obtain ⟨q64, hq65, hr⟩ := bindS hr
  have hc_ := MendRoom_ok hS h56 h62 hq65
  refine WL.fnq hE (hc_) (runs_plain rfl) bd34 rfl rfl rfl ?_
  clear hE hS hc_; rintro e w ⟨a66, c67, s69, rfl, hle70, h68, hS⟩; refine ⟨_, rfl, ?_⟩; clear a; intro a hE
  replace h56 := Sl.mono RI.mono hle70 h56
  replace h62 := Sl.mono RMendLink.mono hle70 h62
  refine WL.vS hS hE (runs_plain rfl) (Gives.p hE rfl) rfl ?_; clear hE a; intro a hE
  refine WL.vS hS hE (runs_plain rfl) (Gives.p hE rfl) rfl ?_; clear hE a; intro a hE
  refine WL.vS hS hE (runs_plain rfl) (Gives.p hE rfl) rfl ?_; clear hE a; intro a hE
  refine WL.vS hS hE (runs_plain rfl) (Gives.p hE rfl) rfl ?_; clear hE a; intro a hE
  refine WL.vS hS hE (runs_plain rfl) (Gives.p hE rfl) rfl ?_; clear hE a; intro a hE
  refine WL.nil ?_
  refine W.seq ?_
  obtain ⟨q72, hq71, hr⟩ := bindS hr
  refine W.cut (fun a w => ∃ (q75 : Bool), ∃ (s73 : Sg), s69.Le s73 ∧ q75 = q72 ∧ Rep a 23 [(0, .bool q75)] ∧ St w s73 (pt b63 (.cells #[.int .i64 60, .slice (some ⟨b51, 0, none⟩) 2 2, .slice (some ⟨b57, 0, none⟩) 2 2] 25 (0, 0)) :: R)) ?_ ?_
  · refine W.gen fun K76 hK76 => ?_
    refine W.region ?_
    refine WL.vS hS hE (runs_plain rfl) (Gives.p hE rfl) rfl ?_; clear hE a; intro a hE
    refine WL.vS hS hE (runs_plain rfl) (Gives.p hE rfl) rfl ?_; clear hE a; intro a hE
    refine WL.vS hS hE (runs_plain rfl) (Gives.p hE rfl) rfl ?_; clear hE a; intro a hE
    rcases Bool.eq_false_or_eq_true (q64.2 == 0) with hg77 | hg77
    · replace hq71 := iteT hg77 hq71
      refine WL.vS hS hE (runs_if hE rfl rfl rfl hg77) (Gives.p hE rfl) rfl ?_; clear hE a; intro a hE
      refine WL.lit hE hS (e := 3) (es := 1) (vs := [(0, .int .i64 0), (1, .int .i64 5)]) (cs := [.int .i64 0, .int .i64 5]) (runs_if hE rfl rfl rfl hg77) rfl (by kernel_rfl) rfl ?_; clear hE hS a w; intro b78 a w hE hS
      replace hS := hS.ptVec (es := 1) (m := 2) rfl (by decide)
      have h80 : Ev 1 (RI .i64) s69 [.int .i64 0, .int .i64 5] [0, 5] := (Ev.cons (c1 := [.int .i64 0]) rfl rfl (Ev.cons (c1 := [.int .i64 5]) rfl rfl (Ev.nil)))
      have hF := hS.fixD RI.mono 0 rfl h80 (rfl); clear hS; obtain ⟨s81, hle82, hS, h83⟩ := hF
      replace h56 := Sl.mono RI.mono hle82 h56
      replace h62 := Sl.mono RMendLink.mono hle82 h62
      replace h68 := Sl.mono (RL.mono RI.mono) hle82 h68
      refine WL.lit hE hS (e := 3) (es := 1) (vs := [(0, .int .i64 5), (1, .int .i64 0)]) (cs := [.int .i64 5, .int .i64 0]) (runs_if hE rfl rfl rfl hg77) rfl (by kernel_rfl) rfl ?_; clear hE hS a w; intro b84 a w hE hS
      replace hS := hS.ptVec (es := 1) (m := 2) rfl (by decide)
      have h86 : Ev 1 (RI .i64) s81 [.int .i64 5, .int .i64 0] [5, 0] := (Ev.cons (c1 := [.int .i64 5]) rfl rfl (Ev.cons (c1 := [.int .i64 0]) rfl rfl (Ev.nil)))
      have hF := hS.fixD RI.mono 0 rfl h86 (rfl); clear hS; obtain ⟨s87, hle88, hS, h89⟩ := hF
      replace h56 := Sl.mono RI.mono hle88 h56
      replace h62 := Sl.mono RMendLink.mono hle88 h62
      replace h68 := Sl.mono (RL.mono RI.mono) hle88 h68
      replace h83 := Sl.mono RI.mono hle88 h83
      refine WL.lit hE hS (e := 22) (es := 1) (vs := [(0, .slice (some ⟨b78, 0, none⟩) 2 2), (1, .slice (some ⟨b84, 0, none⟩) 2 2)]) (cs := [.slice (some ⟨b78, 0, none⟩) 2 2, .slice (some ⟨b84, 0, none⟩) 2 2]) (runs_if hE rfl rfl rfl hg77) rfl (by kernel_rfl) rfl ?_; clear hE hS a w; intro b90 a w hE hS
      replace hS := hS.ptVec (es := 1) (m := 2) rfl (by decide)
      have h92 : Ev 1 (RL 1 (RI .i64)) s87 [.slice (some ⟨b78, 0, none⟩) 2 2, .slice (some ⟨b84, 0, none⟩) 2 2] [[0, 5], [5, 0]] := (Ev.cons (c1 := [.slice (some ⟨b78, 0, none⟩) 2 2]) ⟨_, _, rfl, h83⟩ rfl (Ev.cons (c1 := [.slice (some ⟨b84, 0, none⟩) 2 2]) ⟨_, _, rfl, h89⟩ rfl (Ev.nil)))
      have hF := hS.fixD (RL.mono RI.mono) 0 rfl h92 (rfl); clear hS; obtain ⟨s93, hle94, hS, h95⟩ := hF
      replace h56 := Sl.mono RI.mono hle94 h56
      replace h62 := Sl.mono RMendLink.mono hle94 h62
      replace h68 := Sl.mono (RL.mono RI.mono) hle94 h68
      replace h83 := Sl.mono RI.mono hle94 h83
      replace h89 := Sl.mono RI.mono hle94 h89
      obtain ⟨q96, hq97, hq71⟩ := bindS hq71
      have hc_ := Fishlaw2lists_ok hS h68 h95 hq97
      refine WL.fnq hE (hc_) (runs_if hE rfl rfl rfl hg77) bd21 rfl rfl rfl ?_
      clear hE hS hc_; rintro e w ⟨rfl, hS⟩; refine ⟨_, rfl, ?_⟩; clear a; intro a hE
      refine WL.vS hS hE (runs_plain rfl) (Gives.pickT hE rfl hg77 rfl) rfl ?_; clear hE a; intro a hE
      refine WL.vS hS hE (runs_plain rfl) (Gives.p hE rfl) rfl ?_; clear hE a; intro a hE
      refine WL.nil ?_
      subst hK76
      exact ⟨q96, s93, (Sg.Le.trans (Sg.Le.trans hle82 hle88) hle94), Option.some.inj hq71, hE.pick _ ⟨rfl, trivial⟩, hS⟩
    · replace hq71 := iteF hg77 hq71
      refine WL.no hE (runs_not hE rfl rfl rfl (by rw [hg77]; decide)) rfl ?_; clear hE a; intro a hE
      refine WL.no hE (runs_not hE rfl rfl rfl (by rw [hg77]; decide)) rfl ?_; clear hE a; intro a hE
      refine WL.no hE (runs_not hE rfl rfl rfl (by rw [hg77]; decide)) rfl ?_; clear hE a; intro a hE
      refine WL.no hE (runs_not hE rfl rfl rfl (by rw [hg77]; decide)) rfl ?_; clear hE a; intro a hE
      refine WL.no hE (runs_not hE rfl rfl rfl (by rw [hg77]; decide)) rfl ?_; clear hE a; intro a hE
      refine WL.vS hS hE (runs_plain rfl) (Gives.pickF hE rfl hg77 rfl) rfl ?_; clear hE a; intro a hE
      refine WL.vS hS hE (runs_plain rfl) (Gives.p hE rfl) rfl ?_; clear hE a; intro a hE
      refine WL.nil ?_
      subst hK76
      exact ⟨false, s69, (Sg.Le.refl _), Option.some.inj hq71, hE.pick _ ⟨rfl, trivial⟩, hS⟩
  · clear hE hS a w; rintro a w ⟨q75, s73, hle74, rfl, hE, hS⟩
    replace h56 := Sl.mono RI.mono hle74 h56
    replace h62 := Sl.mono RMendLink.mono hle74 h62
    refine W.ret ?_
    refine finG (fn := Try.f15) (rs := [.tmp 0]) (vs := [_]) hE rfl ⟨rfl, trivial⟩ ?_
    obtain rfl := Option.some.inj hr
    replace hS := hS.tail
    exact ⟨rfl, (hS.down (Sg.Le.trans (Sg.Le.trans (Sg.Le.trans hle55 hle61) hle70) hle74))⟩
set_option maxHeartbeats 8000000 in
theorem Fishref2RoomOf_ok {fu : Nat}  {w : World} {s : Sg} {R : List HP} {x0 : MendRound} {a0_0 : Option Addr} {c0_0 : Nat} {a0_1 : Option Addr} {c0_1 : Nat} (hS : St w s (R)) (h0_0 : Sl 1 (RI .i64) s a0_0 c0_0 x0.Plan) (h0_1 : Sl 4 RMendLink s a0_1 c0_1 x0.Links) {r : (List (List Int))} (hr : Fishref2RoomOf fu x0 = some r) :
    Calls Try.prog 35 [.agg [.int .i64 x0.Period, .slice a0_0 x0.Plan.length c0_0, .slice a0_1 x0.Links.length c0_1].toArray].toArray w (fun e w => ∃ (a0 : Option Addr) (c0 : Nat) (t : Sg), e = .returned (.slice a0 r.length c0) ∧ s.Le t ∧ Sl 1 (RL 1 (RI .i64)) t a0 c0 r ∧ St w t (R)) := by
  refine enter Try.func35 rfl rfl rfl fun a hE => ?_
  rw [Fishref2RoomOf] at hr
  refine W.seq ?_
  refine W.region ?_
  refine WL.box hE hS (runs_plain rfl) rfl rfl rfl ?_; clear hE hS a w; intro b51 a w hE hS
  refine WL.vS hS hE (runs_plain rfl) (Gives.p hE rfl) rfl ?_; clear hE a; intro a hE
  refine WL.nil ?_
  refine W.seq ?_
  refine W.region ?_
  refine WL.vS hS hE (runs_plain rfl) (Gives.fld hE rfl fl25_1) rfl ?_; clear hE a; intro a hE
  refine WL.vS hS hE (runs_plain rfl) (Gives.loadB hE 0 rfl rfl rfl ty22) rfl ?_; clear hE a; intro a hE
  refine WL.vS hS hE (runs_plain rfl) (Gives.len hE rfl sl22) rfl ?_; clear hE a; intro a hE
  refine WL.vS hS hE (runs_plain rfl) (Gives.p hE rfl) rfl ?_; clear hE a; intro a hE
  refine WL.nil ?_
  refine W.seq ?_
  refine W.region ?_
  refine WL.vS hS hE (runs_plain rfl) (Gives.p hE rfl) rfl ?_; clear hE a; intro a hE
  obtain ⟨x52, hx53, hr⟩ := bindS hr
  refine WL.mkND (Rr := RI .i64) (Ti := 3) (es := 1) hE hS (runs_plain rfl) rfl rfl ap40 zr22 hx53 rfl ?_; clear hE hS a w; intro b54 ds55 a w h56 hE hS
  refine WL.vS hS hE (runs_plain rfl) (Gives.p hE rfl) rfl ?_; clear hE a; intro a hE
  refine WL.nil ?_
  refine W.seq ?_
  refine W.seq ?_
  refine W.region ?_
  refine WL.vS hS hE (runs_plain rfl) (Gives.p hE rfl) rfl ?_; clear hE a; intro a hE
  refine WL.vS hS hE (runs_plain rfl) (Gives.len hE rfl sl40) rfl ?_; clear hE a; intro a hE
  refine WL.vS hS hE (runs_plain rfl) (Gives.p hE rfl) rfl ?_; clear hE a; intro a hE
  refine WL.nil ?_
  have hb69 : x52.length ≤ 9223372036854775807 := by have := hS.nCap 0 rfl; unfold maxLen at this; omega
  obtain ⟨q59, hq58, hr⟩ := bindS hr
  refine W.cut (fun a w => ∃ (q70 : List (List Int)), ∃ (ds74 : List In), ∃ (s67 : Sg), s.Le s67 ∧ q70 = q59 ∧ NEv 1 (RI .i64) s67 ds74 q70 ∧ q70.length = x52.length ∧ Rep a 90 [(4, .slice (some ⟨b54, 0, none⟩) x52.length x52.length)] ∧ St w s67 (nestC 22 3 1 (some ⟨b54, 0, none⟩) x52.length x52.length ds74 :: pt b51 (.cells #[.int .i64 x0.Period, .slice a0_0 x0.Plan.length c0_0, .slice a0_1 x0.Links.length c0_1] 25 (0, 0)) :: R)) ?_ ?_
  · refine W.block ?_
    refine W.loop (fun m a w => ∃ (rest62 : Nat) (k60 : Nat), ∃ (q70 : List (List Int)), ∃ (ds74 : List In), ∃ (s67 : Sg), rest62 = m ∧ k60 + rest62 = x52.length ∧ s.Le s67 ∧ Fishref2RoomOf.loop1 x0 fu rest62 k60 q70 = some q59 ∧ NEv 1 (RI .i64) s67 ds74 q70 ∧ q70.length = x52.length ∧ Rep a 90 [(1, .pointer (some ⟨b51, 0, none⟩)), (3, .int .i64 ((x0.Plan).length : Int)), (4, .slice (some ⟨b54, 0, none⟩) x52.length x52.length), (16, .int .i64 ((x52.length : Nat) : Int)), (17, .int .i64 ((k60 : Nat) : Int))] ∧ St w s67 (nestC 22 3 1 (some ⟨b54, 0, none⟩) x52.length x52.length ds74 :: pt b51 (.cells #[.int .i64 x0.Period, .slice a0_0 x0.Plan.length c0_0, .slice a0_1 x0.Links.length c0_1] 25 (0, 0)) :: R)) (m := x52.length) ⟨x52.length, 0, x52, ds55, s, rfl, by omega, (Sg.Le.refl _), hq58, h56, (rfl), hE.pick _ ⟨rfl, rfl, rfl, rfl, rfl, trivial⟩, hS⟩ ?_
    clear hE hS a w hq58; rintro m66 a w ⟨rest62, k60, q70, ds74, s67, rfl, hd63, hle68, hq58, h75, hn76, hE, hS⟩
    refine W.gen fun K77 hK77 => ?_
    replace h0_0 := Sl.mono RI.mono hle68 h0_0
    replace h0_1 := Sl.mono RMendLink.mono hle68 h0_1
    replace h56 := NEv.mono RI.mono hle68 h56
    rcases rest62 with _ | rest62
    · skip
      refine W.seq ?_
      refine W.region ?_
      refine WL.vS hS hE (runs_plain rfl) (Gives.p hE rfl) rfl ?_; clear hE a; intro a hE
      refine WL.nil ?_
      refine W.seq ?_
      refine W.condF hE rfl (decide_eq_false (by omega)) ?_
      subst hK77
      refine W.exit rfl ?_
      exact ⟨q70, ds74, s67, hle68, Option.some.inj hq58, h75, hn76, hE.pick _ ⟨rfl, trivial⟩, hS⟩
    · have hlt64 : k60 < x52.length := by omega
      rw [Fishref2RoomOf.loop1] at hq58
      refine W.seq ?_
      refine W.region ?_
      refine WL.vS hS hE (runs_plain rfl) (Gives.p hE rfl) rfl ?_; clear hE a; intro a hE
      refine WL.nil ?_
      refine W.seq ?_
      refine W.condT hE rfl (decide_eq_true (by omega)) ?_
      refine W.skip ?_
      refine W.seq ?_
      refine W.block ?_
      refine W.seq ?_
      refine W.region ?_
      refine WL.vS hS hE (runs_plain rfl) (Gives.p hE rfl) rfl ?_; clear hE a; intro a hE
      refine WL.vS hS hE (runs_plain rfl) (Gives.p hE rfl) rfl ?_; clear hE a; intro a hE
      refine WL.nil ?_
      refine W.seq ?_
      refine W.region ?_
      refine WL.vS hS hE (runs_plain rfl) (Gives.p hE rfl) rfl ?_; clear hE a; intro a hE
      refine WL.vS hS hE (runs_plain rfl) (Gives.p hE rfl) rfl ?_; clear hE a; intro a hE
      refine WL.lit hE hS (e := 3) (es := 1) (vs := [(0, .int .i64 (-1))]) (cs := [.int .i64 (-1)]) (runs_plain rfl) rfl (by kernel_rfl) rfl ?_; clear hE hS a w; intro b78 a w hE hS
      replace hS := hS.ptVec (es := 1) (m := 1) rfl (by decide)
      have h80 : Ev 1 (RI .i64) s67 [.int .i64 (-1)] [(-1)] := (Ev.cons (c1 := [.int .i64 (-1)]) rfl rfl (Ev.nil))
      have hF := hS.fixD RI.mono 0 rfl h80 (rfl); clear hS; obtain ⟨s81, hle82, hS, h83⟩ := hF
      replace h75 := NEv.mono RI.mono hle82 h75
      replace h0_0 := Sl.mono RI.mono hle82 h0_0
      replace h0_1 := Sl.mono RMendLink.mono hle82 h0_1
      refine WL.vS hS hE (runs_plain rfl) (Gives.p hE rfl) rfl ?_; clear hE a; intro a hE
      obtain ⟨q84, hq85, hq58⟩ := bindS hq58
      have hc_ := SlicesRepeatLint_ok hS h83 hq85
      refine WL.fnq hE (hc_) (runs_plain rfl) bd57 rfl rfl rfl ?_
      clear hE hS hc_; rintro e w ⟨a86, c87, n88, cs89, rfl, h90, rfl, hS⟩; refine ⟨_, rfl, ?_⟩; clear a; intro a hE
      obtain ⟨_, hx92, hq58⟩ := bindS hq58
      obtain ⟨h93, h94⟩ := ix_some hx92
      refine WL.vS hS hE (runs_plain rfl) (Gives.idx hE ((((k60 : Nat) : Int)).toNat) rfl rfl sl40 h93 (by have := hn76; omega) (hS.nAok 1 rfl (by have := hn76; omega : (((k60 : Nat) : Int)).toNat < x52.length))) rfl ?_; clear hE a; intro a hE
      obtain ⟨d95, hd96⟩ : ∃ d, ds74[(((k60 : Nat) : Int)).toNat]? = some d := ⟨_, List.getElem?_eq_getElem (by have h1 := h75.len; have h2 := hn76; omega)⟩
      replace hS := (hS.borrow 1 rfl hd96).tail
      obtain ⟨x97, hx98, hq58⟩ := bindS hq58
      refine WL.storeND hE hS 0 rfl (runs_plain rfl) rfl rfl ty22 h75 hn76 (by have := (sx_some hx98).1; omega) hx98 h90 rfl rfl ?_; clear hE hS a w; intro ds99 a w h100 hn101 hE hS
      refine WL.nil ?_
      refine W.seq ?_
      refine W.region ?_
      refine WL.vS hS hE (runs_plain rfl) (Gives.p hE rfl) rfl ?_; clear hE a; intro a hE
      refine WL.vS hS hE (runs_plain rfl) (Gives.p hE rfl) rfl ?_; clear hE a; intro a hE
      obtain ⟨x102, hx103, hq58⟩ := bindS hq58
      obtain ⟨hi104, hlt105, hy106⟩ := gx_some hx103
      obtain ⟨a107, c108, cs109, hd110, hev111⟩ := h100.at hy106
      refine WL.vS hS hE (runs_plain rfl) (Gives.idx hE ((((k60 : Nat) : Int)).toNat) rfl rfl sl40 hi104 (by have := hn101; omega) (hS.nAok 0 rfl (by have := hn101; omega : (((k60 : Nat) : Int)).toNat < x52.length))) rfl ?_; clear hE a; intro a hE
      refine WL.vS hS hE (runs_plain rfl) (Gives.load1 (v := .slice a107 x102.length c108) hE rfl (fun w h => St.nSees h 0 rfl hd110) ty22) rfl ?_; clear hE a; intro a hE
      refine WL.vS hS hE (runs_plain rfl) (Gives.p hE rfl) rfl ?_; clear hE a; intro a hE
      replace hS := hS.borrowM 0 rfl hd110
      obtain ⟨_, hx114, hq58⟩ := bindS hq58
      obtain ⟨h115, h116⟩ := ix_some hx114
      refine WL.vS hS hE (runs_plain rfl) (Gives.idx hE ((((k60 : Nat) : Int)).toNat) rfl rfl sl22 h115 (by omega) (hS.vecAok 0 rfl (by omega : (((k60 : Nat) : Int)).toNat < x102.length))) rfl ?_; clear hE a; intro a hE
      obtain ⟨x118, hx119, hq58⟩ := bindS hq58
      refine WL.setD hE hS 0 rfl (runs_plain rfl) rfl rfl (vs := [.int .i64 0]) rfl ty3 rfl rfl rfl hev111 (rfl) (sx_some hx119).1 hx119 rfl rfl ?_; clear hE hS a w; intro cs120 a w h121 hn122 hE hS
      refine WL.nil ?_
      refine W.seq ?_
      refine W.region ?_
      refine WL.vS hS hE (runs_plain rfl) (Gives.p hE rfl) rfl ?_; clear hE a; intro a hE
      refine WL.vS hS hE (runs_plain rfl) (Gives.p hE rfl) rfl ?_; clear hE a; intro a hE
      refine WL.nil ?_
      replace hS := hS.giveBack 0 rfl hd110
      have h124 := h100.set (k := (((k60 : Nat) : Int)).toNat) (d := ⟨a107, c108, x102.length, cs120⟩) h121 hn122
      have hn125 : (x97.set ((((k60 : Nat) : Int)).toNat) x118).length = x52.length := by simp; exact hn101
      generalize List.set ds99 ((((k60 : Nat) : Int)).toNat) _ = ds123 at hS h124
      obtain ⟨q127, hq126, hq58⟩ := bindS hq58
      refine W.cut (fun a w => ∃ (q137 : List (List Int)), ∃ (ds141 : List In), q137 = q127 ∧ NEv 1 (RI .i64) s81 ds141 q137 ∧ q137.length = x52.length ∧ Rep a 90 [(1, .pointer (some ⟨b51, 0, none⟩)), (3, .int .i64 ((x0.Plan).length : Int)), (4, .slice (some ⟨b54, 0, none⟩) x52.length x52.length), (16, .int .i64 ((x52.length : Nat) : Int)), (17, .int .i64 ((k60 : Nat) : Int))] ∧ St w s81 (nestC 22 3 1 (some ⟨b54, 0, none⟩) x52.length x52.length ds141 :: pt b51 (.cells #[.int .i64 x0.Period, .slice a0_0 x0.Plan.length c0_0, .slice a0_1 x0.Links.length c0_1] 25 (0, 0)) :: R)) ?_ ?_
      · refine W.block ?_
        refine W.loop (fun m a w => ∃ (rest130 : List Int) (k128 : Nat), ∃ (q137 : List (List Int)), ∃ (ds141 : List In), rest130.length = m ∧ x0.Plan.drop k128 = rest130 ∧ Fishref2RoomOf.loop2 x0 k60 rest130 q137 = some q127 ∧ NEv 1 (RI .i64) s81 ds141 q137 ∧ q137.length = x52.length ∧ Rep a 90 [(1, .pointer (some ⟨b51, 0, none⟩)), (3, .int .i64 ((x0.Plan).length : Int)), (4, .slice (some ⟨b54, 0, none⟩) x52.length x52.length), (5, .int .i64 ((k60 : Nat) : Int)), (16, .int .i64 ((x52.length : Nat) : Int)), (17, .int .i64 ((k60 : Nat) : Int)), (32, .int .i64 ((x0.Plan).length : Int)), (33, .int .i64 ((k128 : Nat) : Int))] ∧ St w s81 (nestC 22 3 1 (some ⟨b54, 0, none⟩) x52.length x52.length ds141 :: pt b51 (.cells #[.int .i64 x0.Period, .slice a0_0 x0.Plan.length c0_0, .slice a0_1 x0.Links.length c0_1] 25 (0, 0)) :: R)) (m := x0.Plan.length) ⟨x0.Plan, 0, (x97.set ((((k60 : Nat) : Int)).toNat) x118), ds123, rfl, rfl, hq126, h124, hn125, hE.pick _ ⟨rfl, rfl, rfl, rfl, rfl, rfl, rfl, rfl, trivial⟩, hS⟩ ?_
        clear hE hS a w hq126; rintro m134 a w ⟨rest130, k128, q137, ds141, rfl, hd131, hq126, h142, hn143, hE, hS⟩
        refine W.gen fun K144 hK144 => ?_
        rcases rest130 with _ | ⟨x129, rest130⟩
        · have hlt132 := drop_nil hd131
          refine W.seq ?_
          refine W.region ?_
          refine WL.vS hS hE (runs_plain rfl) (Gives.p hE rfl) rfl ?_; clear hE a; intro a hE
          refine WL.nil ?_
          refine W.seq ?_
          refine W.condF hE rfl (decide_eq_false (by omega)) ?_
          subst hK144
          refine W.exit rfl ?_
          exact ⟨q137, ds141, Option.some.inj hq126, h142, hn143, hE.pick _ ⟨rfl, rfl, rfl, rfl, rfl, trivial⟩, hS⟩
        · obtain ⟨hlt132, hx133, hd131⟩ := drop_cons hd131
          rw [Fishref2RoomOf.loop2] at hq126
          refine W.seq ?_
          refine W.region ?_
          refine WL.vS hS hE (runs_plain rfl) (Gives.p hE rfl) rfl ?_; clear hE a; intro a hE
          refine WL.nil ?_
          refine W.seq ?_
          refine W.condT hE rfl (decide_eq_true (by omega)) ?_
          refine W.skip ?_
          refine W.seq ?_
          refine W.block ?_
          refine W.seq ?_
          refine W.region ?_
          refine WL.vS hS hE (runs_plain rfl) (Gives.fld hE rfl fl25_2) rfl ?_; clear hE a; intro a hE
          refine WL.vS hS hE (runs_plain rfl) (Gives.loadB hE 1 rfl rfl rfl ty23) rfl ?_; clear hE a; intro a hE
          refine WL.vS hS hE (runs_plain rfl) (Gives.len hE rfl sl23) rfl ?_; clear hE a; intro a hE
          refine WL.vS hS hE (runs_plain rfl) (Gives.p hE rfl) rfl ?_; clear hE a; intro a hE
          refine WL.nil ?_
          obtain ⟨q146, hq145, hq126⟩ := bindS hq126
          refine W.cut (fun a w => ∃ (q156 : List (List Int)), ∃ (ds160 : List In), q156 = q146 ∧ NEv 1 (RI .i64) s81 ds160 q156 ∧ q156.length = x52.length ∧ Rep a 90 [(1, .pointer (some ⟨b51, 0, none⟩)), (3, .int .i64 ((x0.Plan).length : Int)), (4, .slice (some ⟨b54, 0, none⟩) x52.length x52.length), (5, .int .i64 ((k60 : Nat) : Int)), (16, .int .i64 ((x52.length : Nat) : Int)), (17, .int .i64 ((k60 : Nat) : Int)), (32, .int .i64 ((x0.Plan).length : Int)), (33, .int .i64 ((k128 : Nat) : Int))] ∧ St w s81 (nestC 22 3 1 (some ⟨b54, 0, none⟩) x52.length x52.length ds160 :: pt b51 (.cells #[.int .i64 x0.Period, .slice a0_0 x0.Plan.length c0_0, .slice a0_1 x0.Links.length c0_1] 25 (0, 0)) :: R)) ?_ ?_
          · refine W.block ?_
            refine W.loop (fun m a w => ∃ (rest149 : List MendLink) (k147 : Nat), ∃ (q156 : List (List Int)), ∃ (ds160 : List In), rest149.length = m ∧ x0.Links.drop k147 = rest149 ∧ Fishref2RoomOf.loop3 x0 k60 rest149 q156 = some q146 ∧ NEv 1 (RI .i64) s81 ds160 q156 ∧ q156.length = x52.length ∧ Rep a 90 [(1, .pointer (some ⟨b51, 0, none⟩)), (3, .int .i64 ((x0.Plan).length : Int)), (4, .slice (some ⟨b54, 0, none⟩) x52.length x52.length), (5, .int .i64 ((k60 : Nat) : Int)), (16, .int .i64 ((x52.length : Nat) : Int)), (17, .int .i64 ((k60 : Nat) : Int)), (32, .int .i64 ((x0.Plan).length : Int)), (33, .int .i64 ((k128 : Nat) : Int)), (36, .slice a0_1 x0.Links.length c0_1), (37, .int .i64 ((x0.Links).length : Int)), (38, .int .i64 ((k147 : Nat) : Int))] ∧ St w s81 (nestC 22 3 1 (some ⟨b54, 0, none⟩) x52.length x52.length ds160 :: pt b51 (.cells #[.int .i64 x0.Period, .slice a0_0 x0.Plan.length c0_0, .slice a0_1 x0.Links.length c0_1] 25 (0, 0)) :: R)) (m := x0.Links.length) ⟨x0.Links, 0, q137, ds141, rfl, rfl, hq145, h142, hn143, hE.pick _ ⟨rfl, rfl, rfl, rfl, rfl, rfl, rfl, rfl, rfl, rfl, rfl, trivial⟩, hS⟩ ?_
            clear hE hS a w hq145; rintro m153 a w ⟨rest149, k147, q156, ds160, rfl, hd150, hq145, h161, hn162, hE, hS⟩
            refine W.gen fun K163 hK163 => ?_
            rcases rest149 with _ | ⟨x148, rest149⟩
            · have hlt151 := drop_nil hd150
              refine W.seq ?_
              refine W.region ?_
              refine WL.vS hS hE (runs_plain rfl) (Gives.p hE rfl) rfl ?_; clear hE a; intro a hE
              refine WL.nil ?_
              refine W.seq ?_
              refine W.condF hE rfl (decide_eq_false (by omega)) ?_
              subst hK163
              refine W.exit rfl ?_
              exact ⟨q156, ds160, Option.some.inj hq145, h161, hn162, hE.pick _ ⟨rfl, rfl, rfl, rfl, rfl, rfl, rfl, rfl, trivial⟩, hS⟩
            · obtain ⟨hlt151, hx152, hd150⟩ := drop_cons hd150
              rw [Fishref2RoomOf.loop3] at hq145
              refine W.seq ?_
              refine W.region ?_
              refine WL.vS hS hE (runs_plain rfl) (Gives.p hE rfl) rfl ?_; clear hE a; intro a hE
              refine WL.nil ?_
              refine W.seq ?_
              refine W.condT hE rfl (decide_eq_true (by omega)) ?_
              refine W.skip ?_
              refine W.seq ?_
              refine W.block ?_
              refine W.seq ?_
              refine W.region ?_
              obtain ⟨cs164, hl165, hR166, hat167⟩ := h0_1.at hx152
              subst hR166
              refine WL.vS hS hE (runs_plain rfl) (Gives.idx hE k147 rfl rfl sl23 rfl hlt151 (h0_1.aok hlt151)) rfl ?_; clear hE a; intro a hE
              refine WL.vS hS hE (runs_plain rfl) (Gives.loadA hE rfl (fun w h => hat167 w _ h) ty36) rfl ?_; clear hE a; intro a hE
              refine WL.alloc hE hS (runs_plain rfl) zr36 rfl ?_; clear hE hS a w; intro b168 a w hE hS
              refine WL.storeI hE hS 0 rfl (MendLink.cells x148) (runs_plain rfl) rfl rfl rfl ty36 rfl rfl rfl rfl ?_; clear hE hS a w; intro a w hE hS
              refine WL.nil ?_
              refine W.seq ?_
              refine W.regionQ (C := fun w => St w s81 (pt b168 (.cells (MendLink.cells x148).toArray 36 (0, 0)) :: nestC 22 3 1 (some ⟨b54, 0, none⟩) x52.length x52.length ds160 :: pt b51 (.cells #[.int .i64 x0.Period, .slice a0_0 x0.Plan.length c0_0, .slice a0_1 x0.Links.length c0_1] 25 (0, 0)) :: R)) mixed (by kernel_rfl) hS.drew ?_
              refine QL.v hE (runs_plain rfl) (Gives.p hE rfl) rfl ?_; clear hE a; intro a hE
              refine QL.v hE (runs_plain rfl) (Gives.p hE rfl) rfl ?_; clear hE a; intro a hE
              obtain ⟨x169, hx170, hq145⟩ := bindS hq145
              obtain ⟨hi171, hlt172, hy173⟩ := gx_some hx170
              obtain ⟨a174, c175, cs176, hd177, hev178⟩ := h161.at hy173
              refine QL.v hE (runs_plain rfl) (Gives.idx hE ((((k60 : Nat) : Int)).toNat) rfl rfl sl40 hi171 (by have := hn162; omega) (hS.nAok 1 rfl (by have := hn162; omega : (((k60 : Nat) : Int)).toNat < x52.length))) rfl ?_; clear hE a; intro a hE
              refine QL.v hE (runs_plain rfl) (Gives.load1 (v := .slice a174 x169.length c175) hE rfl (fun w h => St.nSees h 1 rfl hd177) ty22) rfl ?_; clear hE a; intro a hE
              refine QL.v hE (runs_plain rfl) (Gives.fld hE rfl fl36_0) rfl ?_; clear hE a; intro a hE
              refine QL.v hE (runs_plain rfl) (Gives.loadB hE 0 rfl rfl rfl ty3) rfl ?_; clear hE a; intro a hE
              obtain ⟨x179, hx180, hq145⟩ := bindS hq145
              obtain ⟨hi181, hlt182, hy183⟩ := gx_some hx180
              obtain ⟨vs184, hl185, hR186, hd187, hget188⟩ := hev178.at hy183
              subst hR186
              refine QL.v hE (runs_plain rfl) (Gives.idx hE ((x148.From).toNat) rfl rfl sl22 hi181 hlt182 (hS.nnAok 1 rfl hd177 hlt182)) rfl ?_; clear hE a; intro a hE
              refine QL.v hE (runs_plain rfl) (Gives.load1 hE rfl (fun w h => St.nnSees h 1 rfl hd177 ((x148.From).toNat * 1) _ hget188) ty3) rfl ?_; clear hE a; intro a hE
              refine QL.v hE (runs_plain rfl) (Gives.p hE rfl) rfl ?_; clear hE a; intro a hE
              refine QL.nil ?_; clear hS w; intro w hS
              refine W.seq ?_
              refine W.region ?_
              refine WL.vS hS hE (runs_plain rfl) (Gives.p hE rfl) rfl ?_; clear hE a; intro a hE
              refine WL.vS hS hE (runs_plain rfl) (Gives.p hE rfl) rfl ?_; clear hE a; intro a hE
              refine WL.nil ?_
              obtain ⟨q190, hq189, hq145⟩ := bindS hq145
              refine W.cut (fun a w => ∃ (q193 : List (List Int)), ∃ (ds197 : List In), q193 = q190 ∧ NEv 1 (RI .i64) s81 ds197 q193 ∧ q193.length = x52.length ∧ Rep a 90 [(1, .pointer (some ⟨b51, 0, none⟩)), (3, .int .i64 ((x0.Plan).length : Int)), (4, .slice (some ⟨b54, 0, none⟩) x52.length x52.length), (5, .int .i64 ((k60 : Nat) : Int)), (16, .int .i64 ((x52.length : Nat) : Int)), (17, .int .i64 ((k60 : Nat) : Int)), (32, .int .i64 ((x0.Plan).length : Int)), (33, .int .i64 ((k128 : Nat) : Int)), (36, .slice a0_1 x0.Links.length c0_1), (37, .int .i64 ((x0.Links).length : Int)), (38, .int .i64 ((k147 : Nat) : Int))] ∧ St w s81 (pt b168 (.cells (MendLink.cells x148).toArray 36 (0, 0)) :: nestC 22 3 1 (some ⟨b54, 0, none⟩) x52.length x52.length ds197 :: pt b51 (.cells #[.int .i64 x0.Period, .slice a0_0 x0.Plan.length c0_0, .slice a0_1 x0.Links.length c0_1] 25 (0, 0)) :: R)) ?_ ?_
              · refine W.gen fun K200 hK200 => ?_
                refine W.cond hE rfl (fun hc201 => ?_) (fun hc201 => ?_)
                · replace hq189 := iteT hc201 hq189
                  refine W.seq ?_
                  refine W.region ?_
                  refine WL.vS hS hE (runs_plain rfl) (Gives.p hE rfl) rfl ?_; clear hE a; intro a hE
                  refine WL.vS hS hE (runs_plain rfl) (Gives.loadBA hE 2 rfl rfl ty25) rfl ?_; clear hE a; intro a hE
                  refine WL.vS hS hE (runs_plain rfl) (Gives.loadBA hE 0 rfl rfl ty36) rfl ?_; clear hE a; intro a hE
                  obtain ⟨q202, hq203, hq189⟩ := bindS hq189
                  have hc_ := Fishref2SlackOf_ok hS h0_0 h0_1 hq203
                  refine WL.fnq hE (hc_) (runs_plain rfl) bd52 rfl rfl rfl ?_
                  clear hE hS hc_; rintro e w ⟨rfl, hS⟩; refine ⟨_, rfl, ?_⟩; clear a; intro a hE
                  refine WL.vS hS hE (runs_plain rfl) (Gives.p hE rfl) rfl ?_; clear hE a; intro a hE
                  refine WL.vS hS hE (runs_plain rfl) (Gives.p hE rfl) rfl ?_; clear hE a; intro a hE
                  refine WL.nil ?_
                  refine W.seq ?_
                  obtain ⟨q205, hq204, hq189⟩ := bindS hq189
                  refine W.cut (fun a w => ∃ (q208 : Bool), q208 = q205 ∧ Rep a 90 [(1, .pointer (some ⟨b51, 0, none⟩)), (3, .int .i64 ((x0.Plan).length : Int)), (4, .slice (some ⟨b54, 0, none⟩) x52.length x52.length), (5, .int .i64 ((k60 : Nat) : Int)), (7, .pointer (some ⟨b168, 0, none⟩)), (9, .int .i64 (w64 (x179 + q202))), (16, .int .i64 ((x52.length : Nat) : Int)), (17, .int .i64 ((k60 : Nat) : Int)), (32, .int .i64 ((x0.Plan).length : Int)), (33, .int .i64 ((k128 : Nat) : Int)), (36, .slice a0_1 x0.Links.length c0_1), (37, .int .i64 ((x0.Links).length : Int)), (38, .int .i64 ((k147 : Nat) : Int)), (77, .bool q208)] ∧ St w s81 (pt b168 (.cells (MendLink.cells x148).toArray 36 (0, 0)) :: nestC 22 3 1 (some ⟨b54, 0, none⟩) x52.length x52.length ds160 :: pt b51 (.cells #[.int .i64 x0.Period, .slice a0_0 x0.Plan.length c0_0, .slice a0_1 x0.Links.length c0_1] 25 (0, 0)) :: R)) ?_ ?_
                  · refine W.gen fun K209 hK209 => ?_
                    refine W.regionQ (C := fun w => St w s81 (pt b168 (.cells (MendLink.cells x148).toArray 36 (0, 0)) :: nestC 22 3 1 (some ⟨b54, 0, none⟩) x52.length x52.length ds160 :: pt b51 (.cells #[.int .i64 x0.Period, .slice a0_0 x0.Plan.length c0_0, .slice a0_1 x0.Links.length c0_1] 25 (0, 0)) :: R)) mixed (by kernel_rfl) hS.drew ?_
                    refine QL.v hE (runs_plain rfl) (Gives.p hE rfl) rfl ?_; clear hE a; intro a hE
                    refine QL.v hE (runs_plain rfl) (Gives.p hE rfl) rfl ?_; clear hE a; intro a hE
                    obtain ⟨x210, hx211, hq204⟩ := bindS hq204
                    obtain ⟨hi212, hlt213, hy214⟩ := gx_some hx211
                    obtain ⟨a215, c216, cs217, hd218, hev219⟩ := h161.at hy214
                    refine QL.v hE (runs_plain rfl) (Gives.idx hE ((((k60 : Nat) : Int)).toNat) rfl rfl sl40 hi212 (by have := hn162; omega) (hS.nAok 1 rfl (by have := hn162; omega : (((k60 : Nat) : Int)).toNat < x52.length))) rfl ?_; clear hE a; intro a hE
                    refine QL.v hE (runs_plain rfl) (Gives.load1 (v := .slice a215 x210.length c216) hE rfl (fun w h => St.nSees h 1 rfl hd218) ty22) rfl ?_; clear hE a; intro a hE
                    refine QL.v hE (runs_plain rfl) (Gives.fld hE rfl fl36_1) rfl ?_; clear hE a; intro a hE
                    refine QL.v hE (runs_plain rfl) (Gives.loadB hE 0 rfl rfl rfl ty3) rfl ?_; clear hE a; intro a hE
                    obtain ⟨x220, hx221, hq204⟩ := bindS hq204
                    obtain ⟨hi222, hlt223, hy224⟩ := gx_some hx221
                    obtain ⟨vs225, hl226, hR227, hd228, hget229⟩ := hev219.at hy224
                    subst hR227
                    refine QL.v hE (runs_plain rfl) (Gives.idx hE ((x148.To).toNat) rfl rfl sl22 hi222 hlt223 (hS.nnAok 1 rfl hd218 hlt223)) rfl ?_; clear hE a; intro a hE
                    refine QL.v hE (runs_plain rfl) (Gives.load1 hE rfl (fun w h => St.nnSees h 1 rfl hd218 ((x148.To).toNat * 1) _ hget229) ty3) rfl ?_; clear hE a; intro a hE
                    refine QL.v hE (runs_plain rfl) (Gives.p hE rfl) rfl ?_; clear hE a; intro a hE
                    refine QL.v hE (runs_plain rfl) (Gives.p hE rfl) rfl ?_; clear hE a; intro a hE
                    rcases Bool.eq_false_or_eq_true (decide (x220 < 0)) with hg230 | hg230
                    · replace hq204 := iteT hg230 hq204
                      refine QL.no hE (runs_not hE rfl rfl rfl (by rw [hg230]; decide)) rfl ?_; clear hE a; intro a hE
                      refine QL.no hE (runs_not hE rfl rfl rfl (by rw [hg230]; decide)) rfl ?_; clear hE a; intro a hE
                      refine QL.no hE (runs_not hE rfl rfl rfl (by rw [hg230]; decide)) rfl ?_; clear hE a; intro a hE
                      refine QL.no hE (runs_not hE rfl rfl rfl (by rw [hg230]; decide)) rfl ?_; clear hE a; intro a hE
                      refine QL.no hE (runs_not hE rfl rfl rfl (by rw [hg230]; decide)) rfl ?_; clear hE a; intro a hE
                      refine QL.no hE (runs_not hE rfl rfl rfl (by rw [hg230]; decide)) rfl ?_; clear hE a; intro a hE
                      refine QL.no hE (runs_not hE rfl rfl rfl (by rw [hg230]; decide)) rfl ?_; clear hE a; intro a hE
                      refine QL.no hE (runs_not hE rfl rfl rfl (by rw [hg230]; decide)) rfl ?_; clear hE a; intro a hE
                      refine QL.no hE (runs_not hE rfl rfl rfl (by rw [hg230]; decide)) rfl ?_; clear hE a; intro a hE
                      refine QL.no hE (runs_not hE rfl rfl rfl (by rw [hg230]; decide)) rfl ?_; clear hE a; intro a hE
                      refine QL.v hE (runs_plain rfl) (Gives.pickT hE rfl hg230 rfl) rfl ?_; clear hE a; intro a hE
                      refine QL.nil ?_; clear hS w; intro w hS
                      subst hK209
                      exact ⟨true, Option.some.inj hq204, hE.pick _ ⟨rfl, rfl, rfl, rfl, rfl, rfl, rfl, rfl, rfl, rfl, rfl, rfl, rfl, rfl, trivial⟩, hS⟩
                    · replace hq204 := iteF hg230 hq204
                      refine QL.v hE (runs_if hE rfl rfl rfl hg230) (Gives.p hE rfl) rfl ?_; clear hE a; intro a hE
                      refine QL.v hE (runs_if hE rfl rfl rfl hg230) (Gives.p hE rfl) rfl ?_; clear hE a; intro a hE
                      refine QL.v hE (runs_if hE rfl rfl rfl hg230) (Gives.p hE rfl) rfl ?_; clear hE a; intro a hE
                      obtain ⟨x231, hx232, hq204⟩ := bindS hq204
                      obtain ⟨hi233, hlt234, hy235⟩ := gx_some hx232
                      obtain ⟨a236, c237, cs238, hd239, hev240⟩ := h161.at hy235
                      refine QL.v hE (runs_if hE rfl rfl rfl hg230) (Gives.idx hE ((((k60 : Nat) : Int)).toNat) rfl rfl sl40 hi233 (by have := hn162; omega) (hS.nAok 1 rfl (by have := hn162; omega : (((k60 : Nat) : Int)).toNat < x52.length))) rfl ?_; clear hE a; intro a hE
                      refine QL.v hE (runs_if hE rfl rfl rfl hg230) (Gives.load1 (v := .slice a236 x231.length c237) hE rfl (fun w h => St.nSees h 1 rfl hd239) ty22) rfl ?_; clear hE a; intro a hE
                      refine QL.v hE (runs_if hE rfl rfl rfl hg230) (Gives.fld hE rfl fl36_1) rfl ?_; clear hE a; intro a hE
                      refine QL.v hE (runs_if hE rfl rfl rfl hg230) (Gives.loadB hE 0 rfl rfl rfl ty3) rfl ?_; clear hE a; intro a hE
                      obtain ⟨x241, hx242, hq204⟩ := bindS hq204
                      obtain ⟨hi243, hlt244, hy245⟩ := gx_some hx242
                      obtain ⟨vs246, hl247, hR248, hd249, hget250⟩ := hev240.at hy245
                      subst hR248
                      refine QL.v hE (runs_if hE rfl rfl rfl hg230) (Gives.idx hE ((x148.To).toNat) rfl rfl sl22 hi243 hlt244 (hS.nnAok 1 rfl hd239 hlt244)) rfl ?_; clear hE a; intro a hE
                      refine QL.v hE (runs_if hE rfl rfl rfl hg230) (Gives.load1 hE rfl (fun w h => St.nnSees h 1 rfl hd239 ((x148.To).toNat * 1) _ hget250) ty3) rfl ?_; clear hE a; intro a hE
                      refine QL.v hE (runs_if hE rfl rfl rfl hg230) (Gives.p hE rfl) rfl ?_; clear hE a; intro a hE
                      refine QL.v hE (runs_plain rfl) (Gives.pickF hE rfl hg230 rfl) rfl ?_; clear hE a; intro a hE
                      refine QL.nil ?_; clear hS w; intro w hS
                      subst hK209
                      exact ⟨decide ((w64 (x179 + q202)) < x241), Option.some.inj hq204, hE.pick _ ⟨rfl, rfl, rfl, rfl, rfl, rfl, rfl, rfl, rfl, rfl, rfl, rfl, rfl, rfl, trivial⟩, hS⟩
                  · clear hE hS a w; rintro a w ⟨q208, rfl, hE, hS⟩
                    obtain ⟨q252, hq251, hq189⟩ := bindS hq189
                    refine W.cut (fun a w => ∃ (q255 : List (List Int)), ∃ (ds259 : List In), q255 = q252 ∧ NEv 1 (RI .i64) s81 ds259 q255 ∧ q255.length = x52.length ∧ Rep a 90 [(1, .pointer (some ⟨b51, 0, none⟩)), (3, .int .i64 ((x0.Plan).length : Int)), (4, .slice (some ⟨b54, 0, none⟩) x52.length x52.length), (5, .int .i64 ((k60 : Nat) : Int)), (16, .int .i64 ((x52.length : Nat) : Int)), (17, .int .i64 ((k60 : Nat) : Int)), (32, .int .i64 ((x0.Plan).length : Int)), (33, .int .i64 ((k128 : Nat) : Int)), (36, .slice a0_1 x0.Links.length c0_1), (37, .int .i64 ((x0.Links).length : Int)), (38, .int .i64 ((k147 : Nat) : Int))] ∧ St w s81 (pt b168 (.cells (MendLink.cells x148).toArray 36 (0, 0)) :: nestC 22 3 1 (some ⟨b54, 0, none⟩) x52.length x52.length ds259 :: pt b51 (.cells #[.int .i64 x0.Period, .slice a0_0 x0.Plan.length c0_0, .slice a0_1 x0.Links.length c0_1] 25 (0, 0)) :: R)) ?_ ?_
                    · refine W.gen fun K262 hK262 => ?_
                      refine W.cond hE rfl (fun hc263 => ?_) (fun hc263 => ?_)
                      · replace hq251 := iteT hc263 hq251
                        refine W.gen fun K264 hK264 => ?_
                        refine W.regionE (sel (fun w => St w s81 (pt b168 (.cells (MendLink.cells x148).toArray 36 (0, 0)) :: nestC 22 3 1 (some ⟨b54, 0, none⟩) x52.length x52.length ds160 :: pt b51 (.cells #[.int .i64 x0.Period, .slice a0_0 x0.Plan.length c0_0, .slice a0_1 x0.Links.length c0_1] 25 (0, 0)) :: R)) (fun w => St w s81 (pt b168 (.cells (MendLink.cells x148).toArray 36 (0, 0)) :: pt b51 (.cells #[.int .i64 x0.Period, .slice a0_0 x0.Plan.length c0_0, .slice a0_1 x0.Links.length c0_1] 25 (0, 0)) :: R))) (fun b i => cond b ([0, 1, 2, 3, 4, 5, 6].contains i) ([0, 1, 2, 3, 4, 5, 6, 7, 8].contains i)) mixed ?_
                        replace hS := hS.drew
                        refine Rg.takeP (i := 0) hE rfl (by kernel_rfl) (runs_plain rfl) (Gives.p hE rfl) rfl (tw_sel (fun _ => hS) (fun _ => (hS.dropAt 1))) ?_; clear hE a; intro a hE
                        refine Rg.takeP (i := 1) hE rfl (by kernel_rfl) (runs_plain rfl) (Gives.p hE rfl) rfl (tw_sel (fun _ => hS) (fun _ => (hS.dropAt 1))) ?_; clear hE a; intro a hE
                        obtain ⟨x265, hx266, hq251⟩ := bindS hq251
                        obtain ⟨hi267, hlt268, hy269⟩ := gx_some hx266
                        obtain ⟨a270, c271, cs272, hd273, hev274⟩ := h161.at hy269
                        refine Rg.takeP (i := 2) hE rfl (by kernel_rfl) (runs_plain rfl) (Gives.idx hE ((((k60 : Nat) : Int)).toNat) rfl rfl sl40 hi267 (by have := hn162; omega) (hS.nAok 1 rfl (by have := hn162; omega : (((k60 : Nat) : Int)).toNat < x52.length))) rfl (tw_sel (fun _ => hS) (fun _ => (hS.dropAt 1))) ?_; clear hE a; intro a hE
                        have hT := tw_sel (A := fun w => St w s81 (pt b168 (.cells (MendLink.cells x148).toArray 36 (0, 0)) :: nestC 22 3 1 (some ⟨b54, 0, none⟩) x52.length x52.length ds160 :: pt b51 (.cells #[.int .i64 x0.Period, .slice a0_0 x0.Plan.length c0_0, .slice a0_1 x0.Links.length c0_1] 25 (0, 0)) :: R)) (B := fun w => St w s81 (pt b168 (.cells (MendLink.cells x148).toArray 36 (0, 0)) :: pt b51 (.cells #[.int .i64 x0.Period, .slice a0_0 x0.Plan.length c0_0, .slice a0_1 x0.Links.length c0_1] 25 (0, 0)) :: R)) (w := _) (x := true) (y := true) (fun _ => hS) (fun _ => (hS.dropAt 1))
                        have hF := hS; replace hS := hS
                        refine Rg.take (i := 3) true rfl hE rfl (by kernel_rfl) (runs_plain rfl) (Gives.load1 (v := .slice a270 x265.length c271) hE rfl (fun w h => St.nSees h 1 rfl hd273) ty22) rfl hT ?_; clear hE a; intro a hE
                        replace hS := hF; clear hF hT
                        refine Rg.takeP (i := 4) hE rfl (by kernel_rfl) (runs_plain rfl) (Gives.fld hE rfl fl36_1) rfl (tw_sel (fun _ => hS) (fun _ => (hS.dropAt 1))) ?_; clear hE a; intro a hE
                        have hT := tw_sel (A := fun w => St w s81 (pt b168 (.cells (MendLink.cells x148).toArray 36 (0, 0)) :: nestC 22 3 1 (some ⟨b54, 0, none⟩) x52.length x52.length ds160 :: pt b51 (.cells #[.int .i64 x0.Period, .slice a0_0 x0.Plan.length c0_0, .slice a0_1 x0.Links.length c0_1] 25 (0, 0)) :: R)) (B := fun w => St w s81 (pt b168 (.cells (MendLink.cells x148).toArray 36 (0, 0)) :: pt b51 (.cells #[.int .i64 x0.Period, .slice a0_0 x0.Plan.length c0_0, .slice a0_1 x0.Links.length c0_1] 25 (0, 0)) :: R)) (w := _) (x := true) (y := true) (fun _ => hS) (fun _ => (hS.dropAt 1))
                        have hF := hS; replace hS := hS
                        refine Rg.take (i := 5) true rfl hE rfl (by kernel_rfl) (runs_plain rfl) (Gives.loadB hE 0 rfl rfl rfl ty3) rfl hT ?_; clear hE a; intro a hE
                        replace hS := hF; clear hF hT
                        refine Rg.takeP (i := 6) hE rfl (by kernel_rfl) (runs_plain rfl) (Gives.p hE rfl) rfl (tw_sel (fun _ => hS) (fun _ => (hS.dropAt 1))) ?_; clear hE a; intro a hE
                        refine Rg.one (i := 7) false true rfl (by kernel_rfl) (by kernel_rfl) (by kernel_rfl) ?_
                        replace hS := hS.borrowM 1 rfl hd273
                        obtain ⟨_, hx277, hq251⟩ := bindS hq251
                        obtain ⟨h278, h279⟩ := ix_some hx277
                        refine WL.vS hS hE (runs_plain rfl) (Gives.idx hE ((x148.To).toNat) rfl rfl sl22 h278 (by omega) (hS.vecAok 0 rfl (by omega : (x148.To).toNat < x265.length))) rfl ?_; clear hE a; intro a hE
                        refine WL.nil ?_
                        refine ⟨⟨fun h => absurd h (by decide), fun _ => ((hS.tail).dropAt 1)⟩, ?_⟩
                        refine Rg.one (i := 8) false true rfl (by kernel_rfl) (by kernel_rfl) (by kernel_rfl) ?_
                        obtain ⟨x281, hx282, hq251⟩ := bindS hq251
                        refine WL.setD hE hS 0 rfl (runs_plain rfl) rfl rfl (vs := [.int .i64 (w64 (x179 + q202))]) rfl ty3 rfl rfl rfl hev274 (rfl) (sx_some hx282).1 hx282 rfl rfl ?_; clear hE hS a w; intro cs283 a w h284 hn285 hE hS
                        refine WL.nil ?_
                        refine ⟨⟨fun h => absurd h (by decide), fun _ => ((hS.tail).dropAt 1)⟩, ?_⟩
                        refine Rg.done (by kernel_rfl) ?_
                        subst hK264
                        replace hS := hS.giveBack 1 rfl hd273
                        have h287 := h161.set (k := (((k60 : Nat) : Int)).toNat) (d := ⟨a270, c271, x265.length, cs283⟩) h284 hn285
                        have hn288 : (q156.set ((((k60 : Nat) : Int)).toNat) x281).length = x52.length := by simp; exact hn162
                        generalize List.set ds160 ((((k60 : Nat) : Int)).toNat) _ = ds286 at hS h287
                        subst hK262
                        exact ⟨(q156.set ((((k60 : Nat) : Int)).toNat) x281), ds286, Option.some.inj hq251, h287, hn288, hE.pick _ ⟨rfl, rfl, rfl, rfl, rfl, rfl, rfl, rfl, rfl, rfl, rfl, trivial⟩, hS⟩
                      · replace hq251 := iteF hc263 hq251
                        refine W.skip ?_
                        subst hK262
                        exact ⟨q156, ds160, Option.some.inj hq251, h161, hn162, hE.pick _ ⟨rfl, rfl, rfl, rfl, rfl, rfl, rfl, rfl, rfl, rfl, rfl, trivial⟩, hS⟩
                    · clear hE hS a w; rintro a w ⟨q255, ds259, rfl, h260, hn261, hE, hS⟩
                      subst hK200
                      exact ⟨q255, ds259, Option.some.inj hq189, h260, hn261, hE.pick _ ⟨rfl, rfl, rfl, rfl, rfl, rfl, rfl, rfl, rfl, rfl, rfl, trivial⟩, hS⟩
                · replace hq189 := iteF hc201 hq189
                  refine W.skip ?_
                  subst hK200
                  exact ⟨q156, ds160, Option.some.inj hq189, h161, hn162, hE.pick _ ⟨rfl, rfl, rfl, rfl, rfl, rfl, rfl, rfl, rfl, rfl, rfl, trivial⟩, hS⟩
              · clear hE hS a w; rintro a w ⟨q193, ds197, rfl, h198, hn199, hE, hS⟩
                refine W.region ?_
                refine WL.vS hS hE (runs_plain rfl) (Gives.inc hE rfl (by have := h0_1.small; omega)) rfl ?_; clear hE a; intro a hE
                refine WL.vS hS hE (runs_plain rfl) (Gives.p hE rfl) rfl ?_; clear hE a; intro a hE
                refine WL.nil ?_
                replace hS := hS.tail
                subst hK163
                exact ⟨rest149.length, Nat.lt_succ_self _, rest149, k147 + 1, q193, ds197, rfl, hd150, hq145, h198, hn199, hE.pick _ ⟨rfl, rfl, rfl, rfl, rfl, rfl, rfl, rfl, rfl, rfl, rfl, trivial⟩, hS⟩
          · clear hE hS a w; rintro a w ⟨q156, ds160, rfl, h161, hn162, hE, hS⟩
            refine W.region ?_
            refine WL.vS hS hE (runs_plain rfl) (Gives.inc hE rfl (by have := h0_0.small; omega)) rfl ?_; clear hE a; intro a hE
            refine WL.vS hS hE (runs_plain rfl) (Gives.p hE rfl) rfl ?_; clear hE a; intro a hE
            refine WL.nil ?_
            subst hK144
            exact ⟨rest130.length, Nat.lt_succ_self _, rest130, k128 + 1, q156, ds160, rfl, hd131, hq126, h161, hn162, hE.pick _ ⟨rfl, rfl, rfl, rfl, rfl, rfl, rfl, rfl, trivial⟩, hS⟩
      · clear hE hS a w; rintro a w ⟨q137, ds141, rfl, h142, hn143, hE, hS⟩
        refine W.region ?_
        refine WL.vS hS hE (runs_plain rfl) (Gives.inc hE rfl (by omega)) rfl ?_; clear hE a; intro a hE
        refine WL.vS hS hE (runs_plain rfl) (Gives.p hE rfl) rfl ?_; clear hE a; intro a hE
        refine WL.nil ?_
        subst hK77
        exact ⟨rest62, Nat.lt_succ_self _, rest62, k60 + 1, q137, ds141, s81, rfl, (by omega), (Sg.Le.trans hle68 hle82), hq58, h142, hn143, hE.pick _ ⟨rfl, rfl, rfl, rfl, rfl, trivial⟩, hS⟩
  · clear hE hS a w; rintro a w ⟨q70, ds74, s67, hle68, rfl, h75, hn76, hE, hS⟩
    replace h0_0 := Sl.mono RI.mono hle68 h0_0
    replace h0_1 := Sl.mono RMendLink.mono hle68 h0_1
    replace h56 := NEv.mono RI.mono hle68 h56
    refine W.seq ?_
    refine W.region ?_
    refine WL.vS hS hE (runs_plain rfl) (Gives.p hE rfl) rfl ?_; clear hE a; intro a hE
    refine WL.vS hS hE (runs_plain rfl) (Gives.p hE rfl) rfl ?_; clear hE a; intro a hE
    refine WL.nil ?_
    refine W.ret ?_
    have hF := hS.fixN RI.mono 0 rfl h75 hn76; clear hS; obtain ⟨s289, hle290, hS, h291⟩ := hF
    (try rw [← hn76] at hE)
    (try rw [← hn76] at hS)
    (try rw [← hn76] at h291)
    replace h0_0 := Sl.mono RI.mono hle290 h0_0
    replace h0_1 := Sl.mono RMendLink.mono hle290 h0_1
    refine finG (fn := Try.f35) (rs := [.tmp 2]) (vs := [_]) hE rfl ⟨rfl, trivial⟩ ?_
    obtain rfl := Option.some.inj hr
    replace hS := hS.tail
    exact ⟨(some ⟨b54, 0, none⟩), q70.length, s289, rfl, (Sg.Le.trans hle68 hle290), h291, hS⟩
set_option maxHeartbeats 8000000 in
theorem Fishref2common_ok : ∀ {fu : Nat} {w : World} {s : Sg} {R : List HP} {x0 : Int} {x1 : Int} (_hS : St w s (R))  {r : Int} (_hr : Fishref2common fu x0 x1 = some r),
    Calls Try.prog 86 [.int .i64 x0, .int .i64 x1].toArray w (fun e w => e = .returned (.int .i64 r) ∧ St w s (R)) := by
  intro fu
  induction fu with
  | zero => intro w s R x0 x1 hS  r hr; rw [Fishref2common] at hr; exact absurd hr (by simp)
  | succ fu ih_Fishref2common =>
    intro w s R x0 x1 hS  r hr
    rw [Fishref2common] at hr
    generalize Fishref2common fu = self_Fishref2common at hr ih_Fishref2common
    refine enter Try.func86 rfl rfl rfl fun a hE => ?_
    refine W.seq ?_
    refine W.region ?_
    refine WL.vS hS hE (runs_plain rfl) (Gives.p hE rfl) rfl ?_; clear hE a; intro a hE
    refine WL.nil ?_
    refine W.seq ?_
    refine W.seq ?_
    refine W.region ?_
    refine WL.vS hS hE (runs_plain rfl) (Gives.p hE rfl) rfl ?_; clear hE a; intro a hE
    refine WL.vS hS hE (runs_plain rfl) (Gives.p hE rfl) rfl ?_; clear hE a; intro a hE
    refine WL.nil ?_
    refine W.cond hE rfl (fun hc51 => ?_) (fun hc51 => ?_)
    · replace hr := iteT hc51 hr
      refine W.seq ?_
      refine W.region ?_
      refine WL.vS hS hE (runs_plain rfl) (Gives.p hE rfl) rfl ?_; clear hE a; intro a hE
      refine WL.vS hS hE (runs_plain rfl) (Gives.p hE rfl) rfl ?_; clear hE a; intro a hE
      refine WL.nil ?_
      refine W.ret ?_
      refine finG (fn := Try.f86) (rs := [.tmp 4]) (vs := [_]) hE rfl ⟨rfl, trivial⟩ ?_
      obtain rfl := Option.some.inj hr
      exact ⟨rfl, hS⟩
    · replace hr := iteF hc51 hr
      refine W.skip ?_
      refine W.seq ?_
      refine W.region ?_
      refine WL.vS hS hE (runs_plain rfl) (Gives.p hE rfl) rfl ?_; clear hE a; intro a hE
      refine WL.vS hS hE (runs_plain rfl) (Gives.p hE rfl) rfl ?_; clear hE a; intro a hE
      refine WL.vS hS hE (runs_plain rfl) (Gives.p hE rfl) rfl ?_; clear hE a; intro a hE
      obtain ⟨x52, hx53, hr⟩ := bindS hr
      refine WL.vS hS hE (runs_plain rfl) (Gives.rm hE rfl rfl hx53) rfl ?_; clear hE a; intro a hE
      obtain ⟨q54, hq55, hr⟩ := bindS hr
      have hc_ := ih_Fishref2common hS  hq55
      refine WL.fnq hE (hc_) (runs_plain rfl) bd86 rfl rfl rfl ?_
      clear hE hS hc_; rintro e w ⟨rfl, hS⟩; refine ⟨_, rfl, ?_⟩; clear a; intro a hE
      refine WL.vS hS hE (runs_plain rfl) (Gives.p hE rfl) rfl ?_; clear hE a; intro a hE
      refine WL.nil ?_
      refine W.ret ?_
      refine finG (fn := Try.f86) (rs := [.tmp 4]) (vs := [_]) hE rfl ⟨rfl, trivial⟩ ?_
      obtain rfl := Option.some.inj hr
      exact ⟨rfl, hS⟩
set_option maxHeartbeats 8000000 in
theorem Fishref2Lowest_ok {fu : Nat}  {w : World} {s : Sg} {R : List HP} {x0 : Int} {x1 : Int} (hS : St w s (R))  {r : Int × Int} (hr : Fishref2Lowest fu x0 x1 = some r) :
    Calls Try.prog 58 [.int .i64 x0, .int .i64 x1].toArray w (fun e w => e = .returned (.tuple #[.int .i64 r.1, .int .i64 r.2]) ∧ St w s (R)) := by
  refine enter Try.func58 rfl rfl rfl fun a hE => ?_
  rw [Fishref2Lowest] at hr
  refine W.seq ?_
  refine W.region ?_
  refine WL.vS hS hE (runs_plain rfl) (Gives.p hE rfl) rfl ?_; clear hE a; intro a hE
  refine WL.vS hS hE (runs_plain rfl) (Gives.p hE rfl) rfl ?_; clear hE a; intro a hE
  refine WL.nil ?_
  refine W.seq ?_
  refine W.region ?_
  refine WL.vS hS hE (runs_plain rfl) (Gives.p hE rfl) rfl ?_; clear hE a; intro a hE
  refine WL.vS hS hE (runs_plain rfl) (Gives.p hE rfl) rfl ?_; clear hE a; intro a hE
  obtain ⟨q51, hq52, hr⟩ := bindS hr
  have hc_ := Fishref2common_ok hS  hq52
  refine WL.fnq hE (hc_) (runs_plain rfl) bd86 rfl rfl rfl ?_
  clear hE hS hc_; rintro e w ⟨rfl, hS⟩; refine ⟨_, rfl, ?_⟩; clear a; intro a hE
  refine WL.vS hS hE (runs_plain rfl) (Gives.p hE rfl) rfl ?_; clear hE a; intro a hE
  refine WL.nil ?_
  refine W.seq ?_
  refine W.regionQ (C := fun w => St w s (R)) mixed (by kernel_rfl) hS.drew ?_
  refine QL.v hE (runs_plain rfl) (Gives.p hE rfl) rfl ?_; clear hE a; intro a hE
  refine QL.v hE (runs_plain rfl) (Gives.p hE rfl) rfl ?_; clear hE a; intro a hE
  obtain ⟨x53, hx54, hr⟩ := bindS hr
  refine QL.v hE (runs_plain rfl) (Gives.dv hE rfl rfl hx54) rfl ?_; clear hE a; intro a hE
  refine QL.v hE (runs_plain rfl) (Gives.p hE rfl) rfl ?_; clear hE a; intro a hE
  refine QL.v hE (runs_plain rfl) (Gives.p hE rfl) rfl ?_; clear hE a; intro a hE
  obtain ⟨x55, hx56, hr⟩ := bindS hr
  refine QL.v hE (runs_plain rfl) (Gives.dv hE rfl rfl hx56) rfl ?_; clear hE a; intro a hE
  refine QL.v hE (runs_plain rfl) (Gives.p hE rfl) rfl ?_; clear hE a; intro a hE
  refine QL.v hE (runs_plain rfl) (Gives.p hE rfl) rfl ?_; clear hE a; intro a hE
  refine QL.nil ?_; clear hS w; intro w hS
  refine W.ret ?_
  refine finG (fn := Try.f58) (rs := [.tmp 4, .tmp 5]) (vs := [_, _]) hE rfl ⟨rfl, rfl, trivial⟩ ?_
  obtain rfl := Option.some.inj hr
  exact ⟨rfl, hS⟩
set_option maxHeartbeats 8000000 in
theorem Fishref2MeanOf_ok {fu : Nat}  {w : World} {s : Sg} {R : List HP} {x0 : MendRound} {a0_0 : Option Addr} {c0_0 : Nat} {a0_1 : Option Addr} {c0_1 : Nat} (hS : St w s (R)) (h0_0 : Sl 1 (RI .i64) s a0_0 c0_0 x0.Plan) (h0_1 : Sl 4 RMendLink s a0_1 c0_1 x0.Links) {r : Int × Int × Bool} (hr : Fishref2MeanOf fu x0 = some r) :
    Calls Try.prog 17 [.agg [.int .i64 x0.Period, .slice a0_0 x0.Plan.length c0_0, .slice a0_1 x0.Links.length c0_1].toArray].toArray w (fun e w => e = .returned (.tuple #[.int .i64 r.1, .int .i64 r.2.1, .bool r.2.2]) ∧ St w s (R)) := by
  refine enter Try.func17 rfl rfl rfl fun a hE => ?_
  rw [Fishref2MeanOf] at hr
  refine W.seq ?_
  refine W.region ?_
  refine WL.box hE hS (runs_plain rfl) rfl rfl rfl ?_; clear hE hS a w; intro b51 a w hE hS
  refine WL.vS hS hE (runs_plain rfl) (Gives.p hE rfl) rfl ?_; clear hE a; intro a hE
  refine WL.vS hS hE (runs_plain rfl) (Gives.p hE rfl) rfl ?_; clear hE a; intro a hE
  refine WL.vS hS hE (runs_plain rfl) (Gives.p hE rfl) rfl ?_; clear hE a; intro a hE
  refine WL.nil ?_
  refine W.seq ?_
  refine W.region ?_
  refine WL.vS hS hE (runs_plain rfl) (Gives.fld hE rfl fl25_1) rfl ?_; clear hE a; intro a hE
  refine WL.vS hS hE (runs_plain rfl) (Gives.loadB hE 0 rfl rfl rfl ty22) rfl ?_; clear hE a; intro a hE
  refine WL.vS hS hE (runs_plain rfl) (Gives.len hE rfl sl22) rfl ?_; clear hE a; intro a hE
  refine WL.vS hS hE (runs_plain rfl) (Gives.p hE rfl) rfl ?_; clear hE a; intro a hE
  refine WL.nil ?_
  refine W.seq ?_
  refine W.region ?_
  refine WL.vS hS hE (runs_plain rfl) (Gives.p hE rfl) rfl ?_; clear hE a; intro a hE
  refine WL.vS hS hE (runs_plain rfl) (Gives.p hE rfl) rfl ?_; clear hE a; intro a hE
  refine WL.vS hS hE (runs_plain rfl) (Gives.p hE rfl) rfl ?_; clear hE a; intro a hE
  refine WL.nil ?_
  refine W.seq ?_
  refine W.seq ?_
  refine W.region ?_
  refine WL.vS hS hE (runs_plain rfl) (Gives.p hE rfl) rfl ?_; clear hE a; intro a hE
  refine WL.vS hS hE (runs_plain rfl) (Gives.p hE rfl) rfl ?_; clear hE a; intro a hE
  refine WL.nil ?_
  obtain ⟨q53, hq52, hr⟩ := bindS hr
  refine W.cut (fun a w => ∃ (q63 : Int), ∃ (q64 : Int), ∃ (q65 : Bool), ∃ (s61 : Sg), s.Le s61 ∧ (q63, q64, q65) = q53 ∧ Rep a 163 [(2, .int .i64 q63), (3, .int .i64 q64), (4, .bool q65)] ∧ St w s61 (pt b51 (.cells #[.int .i64 x0.Period, .slice a0_0 x0.Plan.length c0_0, .slice a0_1 x0.Links.length c0_1] 25 (0, 0)) :: R)) ?_ ?_
  · refine W.block ?_
    refine W.loop (fun m a w => ∃ (rest56 : List Int) (k54 : Nat), ∃ (q63 : Int), ∃ (q64 : Int), ∃ (q65 : Bool), ∃ (s61 : Sg), rest56.length = m ∧ x0.Plan.drop k54 = rest56 ∧ s.Le s61 ∧ Fishref2MeanOf.loop1 x0 fu rest56 k54 q63 q64 q65 = some q53 ∧ Rep a 163 [(1, .pointer (some ⟨b51, 0, none⟩)), (2, .int .i64 q63), (3, .int .i64 q64), (4, .bool q65), (5, .int .i64 ((x0.Plan).length : Int)), (6, .int .i64 (w64 (((x0.Plan).length : Int) * 3))), (23, .int .i64 ((x0.Plan).length : Int)), (24, .int .i64 ((k54 : Nat) : Int))] ∧ St w s61 (pt b51 (.cells #[.int .i64 x0.Period, .slice a0_0 x0.Plan.length c0_0, .slice a0_1 x0.Links.length c0_1] 25 (0, 0)) :: R)) (m := x0.Plan.length) ⟨x0.Plan, 0, 0, 0, false, s, rfl, rfl, (Sg.Le.refl _), hq52, hE.pick _ ⟨rfl, rfl, rfl, rfl, rfl, rfl, rfl, rfl, trivial⟩, hS⟩ ?_
    clear hE hS a w hq52; rintro m60 a w ⟨rest56, k54, q63, q64, q65, s61, rfl, hd57, hle62, hq52, hE, hS⟩
    refine W.gen fun K66 hK66 => ?_
    replace h0_0 := Sl.mono RI.mono hle62 h0_0
    replace h0_1 := Sl.mono RMendLink.mono hle62 h0_1
    rcases rest56 with _ | ⟨x55, rest56⟩
    · have hlt58 := drop_nil hd57
      refine W.seq ?_
      refine W.region ?_
      refine WL.vS hS hE (runs_plain rfl) (Gives.p hE rfl) rfl ?_; clear hE a; intro a hE
      refine WL.nil ?_
      refine W.seq ?_
      refine W.condF hE rfl (decide_eq_false (by omega)) ?_
      subst hK66
      refine W.exit rfl ?_
      exact ⟨q63, q64, q65, s61, hle62, Option.some.inj hq52, hE.pick _ ⟨rfl, rfl, rfl, trivial⟩, hS⟩
    · obtain ⟨hlt58, hx59, hd57⟩ := drop_cons hd57
      rw [Fishref2MeanOf.loop1] at hq52
      refine W.seq ?_
      refine W.region ?_
      refine WL.vS hS hE (runs_plain rfl) (Gives.p hE rfl) rfl ?_; clear hE a; intro a hE
      refine WL.nil ?_
      refine W.seq ?_
      refine W.condT hE rfl (decide_eq_true (by omega)) ?_
      refine W.skip ?_
      refine W.seq ?_
      refine W.block ?_
      refine W.seq ?_
      refine W.region ?_
      refine WL.vS hS hE (runs_plain rfl) (Gives.p hE rfl) rfl ?_; clear hE a; intro a hE
      refine WL.vS hS hE (runs_plain rfl) (Gives.p hE rfl) rfl ?_; clear hE a; intro a hE
      refine WL.nil ?_
      refine W.seq ?_
      refine W.region ?_
      refine WL.vS hS hE (runs_plain rfl) (Gives.p hE rfl) rfl ?_; clear hE a; intro a hE
      obtain ⟨x67, hx68, hq52⟩ := bindS hq52
      refine WL.mkND (Rr := RI .i64) (Ti := 3) (es := 1) hE hS (runs_plain rfl) rfl rfl ap40 zr22 hx68 rfl ?_; clear hE hS a w; intro b69 ds70 a w h71 hE hS
      refine WL.vS hS hE (runs_plain rfl) (Gives.p hE rfl) rfl ?_; clear hE a; intro a hE
      refine WL.nil ?_
      refine W.seq ?_
      refine W.seq ?_
      refine W.region ?_
      refine WL.vS hS hE (runs_plain rfl) (Gives.p hE rfl) rfl ?_; clear hE a; intro a hE
      refine WL.vS hS hE (runs_plain rfl) (Gives.len hE rfl sl40) rfl ?_; clear hE a; intro a hE
      refine WL.vS hS hE (runs_plain rfl) (Gives.p hE rfl) rfl ?_; clear hE a; intro a hE
      refine WL.nil ?_
      have hb84 : x67.length ≤ 9223372036854775807 := by have := hS.nCap 0 rfl; unfold maxLen at this; omega
      obtain ⟨q74, hq73, hq52⟩ := bindS hq52
      refine W.cut (fun a w => ∃ (q85 : List (List Int)), ∃ (ds89 : List In), ∃ (s82 : Sg), s61.Le s82 ∧ q85 = q74 ∧ NEv 1 (RI .i64) s82 ds89 q85 ∧ q85.length = x67.length ∧ Rep a 163 [(1, .pointer (some ⟨b51, 0, none⟩)), (2, .int .i64 q63), (3, .int .i64 q64), (4, .bool q65), (5, .int .i64 ((x0.Plan).length : Int)), (6, .int .i64 (w64 (((x0.Plan).length : Int) * 3))), (7, .int .i64 ((k54 : Nat) : Int)), (8, .slice (some ⟨b69, 0, none⟩) x67.length x67.length), (23, .int .i64 ((x0.Plan).length : Int)), (24, .int .i64 ((k54 : Nat) : Int))] ∧ St w s82 (nestC 22 3 1 (some ⟨b69, 0, none⟩) x67.length x67.length ds89 :: pt b51 (.cells #[.int .i64 x0.Period, .slice a0_0 x0.Plan.length c0_0, .slice a0_1 x0.Links.length c0_1] 25 (0, 0)) :: R)) ?_ ?_
      · refine W.block ?_
        refine W.loop (fun m a w => ∃ (rest77 : Nat) (k75 : Nat), ∃ (q85 : List (List Int)), ∃ (ds89 : List In), ∃ (s82 : Sg), rest77 = m ∧ k75 + rest77 = x67.length ∧ s61.Le s82 ∧ Fishref2MeanOf.loop2 x0 fu rest77 k75 q85 = some q74 ∧ NEv 1 (RI .i64) s82 ds89 q85 ∧ q85.length = x67.length ∧ Rep a 163 [(1, .pointer (some ⟨b51, 0, none⟩)), (2, .int .i64 q63), (3, .int .i64 q64), (4, .bool q65), (5, .int .i64 ((x0.Plan).length : Int)), (6, .int .i64 (w64 (((x0.Plan).length : Int) * 3))), (7, .int .i64 ((k54 : Nat) : Int)), (8, .slice (some ⟨b69, 0, none⟩) x67.length x67.length), (23, .int .i64 ((x0.Plan).length : Int)), (24, .int .i64 ((k54 : Nat) : Int)), (30, .int .i64 ((x67.length : Nat) : Int)), (31, .int .i64 ((k75 : Nat) : Int))] ∧ St w s82 (nestC 22 3 1 (some ⟨b69, 0, none⟩) x67.length x67.length ds89 :: pt b51 (.cells #[.int .i64 x0.Period, .slice a0_0 x0.Plan.length c0_0, .slice a0_1 x0.Links.length c0_1] 25 (0, 0)) :: R)) (m := x67.length) ⟨x67.length, 0, x67, ds70, s61, rfl, by omega, (Sg.Le.refl _), hq73, h71, (rfl), hE.pick _ ⟨rfl, rfl, rfl, rfl, rfl, rfl, rfl, rfl, rfl, rfl, rfl, rfl, trivial⟩, hS⟩ ?_
        clear hE hS a w hq73; rintro m81 a w ⟨rest77, k75, q85, ds89, s82, rfl, hd78, hle83, hq73, h90, hn91, hE, hS⟩
        refine W.gen fun K92 hK92 => ?_
        replace h71 := NEv.mono RI.mono hle83 h71
        replace h0_0 := Sl.mono RI.mono hle83 h0_0
        replace h0_1 := Sl.mono RMendLink.mono hle83 h0_1
        rcases rest77 with _ | rest77
        · skip
          refine W.seq ?_
          refine W.region ?_
          refine WL.vS hS hE (runs_plain rfl) (Gives.p hE rfl) rfl ?_; clear hE a; intro a hE
          refine WL.nil ?_
          refine W.seq ?_
          refine W.condF hE rfl (decide_eq_false (by omega)) ?_
          subst hK92
          refine W.exit rfl ?_
          exact ⟨q85, ds89, s82, hle83, Option.some.inj hq73, h90, hn91, hE.pick _ ⟨rfl, rfl, rfl, rfl, rfl, rfl, rfl, rfl, rfl, rfl, trivial⟩, hS⟩
        · have hlt79 : k75 < x67.length := by omega
          rw [Fishref2MeanOf.loop2] at hq73
          refine W.seq ?_
          refine W.region ?_
          refine WL.vS hS hE (runs_plain rfl) (Gives.p hE rfl) rfl ?_; clear hE a; intro a hE
          refine WL.nil ?_
          refine W.seq ?_
          refine W.condT hE rfl (decide_eq_true (by omega)) ?_
          refine W.skip ?_
          refine W.seq ?_
          refine W.block ?_
          refine W.seq ?_
          refine W.region ?_
          refine WL.vS hS hE (runs_plain rfl) (Gives.p hE rfl) rfl ?_; clear hE a; intro a hE
          refine WL.vS hS hE (runs_plain rfl) (Gives.p hE rfl) rfl ?_; clear hE a; intro a hE
          refine WL.nil ?_
          refine W.region ?_
          refine WL.vS hS hE (runs_plain rfl) (Gives.p hE rfl) rfl ?_; clear hE a; intro a hE
          refine WL.vS hS hE (runs_plain rfl) (Gives.p hE rfl) rfl ?_; clear hE a; intro a hE
          refine WL.lit hE hS (e := 3) (es := 1) (vs := [(0, .int .i64 (-1))]) (cs := [.int .i64 (-1)]) (runs_plain rfl) rfl (by kernel_rfl) rfl ?_; clear hE hS a w; intro b93 a w hE hS
          replace hS := hS.ptVec (es := 1) (m := 1) rfl (by decide)
          have h95 : Ev 1 (RI .i64) s82 [.int .i64 (-1)] [(-1)] := (Ev.cons (c1 := [.int .i64 (-1)]) rfl rfl (Ev.nil))
          have hF := hS.fixD RI.mono 0 rfl h95 (rfl); clear hS; obtain ⟨s96, hle97, hS, h98⟩ := hF
          replace h90 := NEv.mono RI.mono hle97 h90
          replace h0_0 := Sl.mono RI.mono hle97 h0_0
          replace h0_1 := Sl.mono RMendLink.mono hle97 h0_1
          refine WL.vS hS hE (runs_plain rfl) (Gives.p hE rfl) rfl ?_; clear hE a; intro a hE
          refine WL.vS hS hE (runs_plain rfl) (Gives.p hE rfl) rfl ?_; clear hE a; intro a hE
          obtain ⟨q99, hq100, hq73⟩ := bindS hq73
          have hc_ := SlicesRepeatLint_ok hS h98 hq100
          refine WL.fnq hE (hc_) (runs_plain rfl) bd57 rfl rfl rfl ?_
          clear hE hS hc_; rintro e w ⟨a101, c102, n103, cs104, rfl, h105, rfl, hS⟩; refine ⟨_, rfl, ?_⟩; clear a; intro a hE
          obtain ⟨_, hx107, hq73⟩ := bindS hq73
          obtain ⟨h108, h109⟩ := ix_some hx107
          refine WL.vS hS hE (runs_plain rfl) (Gives.idx hE ((((k75 : Nat) : Int)).toNat) rfl rfl sl40 h108 (by have := hn91; omega) (hS.nAok 1 rfl (by have := hn91; omega : (((k75 : Nat) : Int)).toNat < x67.length))) rfl ?_; clear hE a; intro a hE
          obtain ⟨d110, hd111⟩ : ∃ d, ds89[(((k75 : Nat) : Int)).toNat]? = some d := ⟨_, List.getElem?_eq_getElem (by have h1 := h90.len; have h2 := hn91; omega)⟩
          replace hS := (hS.borrow 1 rfl hd111).tail
          obtain ⟨x112, hx113, hq73⟩ := bindS hq73
          refine WL.storeND hE hS 0 rfl (runs_plain rfl) rfl rfl ty22 h90 hn91 (by have := (sx_some hx113).1; omega) hx113 h105 rfl rfl ?_; clear hE hS a w; intro ds114 a w h115 hn116 hE hS
          refine WL.nil ?_
          refine W.region ?_
          refine WL.vS hS hE (runs_plain rfl) (Gives.inc hE rfl (by omega)) rfl ?_; clear hE a; intro a hE
          refine WL.vS hS hE (runs_plain rfl) (Gives.p hE rfl) rfl ?_; clear hE a; intro a hE
          refine WL.nil ?_
          subst hK92
          exact ⟨rest77, Nat.lt_succ_self _, rest77, k75 + 1, x112, ds114, s96, rfl, (by omega), (Sg.Le.trans hle83 hle97), hq73, h115, hn116, hE.pick _ ⟨rfl, rfl, rfl, rfl, rfl, rfl, rfl, rfl, rfl, rfl, rfl, rfl, trivial⟩, hS⟩
      · clear hE hS a w; rintro a w ⟨q85, ds89, s82, hle83, rfl, h90, hn91, hE, hS⟩
        replace h71 := NEv.mono RI.mono hle83 h71
        replace h0_0 := Sl.mono RI.mono hle83 h0_0
        replace h0_1 := Sl.mono RMendLink.mono hle83 h0_1
        refine W.seq ?_
        refine W.region ?_
        refine WL.vS hS hE (runs_plain rfl) (Gives.p hE rfl) rfl ?_; clear hE a; intro a hE
        refine WL.vS hS hE (runs_plain rfl) (Gives.p hE rfl) rfl ?_; clear hE a; intro a hE
        obtain ⟨x117, hx118, hq52⟩ := bindS hq52
        obtain ⟨hi119, hlt120, hy121⟩ := gx_some hx118
        obtain ⟨a122, c123, cs124, hd125, hev126⟩ := h90.at hy121
        refine WL.vS hS hE (runs_plain rfl) (Gives.idx hE ((((k54 : Nat) : Int)).toNat) rfl rfl sl40 hi119 (by have := hn91; omega) (hS.nAok 0 rfl (by have := hn91; omega : (((k54 : Nat) : Int)).toNat < x67.length))) rfl ?_; clear hE a; intro a hE
        refine WL.vS hS hE (runs_plain rfl) (Gives.load1 (v := .slice a122 x117.length c123) hE rfl (fun w h => St.nSees h 0 rfl hd125) ty22) rfl ?_; clear hE a; intro a hE
        replace hS := hS.borrowM 0 rfl hd125
        obtain ⟨_, hx129, hq52⟩ := bindS hq52
        obtain ⟨h130, h131⟩ := ix_some hx129
        refine WL.vS hS hE (runs_plain rfl) (Gives.idx hE (((0 : Int)).toNat) rfl rfl sl22 h130 (by omega) (hS.vecAok 0 rfl (by omega : ((0 : Int)).toNat < x117.length))) rfl ?_; clear hE a; intro a hE
        obtain ⟨x133, hx134, hq52⟩ := bindS hq52
        refine WL.setD hE hS 0 rfl (runs_plain rfl) rfl rfl (vs := [.int .i64 0]) rfl ty3 rfl rfl rfl hev126 (rfl) (sx_some hx134).1 hx134 rfl rfl ?_; clear hE hS a w; intro cs135 a w h136 hn137 hE hS
        refine WL.nil ?_
        refine W.seq ?_
        refine W.region ?_
        refine WL.vS hS hE (runs_plain rfl) (Gives.p hE rfl) rfl ?_; clear hE a; intro a hE
        refine WL.vS hS hE (runs_plain rfl) (Gives.p hE rfl) rfl ?_; clear hE a; intro a hE
        refine WL.nil ?_
        replace hS := hS.giveBack 0 rfl hd125
        have h139 := h90.set (k := (((k54 : Nat) : Int)).toNat) (d := ⟨a122, c123, x117.length, cs135⟩) h136 hn137
        have hn140 : (q85.set ((((k54 : Nat) : Int)).toNat) x133).length = x67.length := by simp; exact hn91
        generalize List.set ds89 ((((k54 : Nat) : Int)).toNat) _ = ds138 at hS h139
        obtain ⟨q142, hq141, hq52⟩ := bindS hq52
        refine W.cut (fun a w => ∃ (q152 : Int), ∃ (q153 : Int), ∃ (q154 : Bool), ∃ (q155 : List (List Int)), ∃ (a156 : Option Addr), ∃ (c157 : Nat), ∃ (n158 : Nat), ∃ (ds159 : List In), ∃ (s150 : Sg), s82.Le s150 ∧ (q152, q153, q154, q155) = q142 ∧ NEv 1 (RI .i64) s150 ds159 q155 ∧ q155.length = n158 ∧ Rep a 163 [(1, .pointer (some ⟨b51, 0, none⟩)), (2, .int .i64 q152), (3, .int .i64 q153), (4, .bool q154), (5, .int .i64 ((x0.Plan).length : Int)), (6, .int .i64 (w64 (((x0.Plan).length : Int) * 3))), (23, .int .i64 ((x0.Plan).length : Int)), (24, .int .i64 ((k54 : Nat) : Int))] ∧ St w s150 (nestC 22 3 1 a156 c157 n158 ds159 :: pt b51 (.cells #[.int .i64 x0.Period, .slice a0_0 x0.Plan.length c0_0, .slice a0_1 x0.Links.length c0_1] 25 (0, 0)) :: R)) ?_ ?_
        · refine W.block ?_
          refine W.loop (fun m a w => ∃ (rest145 : List Int) (k143 : Nat), ∃ (q152 : Int), ∃ (q153 : Int), ∃ (q154 : Bool), ∃ (q155 : List (List Int)), ∃ (a156 : Option Addr), ∃ (c157 : Nat), ∃ (n158 : Nat), ∃ (ds159 : List In), ∃ (s150 : Sg), rest145.length = m ∧ x0.Plan.drop k143 = rest145 ∧ s82.Le s150 ∧ Fishref2MeanOf.loop3 x0 fu k54 rest145 q152 q153 q154 q155 = some q142 ∧ NEv 1 (RI .i64) s150 ds159 q155 ∧ q155.length = n158 ∧ Rep a 163 [(1, .pointer (some ⟨b51, 0, none⟩)), (2, .int .i64 q152), (3, .int .i64 q153), (4, .bool q154), (5, .int .i64 ((x0.Plan).length : Int)), (6, .int .i64 (w64 (((x0.Plan).length : Int) * 3))), (7, .int .i64 ((k54 : Nat) : Int)), (8, .slice a156 n158 c157), (23, .int .i64 ((x0.Plan).length : Int)), (24, .int .i64 ((k54 : Nat) : Int)), (47, .int .i64 ((x0.Plan).length : Int)), (48, .int .i64 ((k143 : Nat) : Int))] ∧ St w s150 (nestC 22 3 1 a156 c157 n158 ds159 :: pt b51 (.cells #[.int .i64 x0.Period, .slice a0_0 x0.Plan.length c0_0, .slice a0_1 x0.Links.length c0_1] 25 (0, 0)) :: R)) (m := x0.Plan.length) ⟨x0.Plan, 0, q63, q64, q65, (q85.set ((((k54 : Nat) : Int)).toNat) x133), (some ⟨b69, 0, none⟩), x67.length, x67.length, ds138, s82, rfl, rfl, (Sg.Le.refl _), hq141, h139, hn140, hE.pick _ ⟨rfl, rfl, rfl, rfl, rfl, rfl, rfl, rfl, rfl, rfl, rfl, rfl, trivial⟩, hS⟩ ?_
          clear hE hS a w hq141; rintro m149 a w ⟨rest145, k143, q152, q153, q154, q155, a156, c157, n158, ds159, s150, rfl, hd146, hle151, hq141, h160, rfl, hE, hS⟩
          refine W.gen fun K162 hK162 => ?_
          replace h139 := NEv.mono RI.mono hle151 h139
          replace h0_0 := Sl.mono RI.mono hle151 h0_0
          replace h0_1 := Sl.mono RMendLink.mono hle151 h0_1
          rcases rest145 with _ | ⟨x144, rest145⟩
          · have hlt147 := drop_nil hd146
            refine W.seq ?_
            refine W.region ?_
            refine WL.vS hS hE (runs_plain rfl) (Gives.p hE rfl) rfl ?_; clear hE a; intro a hE
            refine WL.nil ?_
            refine W.seq ?_
            refine W.condF hE rfl (decide_eq_false (by omega)) ?_
            subst hK162
            refine W.exit rfl ?_
            exact ⟨q152, q153, q154, q155, a156, c157, q155.length, ds159, s150, hle151, Option.some.inj hq141, h160, rfl, hE.pick _ ⟨rfl, rfl, rfl, rfl, rfl, rfl, rfl, rfl, trivial⟩, hS⟩
          · obtain ⟨hlt147, hx148, hd146⟩ := drop_cons hd146
            rw [Fishref2MeanOf.loop3] at hq141
            refine W.seq ?_
            refine W.region ?_
            refine WL.vS hS hE (runs_plain rfl) (Gives.p hE rfl) rfl ?_; clear hE a; intro a hE
            refine WL.nil ?_
            refine W.seq ?_
            refine W.condT hE rfl (decide_eq_true (by omega)) ?_
            refine W.skip ?_
            refine W.seq ?_
            refine W.block ?_
            refine W.seq ?_
            refine W.region ?_
            refine WL.vS hS hE (runs_plain rfl) (Gives.p hE rfl) rfl ?_; clear hE a; intro a hE
            obtain ⟨x163, hx164, hq141⟩ := bindS hq141
            refine WL.mkND (Rr := RI .i64) (Ti := 3) (es := 1) hE hS (runs_plain rfl) rfl rfl ap40 zr22 hx164 rfl ?_; clear hE hS a w; intro b165 ds166 a w h167 hE hS
            refine WL.vS hS hE (runs_plain rfl) (Gives.p hE rfl) rfl ?_; clear hE a; intro a hE
            refine WL.nil ?_
            refine W.seq ?_
            refine W.seq ?_
            refine W.region ?_
            refine WL.vS hS hE (runs_plain rfl) (Gives.p hE rfl) rfl ?_; clear hE a; intro a hE
            refine WL.vS hS hE (runs_plain rfl) (Gives.len hE rfl sl40) rfl ?_; clear hE a; intro a hE
            refine WL.vS hS hE (runs_plain rfl) (Gives.p hE rfl) rfl ?_; clear hE a; intro a hE
            refine WL.nil ?_
            have hb180 : x163.length ≤ 9223372036854775807 := by have := hS.nCap 0 rfl; unfold maxLen at this; omega
            obtain ⟨q170, hq169, hq141⟩ := bindS hq141
            refine W.cut (fun a w => ∃ (q181 : List (List Int)), ∃ (ds185 : List In), ∃ (s178 : Sg), s150.Le s178 ∧ q181 = q170 ∧ NEv 1 (RI .i64) s178 ds185 q181 ∧ q181.length = x163.length ∧ Rep a 163 [(1, .pointer (some ⟨b51, 0, none⟩)), (2, .int .i64 q152), (3, .int .i64 q153), (4, .bool q154), (5, .int .i64 ((x0.Plan).length : Int)), (6, .int .i64 (w64 (((x0.Plan).length : Int) * 3))), (7, .int .i64 ((k54 : Nat) : Int)), (8, .slice a156 q155.length c157), (10, .slice (some ⟨b165, 0, none⟩) x163.length x163.length), (23, .int .i64 ((x0.Plan).length : Int)), (24, .int .i64 ((k54 : Nat) : Int)), (47, .int .i64 ((x0.Plan).length : Int)), (48, .int .i64 ((k143 : Nat) : Int))] ∧ St w s178 (nestC 22 3 1 (some ⟨b165, 0, none⟩) x163.length x163.length ds185 :: nestC 22 3 1 a156 c157 q155.length ds159 :: pt b51 (.cells #[.int .i64 x0.Period, .slice a0_0 x0.Plan.length c0_0, .slice a0_1 x0.Links.length c0_1] 25 (0, 0)) :: R)) ?_ ?_
            · refine W.block ?_
              refine W.loop (fun m a w => ∃ (rest173 : Nat) (k171 : Nat), ∃ (q181 : List (List Int)), ∃ (ds185 : List In), ∃ (s178 : Sg), rest173 = m ∧ k171 + rest173 = x163.length ∧ s150.Le s178 ∧ Fishref2MeanOf.loop4 x0 fu rest173 k171 q181 = some q170 ∧ NEv 1 (RI .i64) s178 ds185 q181 ∧ q181.length = x163.length ∧ Rep a 163 [(1, .pointer (some ⟨b51, 0, none⟩)), (2, .int .i64 q152), (3, .int .i64 q153), (4, .bool q154), (5, .int .i64 ((x0.Plan).length : Int)), (6, .int .i64 (w64 (((x0.Plan).length : Int) * 3))), (7, .int .i64 ((k54 : Nat) : Int)), (8, .slice a156 q155.length c157), (10, .slice (some ⟨b165, 0, none⟩) x163.length x163.length), (23, .int .i64 ((x0.Plan).length : Int)), (24, .int .i64 ((k54 : Nat) : Int)), (47, .int .i64 ((x0.Plan).length : Int)), (48, .int .i64 ((k143 : Nat) : Int)), (53, .int .i64 ((x163.length : Nat) : Int)), (54, .int .i64 ((k171 : Nat) : Int))] ∧ St w s178 (nestC 22 3 1 (some ⟨b165, 0, none⟩) x163.length x163.length ds185 :: nestC 22 3 1 a156 c157 q155.length ds159 :: pt b51 (.cells #[.int .i64 x0.Period, .slice a0_0 x0.Plan.length c0_0, .slice a0_1 x0.Links.length c0_1] 25 (0, 0)) :: R)) (m := x163.length) ⟨x163.length, 0, x163, ds166, s150, rfl, by omega, (Sg.Le.refl _), hq169, h167, (rfl), hE.pick _ ⟨rfl, rfl, rfl, rfl, rfl, rfl, rfl, rfl, rfl, rfl, rfl, rfl, rfl, rfl, rfl, trivial⟩, hS⟩ ?_
              clear hE hS a w hq169; rintro m177 a w ⟨rest173, k171, q181, ds185, s178, rfl, hd174, hle179, hq169, h186, hn187, hE, hS⟩
              refine W.gen fun K188 hK188 => ?_
              replace h167 := NEv.mono RI.mono hle179 h167
              replace h160 := NEv.mono RI.mono hle179 h160
              replace h0_0 := Sl.mono RI.mono hle179 h0_0
              replace h0_1 := Sl.mono RMendLink.mono hle179 h0_1
              rcases rest173 with _ | rest173
              · skip
                refine W.seq ?_
                refine W.region ?_
                refine WL.vS hS hE (runs_plain rfl) (Gives.p hE rfl) rfl ?_; clear hE a; intro a hE
                refine WL.nil ?_
                refine W.seq ?_
                refine W.condF hE rfl (decide_eq_false (by omega)) ?_
                subst hK188
                refine W.exit rfl ?_
                exact ⟨q181, ds185, s178, hle179, Option.some.inj hq169, h186, hn187, hE.pick _ ⟨rfl, rfl, rfl, rfl, rfl, rfl, rfl, rfl, rfl, rfl, rfl, rfl, rfl, trivial⟩, hS⟩
              · have hlt175 : k171 < x163.length := by omega
                rw [Fishref2MeanOf.loop4] at hq169
                refine W.seq ?_
                refine W.region ?_
                refine WL.vS hS hE (runs_plain rfl) (Gives.p hE rfl) rfl ?_; clear hE a; intro a hE
                refine WL.nil ?_
                refine W.seq ?_
                refine W.condT hE rfl (decide_eq_true (by omega)) ?_
                refine W.skip ?_
                refine W.seq ?_
                refine W.block ?_
                refine W.seq ?_
                refine W.region ?_
                refine WL.vS hS hE (runs_plain rfl) (Gives.p hE rfl) rfl ?_; clear hE a; intro a hE
                refine WL.vS hS hE (runs_plain rfl) (Gives.p hE rfl) rfl ?_; clear hE a; intro a hE
                refine WL.nil ?_
                refine W.region ?_
                refine WL.vS hS hE (runs_plain rfl) (Gives.p hE rfl) rfl ?_; clear hE a; intro a hE
                refine WL.vS hS hE (runs_plain rfl) (Gives.p hE rfl) rfl ?_; clear hE a; intro a hE
                refine WL.lit hE hS (e := 3) (es := 1) (vs := [(0, .int .i64 (-1))]) (cs := [.int .i64 (-1)]) (runs_plain rfl) rfl (by kernel_rfl) rfl ?_; clear hE hS a w; intro b189 a w hE hS
                replace hS := hS.ptVec (es := 1) (m := 1) rfl (by decide)
                have h191 : Ev 1 (RI .i64) s178 [.int .i64 (-1)] [(-1)] := (Ev.cons (c1 := [.int .i64 (-1)]) rfl rfl (Ev.nil))
                have hF := hS.fixD RI.mono 0 rfl h191 (rfl); clear hS; obtain ⟨s192, hle193, hS, h194⟩ := hF
                replace h186 := NEv.mono RI.mono hle193 h186
                replace h160 := NEv.mono RI.mono hle193 h160
                replace h0_0 := Sl.mono RI.mono hle193 h0_0
                replace h0_1 := Sl.mono RMendLink.mono hle193 h0_1
                refine WL.vS hS hE (runs_plain rfl) (Gives.p hE rfl) rfl ?_; clear hE a; intro a hE
                refine WL.vS hS hE (runs_plain rfl) (Gives.p hE rfl) rfl ?_; clear hE a; intro a hE
                obtain ⟨q195, hq196, hq169⟩ := bindS hq169
                have hc_ := SlicesRepeatLint_ok hS h194 hq196
                refine WL.fnq hE (hc_) (runs_plain rfl) bd57 rfl rfl rfl ?_
                clear hE hS hc_; rintro e w ⟨a197, c198, n199, cs200, rfl, h201, rfl, hS⟩; refine ⟨_, rfl, ?_⟩; clear a; intro a hE
                obtain ⟨_, hx203, hq169⟩ := bindS hq169
                obtain ⟨h204, h205⟩ := ix_some hx203
                refine WL.vS hS hE (runs_plain rfl) (Gives.idx hE ((((k171 : Nat) : Int)).toNat) rfl rfl sl40 h204 (by have := hn187; omega) (hS.nAok 1 rfl (by have := hn187; omega : (((k171 : Nat) : Int)).toNat < x163.length))) rfl ?_; clear hE a; intro a hE
                obtain ⟨d206, hd207⟩ : ∃ d, ds185[(((k171 : Nat) : Int)).toNat]? = some d := ⟨_, List.getElem?_eq_getElem (by have h1 := h186.len; have h2 := hn187; omega)⟩
                replace hS := (hS.borrow 1 rfl hd207).tail
                obtain ⟨x208, hx209, hq169⟩ := bindS hq169
                refine WL.storeND hE hS 0 rfl (runs_plain rfl) rfl rfl ty22 h186 hn187 (by have := (sx_some hx209).1; omega) hx209 h201 rfl rfl ?_; clear hE hS a w; intro ds210 a w h211 hn212 hE hS
                refine WL.nil ?_
                refine W.region ?_
                refine WL.vS hS hE (runs_plain rfl) (Gives.inc hE rfl (by omega)) rfl ?_; clear hE a; intro a hE
                refine WL.vS hS hE (runs_plain rfl) (Gives.p hE rfl) rfl ?_; clear hE a; intro a hE
                refine WL.nil ?_
                subst hK188
                exact ⟨rest173, Nat.lt_succ_self _, rest173, k171 + 1, x208, ds210, s192, rfl, (by omega), (Sg.Le.trans hle179 hle193), hq169, h211, hn212, hE.pick _ ⟨rfl, rfl, rfl, rfl, rfl, rfl, rfl, rfl, rfl, rfl, rfl, rfl, rfl, rfl, rfl, trivial⟩, hS⟩
            · clear hE hS a w; rintro a w ⟨q181, ds185, s178, hle179, rfl, h186, hn187, hE, hS⟩
              replace h167 := NEv.mono RI.mono hle179 h167
              replace h160 := NEv.mono RI.mono hle179 h160
              replace h0_0 := Sl.mono RI.mono hle179 h0_0
              replace h0_1 := Sl.mono RMendLink.mono hle179 h0_1
              refine W.seq ?_
              refine W.seq ?_
              refine W.region ?_
              refine WL.vS hS hE (runs_plain rfl) (Gives.fld hE rfl fl25_2) rfl ?_; clear hE a; intro a hE
              refine WL.vS hS hE (runs_plain rfl) (Gives.loadB hE 2 rfl rfl rfl ty23) rfl ?_; clear hE a; intro a hE
              refine WL.vS hS hE (runs_plain rfl) (Gives.len hE rfl sl23) rfl ?_; clear hE a; intro a hE
              refine WL.vS hS hE (runs_plain rfl) (Gives.p hE rfl) rfl ?_; clear hE a; intro a hE
              refine WL.nil ?_
              obtain ⟨q214, hq213, hq141⟩ := bindS hq141
              refine W.cut (fun a w => ∃ (q224 : List (List Int)), ∃ (ds228 : List In), q224 = q214 ∧ NEv 1 (RI .i64) s178 ds228 q224 ∧ q224.length = x163.length ∧ Rep a 163 [(1, .pointer (some ⟨b51, 0, none⟩)), (2, .int .i64 q152), (3, .int .i64 q153), (4, .bool q154), (5, .int .i64 ((x0.Plan).length : Int)), (6, .int .i64 (w64 (((x0.Plan).length : Int) * 3))), (7, .int .i64 ((k54 : Nat) : Int)), (10, .slice (some ⟨b165, 0, none⟩) x163.length x163.length), (23, .int .i64 ((x0.Plan).length : Int)), (24, .int .i64 ((k54 : Nat) : Int)), (47, .int .i64 ((x0.Plan).length : Int)), (48, .int .i64 ((k143 : Nat) : Int))] ∧ St w s178 (nestC 22 3 1 (some ⟨b165, 0, none⟩) x163.length x163.length ds228 :: nestC 22 3 1 a156 c157 q155.length ds159 :: pt b51 (.cells #[.int .i64 x0.Period, .slice a0_0 x0.Plan.length c0_0, .slice a0_1 x0.Links.length c0_1] 25 (0, 0)) :: R)) ?_ ?_
              · refine W.block ?_
                refine W.loop (fun m a w => ∃ (rest217 : List MendLink) (k215 : Nat), ∃ (q224 : List (List Int)), ∃ (ds228 : List In), rest217.length = m ∧ x0.Links.drop k215 = rest217 ∧ Fishref2MeanOf.loop5 x0 fu q155 rest217 q224 = some q214 ∧ NEv 1 (RI .i64) s178 ds228 q224 ∧ q224.length = x163.length ∧ Rep a 163 [(1, .pointer (some ⟨b51, 0, none⟩)), (2, .int .i64 q152), (3, .int .i64 q153), (4, .bool q154), (5, .int .i64 ((x0.Plan).length : Int)), (6, .int .i64 (w64 (((x0.Plan).length : Int) * 3))), (7, .int .i64 ((k54 : Nat) : Int)), (8, .slice a156 q155.length c157), (10, .slice (some ⟨b165, 0, none⟩) x163.length x163.length), (23, .int .i64 ((x0.Plan).length : Int)), (24, .int .i64 ((k54 : Nat) : Int)), (47, .int .i64 ((x0.Plan).length : Int)), (48, .int .i64 ((k143 : Nat) : Int)), (66, .slice a0_1 x0.Links.length c0_1), (67, .int .i64 ((x0.Links).length : Int)), (68, .int .i64 ((k215 : Nat) : Int))] ∧ St w s178 (nestC 22 3 1 (some ⟨b165, 0, none⟩) x163.length x163.length ds228 :: nestC 22 3 1 a156 c157 q155.length ds159 :: pt b51 (.cells #[.int .i64 x0.Period, .slice a0_0 x0.Plan.length c0_0, .slice a0_1 x0.Links.length c0_1] 25 (0, 0)) :: R)) (m := x0.Links.length) ⟨x0.Links, 0, q181, ds185, rfl, rfl, hq213, h186, hn187, hE.pick _ ⟨rfl, rfl, rfl, rfl, rfl, rfl, rfl, rfl, rfl, rfl, rfl, rfl, rfl, rfl, rfl, rfl, trivial⟩, hS⟩ ?_
                clear hE hS a w hq213; rintro m221 a w ⟨rest217, k215, q224, ds228, rfl, hd218, hq213, h229, hn230, hE, hS⟩
                refine W.gen fun K231 hK231 => ?_
                rcases rest217 with _ | ⟨x216, rest217⟩
                · have hlt219 := drop_nil hd218
                  refine W.seq ?_
                  refine W.region ?_
                  refine WL.vS hS hE (runs_plain rfl) (Gives.p hE rfl) rfl ?_; clear hE a; intro a hE
                  refine WL.nil ?_
                  refine W.seq ?_
                  refine W.condF hE rfl (decide_eq_false (by omega)) ?_
                  subst hK231
                  refine W.exit rfl ?_
                  exact ⟨q224, ds228, Option.some.inj hq213, h229, hn230, hE.pick _ ⟨rfl, rfl, rfl, rfl, rfl, rfl, rfl, rfl, rfl, rfl, rfl, rfl, trivial⟩, hS⟩
                · obtain ⟨hlt219, hx220, hd218⟩ := drop_cons hd218
                  rw [Fishref2MeanOf.loop5] at hq213
                  refine W.seq ?_
                  refine W.region ?_
                  refine WL.vS hS hE (runs_plain rfl) (Gives.p hE rfl) rfl ?_; clear hE a; intro a hE
                  refine WL.nil ?_
                  refine W.seq ?_
                  refine W.condT hE rfl (decide_eq_true (by omega)) ?_
                  refine W.skip ?_
                  refine W.seq ?_
                  refine W.block ?_
                  refine W.seq ?_
                  refine W.region ?_
                  obtain ⟨cs232, hl233, hR234, hat235⟩ := h0_1.at hx220
                  subst hR234
                  refine WL.vS hS hE (runs_plain rfl) (Gives.idx hE k215 rfl rfl sl23 rfl hlt219 (h0_1.aok hlt219)) rfl ?_; clear hE a; intro a hE
                  refine WL.vS hS hE (runs_plain rfl) (Gives.loadA hE rfl (fun w h => hat235 w _ h) ty36) rfl ?_; clear hE a; intro a hE
                  refine WL.alloc hE hS (runs_plain rfl) zr36 rfl ?_; clear hE hS a w; intro b236 a w hE hS
                  refine WL.storeI hE hS 0 rfl (MendLink.cells x216) (runs_plain rfl) rfl rfl rfl ty36 rfl rfl rfl rfl ?_; clear hE hS a w; intro a w hE hS
                  refine WL.nil ?_
                  refine W.seq ?_
                  refine W.region ?_
                  refine WL.vS hS hE (runs_plain rfl) (Gives.p hE rfl) rfl ?_; clear hE a; intro a hE
                  refine WL.vS hS hE (runs_plain rfl) (Gives.p hE rfl) rfl ?_; clear hE a; intro a hE
                  refine WL.vS hS hE (runs_plain rfl) (Gives.fld hE rfl fl36_3) rfl ?_; clear hE a; intro a hE
                  refine WL.vS hS hE (runs_plain rfl) (Gives.loadB hE 0 rfl rfl rfl ty3) rfl ?_; clear hE a; intro a hE
                  refine WL.vS hS hE (runs_plain rfl) (Gives.p hE rfl) rfl ?_; clear hE a; intro a hE
                  refine WL.vS hS hE (runs_plain rfl) (Gives.p hE rfl) rfl ?_; clear hE a; intro a hE
                  refine WL.nil ?_
                  obtain ⟨q249, hq248, hq213⟩ := bindS hq213
                  refine W.cut (fun a w => ∃ (q254 : Int), ∃ (q255 : List (List Int)), ∃ (ds259 : List In), (q254, q255) = q249 ∧ NEv 1 (RI .i64) s178 ds259 q255 ∧ q255.length = x163.length ∧ Rep a 163 [(1, .pointer (some ⟨b51, 0, none⟩)), (2, .int .i64 q152), (3, .int .i64 q153), (4, .bool q154), (5, .int .i64 ((x0.Plan).length : Int)), (6, .int .i64 (w64 (((x0.Plan).length : Int) * 3))), (7, .int .i64 ((k54 : Nat) : Int)), (8, .slice a156 q155.length c157), (10, .slice (some ⟨b165, 0, none⟩) x163.length x163.length), (23, .int .i64 ((x0.Plan).length : Int)), (24, .int .i64 ((k54 : Nat) : Int)), (47, .int .i64 ((x0.Plan).length : Int)), (48, .int .i64 ((k143 : Nat) : Int)), (66, .slice a0_1 x0.Links.length c0_1), (67, .int .i64 ((x0.Links).length : Int)), (68, .int .i64 ((k215 : Nat) : Int))] ∧ St w s178 (pt b236 (.cells (MendLink.cells x216).toArray 36 (0, 0)) :: nestC 22 3 1 (some ⟨b165, 0, none⟩) x163.length x163.length ds259 :: nestC 22 3 1 a156 c157 q155.length ds159 :: pt b51 (.cells #[.int .i64 x0.Period, .slice a0_0 x0.Plan.length c0_0, .slice a0_1 x0.Links.length c0_1] 25 (0, 0)) :: R)) ?_ ?_
                  · refine W.block ?_
                    refine W.loop (fun m a w => ∃ (n250 : Nat), ∃ (q254 : Int), ∃ (q255 : List (List Int)), ∃ (ds259 : List In), n250 = m ∧ Fishref2MeanOf.loop7 x0 q155 x216 n250 q254 q255 = some q249 ∧ NEv 1 (RI .i64) s178 ds259 q255 ∧ q255.length = x163.length ∧ Rep a 163 [(1, .pointer (some ⟨b51, 0, none⟩)), (2, .int .i64 q152), (3, .int .i64 q153), (4, .bool q154), (5, .int .i64 ((x0.Plan).length : Int)), (6, .int .i64 (w64 (((x0.Plan).length : Int) * 3))), (7, .int .i64 ((k54 : Nat) : Int)), (8, .slice a156 q155.length c157), (10, .slice (some ⟨b165, 0, none⟩) x163.length x163.length), (13, .pointer (some ⟨b236, 0, none⟩)), (23, .int .i64 ((x0.Plan).length : Int)), (24, .int .i64 ((k54 : Nat) : Int)), (47, .int .i64 ((x0.Plan).length : Int)), (48, .int .i64 ((k143 : Nat) : Int)), (66, .slice a0_1 x0.Links.length c0_1), (67, .int .i64 ((x0.Links).length : Int)), (68, .int .i64 ((k215 : Nat) : Int)), (76, .int .i64 (w64 ((w64 ((w64 (((x0.Plan).length : Int) * 3)) + 1)) - x216.Back))), (77, .int .i64 q254)] ∧ St w s178 (pt b236 (.cells (MendLink.cells x216).toArray 36 (0, 0)) :: nestC 22 3 1 (some ⟨b165, 0, none⟩) x163.length x163.length ds259 :: nestC 22 3 1 a156 c157 q155.length ds159 :: pt b51 (.cells #[.int .i64 x0.Period, .slice a0_0 x0.Plan.length c0_0, .slice a0_1 x0.Links.length c0_1] 25 (0, 0)) :: R)) (m := fu) ⟨fu, 0, q224, ds228, rfl, hq248, h229, hn230, hE.pick _ ⟨rfl, rfl, rfl, rfl, rfl, rfl, rfl, rfl, rfl, rfl, rfl, rfl, rfl, rfl, rfl, rfl, rfl, rfl, rfl, trivial⟩, hS⟩ ?_
                    clear hE hS a w hq248; rintro m251 a w ⟨n250, q254, q255, ds259, rfl, hq248, h260, hn261, hE, hS⟩
                    refine W.gen fun K262 hK262 => ?_
                    rcases n250 with _ | n250
                    · rw [Fishref2MeanOf.loop7] at hq248; exact absurd hq248 (by simp)
                    rw [Fishref2MeanOf.loop7] at hq248
                    refine W.seq ?_
                    refine W.region ?_
                    refine WL.vS hS hE (runs_plain rfl) (Gives.p hE rfl) rfl ?_; clear hE a; intro a hE
                    refine WL.nil ?_
                    refine W.seq ?_
                    refine W.cond hE rfl (fun hc263 => ?_) (fun hc263 => ?_)
                    · replace hq248 := iteT hc263 hq248
                      refine W.skip ?_
                      refine W.seq ?_
                      refine W.block ?_
                      refine W.seq ?_
                      refine W.region ?_
                      refine WL.vS hS hE (runs_plain rfl) (Gives.p hE rfl) rfl ?_; clear hE a; intro a hE
                      refine WL.vS hS hE (runs_plain rfl) (Gives.p hE rfl) rfl ?_; clear hE a; intro a hE
                      refine WL.nil ?_
                      refine W.seq ?_
                      refine W.region ?_
                      refine WL.vS hS hE (runs_plain rfl) (Gives.p hE rfl) rfl ?_; clear hE a; intro a hE
                      refine WL.vS hS hE (runs_plain rfl) (Gives.fld hE rfl fl36_0) rfl ?_; clear hE a; intro a hE
                      refine WL.vS hS hE (runs_plain rfl) (Gives.loadB hE 0 rfl rfl rfl ty3) rfl ?_; clear hE a; intro a hE
                      obtain ⟨x264, hx265, hq248⟩ := bindS hq248
                      obtain ⟨hi266, hlt267, hy268⟩ := gx_some hx265
                      obtain ⟨a269, c270, cs271, hd272, hev273⟩ := h160.at hy268
                      refine WL.vS hS hE (runs_plain rfl) (Gives.idx hE ((x216.From).toNat) rfl rfl sl40 hi266 (by omega) (hS.nAok 2 rfl (by omega : (x216.From).toNat < q155.length))) rfl ?_; clear hE a; intro a hE
                      refine WL.vS hS hE (runs_plain rfl) (Gives.load1 (v := .slice a269 x264.length c270) hE rfl (fun w h => St.nSees h 2 rfl hd272) ty22) rfl ?_; clear hE a; intro a hE
                      refine WL.vS hS hE (runs_plain rfl) (Gives.p hE rfl) rfl ?_; clear hE a; intro a hE
                      obtain ⟨x274, hx275, hq248⟩ := bindS hq248
                      obtain ⟨hi276, hlt277, hy278⟩ := gx_some hx275
                      obtain ⟨vs279, hl280, hR281, hd282, hget283⟩ := hev273.at hy278
                      subst hR281
                      refine WL.vS hS hE (runs_plain rfl) (Gives.idx hE ((q254).toNat) rfl rfl sl22 hi276 hlt277 (hS.nnAok 2 rfl hd272 hlt277)) rfl ?_; clear hE a; intro a hE
                      refine WL.vS hS hE (runs_plain rfl) (Gives.load1 hE rfl (fun w h => St.nnSees h 2 rfl hd272 ((q254).toNat * 1) _ hget283) ty3) rfl ?_; clear hE a; intro a hE
                      refine WL.vS hS hE (runs_plain rfl) (Gives.p hE rfl) rfl ?_; clear hE a; intro a hE
                      refine WL.nil ?_
                      refine W.seq ?_
                      refine W.region ?_
                      refine WL.vS hS hE (runs_plain rfl) (Gives.p hE rfl) rfl ?_; clear hE a; intro a hE
                      refine WL.vS hS hE (runs_plain rfl) (Gives.p hE rfl) rfl ?_; clear hE a; intro a hE
                      refine WL.nil ?_
                      obtain ⟨q285, hq284, hq248⟩ := bindS hq248
                      refine W.cut (fun a w => ∃ (q288 : List (List Int)), ∃ (ds292 : List In), q288 = q285 ∧ NEv 1 (RI .i64) s178 ds292 q288 ∧ q288.length = x163.length ∧ Rep a 163 [(1, .pointer (some ⟨b51, 0, none⟩)), (2, .int .i64 q152), (3, .int .i64 q153), (4, .bool q154), (5, .int .i64 ((x0.Plan).length : Int)), (6, .int .i64 (w64 (((x0.Plan).length : Int) * 3))), (7, .int .i64 ((k54 : Nat) : Int)), (8, .slice a156 q155.length c157), (10, .slice (some ⟨b165, 0, none⟩) x163.length x163.length), (13, .pointer (some ⟨b236, 0, none⟩)), (23, .int .i64 ((x0.Plan).length : Int)), (24, .int .i64 ((k54 : Nat) : Int)), (47, .int .i64 ((x0.Plan).length : Int)), (48, .int .i64 ((k143 : Nat) : Int)), (66, .slice a0_1 x0.Links.length c0_1), (67, .int .i64 ((x0.Links).length : Int)), (68, .int .i64 ((k215 : Nat) : Int)), (76, .int .i64 (w64 ((w64 ((w64 (((x0.Plan).length : Int) * 3)) + 1)) - x216.Back))), (77, .int .i64 q254)] ∧ St w s178 (pt b236 (.cells (MendLink.cells x216).toArray 36 (0, 0)) :: nestC 22 3 1 (some ⟨b165, 0, none⟩) x163.length x163.length ds292 :: nestC 22 3 1 a156 c157 q155.length ds159 :: pt b51 (.cells #[.int .i64 x0.Period, .slice a0_0 x0.Plan.length c0_0, .slice a0_1 x0.Links.length c0_1] 25 (0, 0)) :: R)) ?_ ?_
                      · refine W.gen fun K295 hK295 => ?_
                        refine W.cond hE rfl (fun hc296 => ?_) (fun hc296 => ?_)
                        · replace hq284 := iteT hc296 hq284
                          refine W.gen fun K297 hK297 => ?_
                          refine W.regionE (sel (fun w => St w s178 (pt b236 (.cells (MendLink.cells x216).toArray 36 (0, 0)) :: nestC 22 3 1 (some ⟨b165, 0, none⟩) x163.length x163.length ds259 :: nestC 22 3 1 a156 c157 q155.length ds159 :: pt b51 (.cells #[.int .i64 x0.Period, .slice a0_0 x0.Plan.length c0_0, .slice a0_1 x0.Links.length c0_1] 25 (0, 0)) :: R)) (fun w => St w s178 (pt b236 (.cells (MendLink.cells x216).toArray 36 (0, 0)) :: nestC 22 3 1 a156 c157 q155.length ds159 :: pt b51 (.cells #[.int .i64 x0.Period, .slice a0_0 x0.Plan.length c0_0, .slice a0_1 x0.Links.length c0_1] 25 (0, 0)) :: R))) (fun b i => cond b ([0, 1, 2, 3, 4, 5, 6, 7, 8, 9, 10, 11, 12, 13, 14, 15, 16, 17, 18, 19, 20, 21, 22, 23, 24].contains i) ([0, 1, 2, 3, 4, 5, 6, 7, 8, 9, 10, 11, 12, 13, 14, 15, 16, 17, 18, 19, 20, 21, 22, 23, 24, 25, 26].contains i)) mixed ?_
                          replace hS := hS.drew
                          refine Rg.takeP (i := 0) hE rfl (by kernel_rfl) (runs_plain rfl) (Gives.p hE rfl) rfl (tw_sel (fun _ => hS) (fun _ => (hS.dropAt 1))) ?_; clear hE a; intro a hE
                          refine Rg.takeP (i := 1) hE rfl (by kernel_rfl) (runs_plain rfl) (Gives.fld hE rfl fl36_1) rfl (tw_sel (fun _ => hS) (fun _ => (hS.dropAt 1))) ?_; clear hE a; intro a hE
                          have hT := tw_sel (A := fun w => St w s178 (pt b236 (.cells (MendLink.cells x216).toArray 36 (0, 0)) :: nestC 22 3 1 (some ⟨b165, 0, none⟩) x163.length x163.length ds259 :: nestC 22 3 1 a156 c157 q155.length ds159 :: pt b51 (.cells #[.int .i64 x0.Period, .slice a0_0 x0.Plan.length c0_0, .slice a0_1 x0.Links.length c0_1] 25 (0, 0)) :: R)) (B := fun w => St w s178 (pt b236 (.cells (MendLink.cells x216).toArray 36 (0, 0)) :: nestC 22 3 1 a156 c157 q155.length ds159 :: pt b51 (.cells #[.int .i64 x0.Period, .slice a0_0 x0.Plan.length c0_0, .slice a0_1 x0.Links.length c0_1] 25 (0, 0)) :: R)) (w := _) (x := true) (y := true) (fun _ => hS) (fun _ => (hS.dropAt 1))
                          have hF := hS; replace hS := hS
                          refine Rg.take (i := 2) true rfl hE rfl (by kernel_rfl) (runs_plain rfl) (Gives.loadB hE 0 rfl rfl rfl ty3) rfl hT ?_; clear hE a; intro a hE
                          replace hS := hF; clear hF hT
                          obtain ⟨x298, hx299, hq284⟩ := bindS hq284
                          obtain ⟨hi300, hlt301, hy302⟩ := gx_some hx299
                          obtain ⟨a303, c304, cs305, hd306, hev307⟩ := h260.at hy302
                          refine Rg.takeP (i := 3) hE rfl (by kernel_rfl) (runs_plain rfl) (Gives.idx hE ((x216.To).toNat) rfl rfl sl40 hi300 (by have := hn261; omega) (hS.nAok 1 rfl (by have := hn261; omega : (x216.To).toNat < x163.length))) rfl (tw_sel (fun _ => hS) (fun _ => (hS.dropAt 1))) ?_; clear hE a; intro a hE
                          have hT := tw_sel (A := fun w => St w s178 (pt b236 (.cells (MendLink.cells x216).toArray 36 (0, 0)) :: nestC 22 3 1 (some ⟨b165, 0, none⟩) x163.length x163.length ds259 :: nestC 22 3 1 a156 c157 q155.length ds159 :: pt b51 (.cells #[.int .i64 x0.Period, .slice a0_0 x0.Plan.length c0_0, .slice a0_1 x0.Links.length c0_1] 25 (0, 0)) :: R)) (B := fun w => St w s178 (pt b236 (.cells (MendLink.cells x216).toArray 36 (0, 0)) :: nestC 22 3 1 a156 c157 q155.length ds159 :: pt b51 (.cells #[.int .i64 x0.Period, .slice a0_0 x0.Plan.length c0_0, .slice a0_1 x0.Links.length c0_1] 25 (0, 0)) :: R)) (w := _) (x := true) (y := true) (fun _ => hS) (fun _ => (hS.dropAt 1))
                          have hF := hS; replace hS := hS
                          refine Rg.take (i := 4) true rfl hE rfl (by kernel_rfl) (runs_plain rfl) (Gives.load1 (v := .slice a303 x298.length c304) hE rfl (fun w h => St.nSees h 1 rfl hd306) ty22) rfl hT ?_; clear hE a; intro a hE
                          replace hS := hF; clear hF hT
                          refine Rg.takeP (i := 5) hE rfl (by kernel_rfl) (runs_plain rfl) (Gives.p hE rfl) rfl (tw_sel (fun _ => hS) (fun _ => (hS.dropAt 1))) ?_; clear hE a; intro a hE
                          refine Rg.takeP (i := 6) hE rfl (by kernel_rfl) (runs_plain rfl) (Gives.fld hE rfl fl36_3) rfl (tw_sel (fun _ => hS) (fun _ => (hS.dropAt 1))) ?_; clear hE a; intro a hE
                          have hT := tw_sel (A := fun w => St w s178 (pt b236 (.cells (MendLink.cells x216).toArray 36 (0, 0)) :: nestC 22 3 1 (some ⟨b165, 0, none⟩) x163.length x163.length ds259 :: nestC 22 3 1 a156 c157 q155.length ds159 :: pt b51 (.cells #[.int .i64 x0.Period, .slice a0_0 x0.Plan.length c0_0, .slice a0_1 x0.Links.length c0_1] 25 (0, 0)) :: R)) (B := fun w => St w s178 (pt b236 (.cells (MendLink.cells x216).toArray 36 (0, 0)) :: nestC 22 3 1 a156 c157 q155.length ds159 :: pt b51 (.cells #[.int .i64 x0.Period, .slice a0_0 x0.Plan.length c0_0, .slice a0_1 x0.Links.length c0_1] 25 (0, 0)) :: R)) (w := _) (x := true) (y := true) (fun _ => hS) (fun _ => (hS.dropAt 1))
                          have hF := hS; replace hS := hS
                          refine Rg.take (i := 7) true rfl hE rfl (by kernel_rfl) (runs_plain rfl) (Gives.loadB hE 0 rfl rfl rfl ty3) rfl hT ?_; clear hE a; intro a hE
                          replace hS := hF; clear hF hT
                          refine Rg.takeP (i := 8) hE rfl (by kernel_rfl) (runs_plain rfl) (Gives.p hE rfl) rfl (tw_sel (fun _ => hS) (fun _ => (hS.dropAt 1))) ?_; clear hE a; intro a hE
                          refine Rg.takeP (i := 9) hE rfl (by kernel_rfl) (runs_plain rfl) (Gives.p hE rfl) rfl (tw_sel (fun _ => hS) (fun _ => (hS.dropAt 1))) ?_; clear hE a; intro a hE
                          refine Rg.takeP (i := 10) hE rfl (by kernel_rfl) (runs_plain rfl) (Gives.fld hE rfl fl36_1) rfl (tw_sel (fun _ => hS) (fun _ => (hS.dropAt 1))) ?_; clear hE a; intro a hE
                          have hT := tw_sel (A := fun w => St w s178 (pt b236 (.cells (MendLink.cells x216).toArray 36 (0, 0)) :: nestC 22 3 1 (some ⟨b165, 0, none⟩) x163.length x163.length ds259 :: nestC 22 3 1 a156 c157 q155.length ds159 :: pt b51 (.cells #[.int .i64 x0.Period, .slice a0_0 x0.Plan.length c0_0, .slice a0_1 x0.Links.length c0_1] 25 (0, 0)) :: R)) (B := fun w => St w s178 (pt b236 (.cells (MendLink.cells x216).toArray 36 (0, 0)) :: nestC 22 3 1 a156 c157 q155.length ds159 :: pt b51 (.cells #[.int .i64 x0.Period, .slice a0_0 x0.Plan.length c0_0, .slice a0_1 x0.Links.length c0_1] 25 (0, 0)) :: R)) (w := _) (x := true) (y := true) (fun _ => hS) (fun _ => (hS.dropAt 1))
                          have hF := hS; replace hS := hS
                          refine Rg.take (i := 11) true rfl hE rfl (by kernel_rfl) (runs_plain rfl) (Gives.loadB hE 0 rfl rfl rfl ty3) rfl hT ?_; clear hE a; intro a hE
                          replace hS := hF; clear hF hT
                          obtain ⟨x308, hx309, hq284⟩ := bindS hq284
                          obtain ⟨hi310, hlt311, hy312⟩ := gx_some hx309
                          obtain ⟨a313, c314, cs315, hd316, hev317⟩ := h260.at hy312
                          refine Rg.takeP (i := 12) hE rfl (by kernel_rfl) (runs_plain rfl) (Gives.idx hE ((x216.To).toNat) rfl rfl sl40 hi310 (by have := hn261; omega) (hS.nAok 1 rfl (by have := hn261; omega : (x216.To).toNat < x163.length))) rfl (tw_sel (fun _ => hS) (fun _ => (hS.dropAt 1))) ?_; clear hE a; intro a hE
                          have hT := tw_sel (A := fun w => St w s178 (pt b236 (.cells (MendLink.cells x216).toArray 36 (0, 0)) :: nestC 22 3 1 (some ⟨b165, 0, none⟩) x163.length x163.length ds259 :: nestC 22 3 1 a156 c157 q155.length ds159 :: pt b51 (.cells #[.int .i64 x0.Period, .slice a0_0 x0.Plan.length c0_0, .slice a0_1 x0.Links.length c0_1] 25 (0, 0)) :: R)) (B := fun w => St w s178 (pt b236 (.cells (MendLink.cells x216).toArray 36 (0, 0)) :: nestC 22 3 1 a156 c157 q155.length ds159 :: pt b51 (.cells #[.int .i64 x0.Period, .slice a0_0 x0.Plan.length c0_0, .slice a0_1 x0.Links.length c0_1] 25 (0, 0)) :: R)) (w := _) (x := true) (y := true) (fun _ => hS) (fun _ => (hS.dropAt 1))
                          have hF := hS; replace hS := hS
                          refine Rg.take (i := 13) true rfl hE rfl (by kernel_rfl) (runs_plain rfl) (Gives.load1 (v := .slice a313 x308.length c314) hE rfl (fun w h => St.nSees h 1 rfl hd316) ty22) rfl hT ?_; clear hE a; intro a hE
                          replace hS := hF; clear hF hT
                          refine Rg.takeP (i := 14) hE rfl (by kernel_rfl) (runs_plain rfl) (Gives.p hE rfl) rfl (tw_sel (fun _ => hS) (fun _ => (hS.dropAt 1))) ?_; clear hE a; intro a hE
                          refine Rg.takeP (i := 15) hE rfl (by kernel_rfl) (runs_plain rfl) (Gives.fld hE rfl fl36_3) rfl (tw_sel (fun _ => hS) (fun _ => (hS.dropAt 1))) ?_; clear hE a; intro a hE
                          have hT := tw_sel (A := fun w => St w s178 (pt b236 (.cells (MendLink.cells x216).toArray 36 (0, 0)) :: nestC 22 3 1 (some ⟨b165, 0, none⟩) x163.length x163.length ds259 :: nestC 22 3 1 a156 c157 q155.length ds159 :: pt b51 (.cells #[.int .i64 x0.Period, .slice a0_0 x0.Plan.length c0_0, .slice a0_1 x0.Links.length c0_1] 25 (0, 0)) :: R)) (B := fun w => St w s178 (pt b236 (.cells (MendLink.cells x216).toArray 36 (0, 0)) :: nestC 22 3 1 a156 c157 q155.length ds159 :: pt b51 (.cells #[.int .i64 x0.Period, .slice a0_0 x0.Plan.length c0_0, .slice a0_1 x0.Links.length c0_1] 25 (0, 0)) :: R)) (w := _) (x := true) (y := true) (fun _ => hS) (fun _ => (hS.dropAt 1))
                          have hF := hS; replace hS := hS
                          refine Rg.take (i := 16) true rfl hE rfl (by kernel_rfl) (runs_plain rfl) (Gives.loadB hE 0 rfl rfl rfl ty3) rfl hT ?_; clear hE a; intro a hE
                          replace hS := hF; clear hF hT
                          refine Rg.takeP (i := 17) hE rfl (by kernel_rfl) (runs_plain rfl) (Gives.p hE rfl) rfl (tw_sel (fun _ => hS) (fun _ => (hS.dropAt 1))) ?_; clear hE a; intro a hE
                          obtain ⟨x318, hx319, hq284⟩ := bindS hq284
                          obtain ⟨hi320, hlt321, hy322⟩ := gx_some hx319
                          obtain ⟨vs323, hl324, hR325, hd326, hget327⟩ := hev317.at hy322
                          subst hR325
                          refine Rg.takeP (i := 18) hE rfl (by kernel_rfl) (runs_plain rfl) (Gives.idx hE ((w64 (q254 + x216.Back)).toNat) rfl rfl sl22 hi320 hlt321 (hS.nnAok 1 rfl hd316 hlt321)) rfl (tw_sel (fun _ => hS) (fun _ => (hS.dropAt 1))) ?_; clear hE a; intro a hE
                          have hT := tw_sel (A := fun w => St w s178 (pt b236 (.cells (MendLink.cells x216).toArray 36 (0, 0)) :: nestC 22 3 1 (some ⟨b165, 0, none⟩) x163.length x163.length ds259 :: nestC 22 3 1 a156 c157 q155.length ds159 :: pt b51 (.cells #[.int .i64 x0.Period, .slice a0_0 x0.Plan.length c0_0, .slice a0_1 x0.Links.length c0_1] 25 (0, 0)) :: R)) (B := fun w => St w s178 (pt b236 (.cells (MendLink.cells x216).toArray 36 (0, 0)) :: nestC 22 3 1 a156 c157 q155.length ds159 :: pt b51 (.cells #[.int .i64 x0.Period, .slice a0_0 x0.Plan.length c0_0, .slice a0_1 x0.Links.length c0_1] 25 (0, 0)) :: R)) (w := _) (x := true) (y := true) (fun _ => hS) (fun _ => (hS.dropAt 1))
                          have hF := hS; replace hS := hS
                          refine Rg.take (i := 19) true rfl hE rfl (by kernel_rfl) (runs_plain rfl) (Gives.load1 hE rfl (fun w h => St.nnSees h 1 rfl hd316 ((w64 (q254 + x216.Back)).toNat * 1) _ hget327) ty3) rfl hT ?_; clear hE a; intro a hE
                          replace hS := hF; clear hF hT
                          refine Rg.takeP (i := 20) hE rfl (by kernel_rfl) (runs_plain rfl) (Gives.p hE rfl) rfl (tw_sel (fun _ => hS) (fun _ => (hS.dropAt 1))) ?_; clear hE a; intro a hE
                          refine Rg.takeP (i := 21) hE rfl (by kernel_rfl) (runs_plain rfl) (Gives.fld hE rfl fl36_2) rfl (tw_sel (fun _ => hS) (fun _ => (hS.dropAt 1))) ?_; clear hE a; intro a hE
                          have hT := tw_sel (A := fun w => St w s178 (pt b236 (.cells (MendLink.cells x216).toArray 36 (0, 0)) :: nestC 22 3 1 (some ⟨b165, 0, none⟩) x163.length x163.length ds259 :: nestC 22 3 1 a156 c157 q155.length ds159 :: pt b51 (.cells #[.int .i64 x0.Period, .slice a0_0 x0.Plan.length c0_0, .slice a0_1 x0.Links.length c0_1] 25 (0, 0)) :: R)) (B := fun w => St w s178 (pt b236 (.cells (MendLink.cells x216).toArray 36 (0, 0)) :: nestC 22 3 1 a156 c157 q155.length ds159 :: pt b51 (.cells #[.int .i64 x0.Period, .slice a0_0 x0.Plan.length c0_0, .slice a0_1 x0.Links.length c0_1] 25 (0, 0)) :: R)) (w := _) (x := true) (y := true) (fun _ => hS) (fun _ => (hS.dropAt 1))
                          have hF := hS; replace hS := hS
                          refine Rg.take (i := 22) true rfl hE rfl (by kernel_rfl) (runs_plain rfl) (Gives.loadB hE 0 rfl rfl rfl ty3) rfl hT ?_; clear hE a; intro a hE
                          replace hS := hF; clear hF hT
                          refine Rg.takeP (i := 23) hE rfl (by kernel_rfl) (runs_plain rfl) (Gives.p hE rfl) rfl (tw_sel (fun _ => hS) (fun _ => (hS.dropAt 1))) ?_; clear hE a; intro a hE
                          refine Rg.takeP (i := 24) hE rfl (by kernel_rfl) (runs_plain rfl) (Gives.max2 hE rfl rfl) rfl (tw_sel (fun _ => hS) (fun _ => (hS.dropAt 1))) ?_; clear hE a; intro a hE
                          refine Rg.one (i := 25) false true rfl (by kernel_rfl) (by kernel_rfl) (by kernel_rfl) ?_
                          replace hS := hS.borrowM 1 rfl hd306
                          obtain ⟨_, hx330, hq284⟩ := bindS hq284
                          obtain ⟨h331, h332⟩ := ix_some hx330
                          refine WL.vS hS hE (runs_plain rfl) (Gives.idx hE ((w64 (q254 + x216.Back)).toNat) rfl rfl sl22 h331 (by omega) (hS.vecAok 0 rfl (by omega : (w64 (q254 + x216.Back)).toNat < x298.length))) rfl ?_; clear hE a; intro a hE
                          refine WL.nil ?_
                          refine ⟨⟨fun h => absurd h (by decide), fun _ => ((hS.tail).dropAt 1)⟩, ?_⟩
                          refine Rg.one (i := 26) false true rfl (by kernel_rfl) (by kernel_rfl) (by kernel_rfl) ?_
                          obtain ⟨x334, hx335, hq284⟩ := bindS hq284
                          refine WL.setD hE hS 0 rfl (runs_plain rfl) rfl rfl (vs := [.int .i64 (mx x318 (w64 (x274 + x216.Len)))]) rfl ty3 rfl rfl rfl hev307 (rfl) (sx_some hx335).1 hx335 rfl rfl ?_; clear hE hS a w; intro cs336 a w h337 hn338 hE hS
                          refine WL.nil ?_
                          refine ⟨⟨fun h => absurd h (by decide), fun _ => ((hS.tail).dropAt 1)⟩, ?_⟩
                          refine Rg.done (by kernel_rfl) ?_
                          subst hK297
                          replace hS := hS.giveBack 1 rfl hd306
                          have h340 := h260.set (k := (x216.To).toNat) (d := ⟨a303, c304, x298.length, cs336⟩) h337 hn338
                          have hn341 : (q255.set ((x216.To).toNat) x334).length = x163.length := by simp; exact hn261
                          generalize List.set ds259 ((x216.To).toNat) _ = ds339 at hS h340
                          subst hK295
                          exact ⟨(q255.set ((x216.To).toNat) x334), ds339, Option.some.inj hq284, h340, hn341, hE.pick _ ⟨rfl, rfl, rfl, rfl, rfl, rfl, rfl, rfl, rfl, rfl, rfl, rfl, rfl, rfl, rfl, rfl, rfl, rfl, rfl, trivial⟩, hS⟩
                        · replace hq284 := iteF hc296 hq284
                          refine W.skip ?_
                          subst hK295
                          exact ⟨q255, ds259, Option.some.inj hq284, h260, hn261, hE.pick _ ⟨rfl, rfl, rfl, rfl, rfl, rfl, rfl, rfl, rfl, rfl, rfl, rfl, rfl, rfl, rfl, rfl, rfl, rfl, rfl, trivial⟩, hS⟩
                      · clear hE hS a w; rintro a w ⟨q288, ds292, rfl, h293, hn294, hE, hS⟩
                        refine W.region ?_
                        refine WL.vS hS hE (runs_plain rfl) (Gives.p hE rfl) rfl ?_; clear hE a; intro a hE
                        refine WL.vS hS hE (runs_plain rfl) (Gives.p hE rfl) rfl ?_; clear hE a; intro a hE
                        refine WL.nil ?_
                        subst hK262
                        exact ⟨n250, Nat.lt_succ_self _, n250, (w64 (q254 + 1)), q288, ds292, rfl, hq248, h293, hn294, hE.pick _ ⟨rfl, rfl, rfl, rfl, rfl, rfl, rfl, rfl, rfl, rfl, rfl, rfl, rfl, rfl, rfl, rfl, rfl, rfl, rfl, trivial⟩, hS⟩
                    · replace hq248 := iteF hc263 hq248
                      subst hK262
                      refine W.exit rfl ?_
                      exact ⟨q254, q255, ds259, Option.some.inj hq248, h260, hn261, hE.pick _ ⟨rfl, rfl, rfl, rfl, rfl, rfl, rfl, rfl, rfl, rfl, rfl, rfl, rfl, rfl, rfl, rfl, trivial⟩, hS⟩
                  · clear hE hS a w; rintro a w ⟨q254, q255, ds259, rfl, h260, hn261, hE, hS⟩
                    dsimp only at hq213
                    refine W.region ?_
                    refine WL.vS hS hE (runs_plain rfl) (Gives.inc hE rfl (by have := h0_1.small; omega)) rfl ?_; clear hE a; intro a hE
                    refine WL.vS hS hE (runs_plain rfl) (Gives.p hE rfl) rfl ?_; clear hE a; intro a hE
                    refine WL.nil ?_
                    replace hS := hS.tail
                    subst hK231
                    exact ⟨rest217.length, Nat.lt_succ_self _, rest217, k215 + 1, q255, ds259, rfl, hd218, hq213, h260, hn261, hE.pick _ ⟨rfl, rfl, rfl, rfl, rfl, rfl, rfl, rfl, rfl, rfl, rfl, rfl, rfl, rfl, rfl, rfl, trivial⟩, hS⟩
              · clear hE hS a w; rintro a w ⟨q224, ds228, rfl, h229, hn230, hE, hS⟩
                refine W.seq ?_
                refine W.seq ?_
                refine W.region ?_
                refine WL.vS hS hE (runs_plain rfl) (Gives.p hE rfl) rfl ?_; clear hE a; intro a hE
                refine WL.vS hS hE (runs_plain rfl) (Gives.p hE rfl) rfl ?_; clear hE a; intro a hE
                obtain ⟨x342, hx343, hq141⟩ := bindS hq141
                obtain ⟨hi344, hlt345, hy346⟩ := gx_some hx343
                obtain ⟨a347, c348, cs349, hd350, hev351⟩ := h229.at hy346
                refine WL.vS hS hE (runs_plain rfl) (Gives.idx hE ((((k54 : Nat) : Int)).toNat) rfl rfl sl40 hi344 (by have := hn230; omega) (hS.nAok 0 rfl (by have := hn230; omega : (((k54 : Nat) : Int)).toNat < x163.length))) rfl ?_; clear hE a; intro a hE
                refine WL.vS hS hE (runs_plain rfl) (Gives.load1 (v := .slice a347 x342.length c348) hE rfl (fun w h => St.nSees h 0 rfl hd350) ty22) rfl ?_; clear hE a; intro a hE
                refine WL.vS hS hE (runs_plain rfl) (Gives.len hE rfl sl22) rfl ?_; clear hE a; intro a hE
                refine WL.vS hS hE (runs_plain rfl) (Gives.p hE rfl) rfl ?_; clear hE a; intro a hE
                refine WL.nil ?_
                replace hS := hS.dropAt 1
                have hb363 : (x342).length ≤ 9223372036854775807 := by have := (hS.borrowM 0 rfl hd350).vecCap 0 rfl; unfold maxLen at this; omega
                obtain ⟨q353, hq352, hq141⟩ := bindS hq141
                refine W.cut (fun a w => ∃ (q364 : Int), ∃ (q365 : Int), ∃ (q366 : Bool), (q364, q365, q366) = q353 ∧ Rep a 163 [(1, .pointer (some ⟨b51, 0, none⟩)), (2, .int .i64 q364), (3, .int .i64 q365), (4, .bool q366), (5, .int .i64 ((x0.Plan).length : Int)), (6, .int .i64 (w64 (((x0.Plan).length : Int) * 3))), (7, .int .i64 ((k54 : Nat) : Int)), (10, .slice (some ⟨b165, 0, none⟩) x163.length x163.length), (23, .int .i64 ((x0.Plan).length : Int)), (24, .int .i64 ((k54 : Nat) : Int)), (47, .int .i64 ((x0.Plan).length : Int)), (48, .int .i64 ((k143 : Nat) : Int))] ∧ St w s178 (nestC 22 3 1 (some ⟨b165, 0, none⟩) x163.length x163.length ds228 :: pt b51 (.cells #[.int .i64 x0.Period, .slice a0_0 x0.Plan.length c0_0, .slice a0_1 x0.Links.length c0_1] 25 (0, 0)) :: R)) ?_ ?_
                · refine W.block ?_
                  refine W.loop (fun m a w => ∃ (rest356 : Nat) (k354 : Nat), ∃ (q364 : Int), ∃ (q365 : Int), ∃ (q366 : Bool), rest356 = m ∧ k354 + rest356 = (x342).length ∧ Fishref2MeanOf.loop8 x342 rest356 k354 q364 q365 q366 = some q353 ∧ Rep a 163 [(1, .pointer (some ⟨b51, 0, none⟩)), (2, .int .i64 q364), (3, .int .i64 q365), (4, .bool q366), (5, .int .i64 ((x0.Plan).length : Int)), (6, .int .i64 (w64 (((x0.Plan).length : Int) * 3))), (7, .int .i64 ((k54 : Nat) : Int)), (10, .slice (some ⟨b165, 0, none⟩) x163.length x163.length), (23, .int .i64 ((x0.Plan).length : Int)), (24, .int .i64 ((k54 : Nat) : Int)), (47, .int .i64 ((x0.Plan).length : Int)), (48, .int .i64 ((k143 : Nat) : Int)), (121, .slice a347 x342.length c348), (122, .int .i64 ((x342).length : Int)), (123, .int .i64 ((k354 : Nat) : Int))] ∧ St w s178 (nestC 22 3 1 (some ⟨b165, 0, none⟩) x163.length x163.length ds228 :: pt b51 (.cells #[.int .i64 x0.Period, .slice a0_0 x0.Plan.length c0_0, .slice a0_1 x0.Links.length c0_1] 25 (0, 0)) :: R)) (m := (x342).length) ⟨(x342).length, 0, q152, q153, q154, rfl, by omega, hq352, hE.pick _ ⟨rfl, rfl, rfl, rfl, rfl, rfl, rfl, rfl, rfl, rfl, rfl, rfl, rfl, rfl, rfl, trivial⟩, hS⟩ ?_
                  clear hE hS a w hq352; rintro m360 a w ⟨rest356, k354, q364, q365, q366, rfl, hd357, hq352, hE, hS⟩
                  refine W.gen fun K367 hK367 => ?_
                  rcases rest356 with _ | rest356
                  · skip
                    refine W.seq ?_
                    refine W.region ?_
                    refine WL.vS hS hE (runs_plain rfl) (Gives.p hE rfl) rfl ?_; clear hE a; intro a hE
                    refine WL.nil ?_
                    refine W.seq ?_
                    refine W.condF hE rfl (decide_eq_false (by omega)) ?_
                    subst hK367
                    refine W.exit rfl ?_
                    exact ⟨q364, q365, q366, Option.some.inj hq352, hE.pick _ ⟨rfl, rfl, rfl, rfl, rfl, rfl, rfl, rfl, rfl, rfl, rfl, rfl, trivial⟩, hS⟩
                  · have hlt358 : k354 < (x342).length := by omega
                    rw [Fishref2MeanOf.loop8] at hq352
                    refine W.seq ?_
                    refine W.region ?_
                    refine WL.vS hS hE (runs_plain rfl) (Gives.p hE rfl) rfl ?_; clear hE a; intro a hE
                    refine WL.nil ?_
                    refine W.seq ?_
                    refine W.condT hE rfl (decide_eq_true (by omega)) ?_
                    refine W.skip ?_
                    refine W.seq ?_
                    refine W.block ?_
                    refine W.seq ?_
                    refine W.region ?_
                    refine WL.vS hS hE (runs_plain rfl) (Gives.p hE rfl) rfl ?_; clear hE a; intro a hE
                    obtain ⟨x368, hx369, hq352⟩ := bindS hq352
                    obtain ⟨hi370, hlt371, hy372⟩ := gx_some hx369
                    obtain ⟨vs373, hl374, hR375, hd376, hget377⟩ := hev351.at hy372
                    subst hR375
                    refine WL.vS hS hE (runs_plain rfl) (Gives.idx hE ((((k354 : Nat) : Int)).toNat) rfl rfl sl22 hi370 hlt371 (hS.nnAok 0 rfl hd350 hlt371)) rfl ?_; clear hE a; intro a hE
                    refine WL.vS hS hE (runs_plain rfl) (Gives.load1 hE rfl (fun w h => St.nnSees h 0 rfl hd350 ((((k354 : Nat) : Int)).toNat * 1) _ hget377) ty3) rfl ?_; clear hE a; intro a hE
                    refine WL.vS hS hE (runs_plain rfl) (Gives.p hE rfl) rfl ?_; clear hE a; intro a hE
                    refine WL.vS hS hE (runs_plain rfl) (Gives.p hE rfl) rfl ?_; clear hE a; intro a hE
                    refine WL.nil ?_
                    refine W.seq ?_
                    obtain ⟨q379, hq378, hq352⟩ := bndS hq352
                    refine W.cut (fun a w => ∃ (q382 : Bool), q382 = q379 ∧ Rep a 163 [(1, .pointer (some ⟨b51, 0, none⟩)), (2, .int .i64 q364), (3, .int .i64 q365), (4, .bool q366), (5, .int .i64 ((x0.Plan).length : Int)), (6, .int .i64 (w64 (((x0.Plan).length : Int) * 3))), (7, .int .i64 ((k54 : Nat) : Int)), (10, .slice (some ⟨b165, 0, none⟩) x163.length x163.length), (16, .int .i64 ((k354 : Nat) : Int)), (17, .int .i64 x368), (23, .int .i64 ((x0.Plan).length : Int)), (24, .int .i64 ((k54 : Nat) : Int)), (47, .int .i64 ((x0.Plan).length : Int)), (48, .int .i64 ((k143 : Nat) : Int)), (121, .slice a347 x342.length c348), (122, .int .i64 ((x342).length : Int)), (123, .int .i64 ((k354 : Nat) : Int)), (146, .bool q382)] ∧ St w s178 (nestC 22 3 1 (some ⟨b165, 0, none⟩) x163.length x163.length ds228 :: pt b51 (.cells #[.int .i64 x0.Period, .slice a0_0 x0.Plan.length c0_0, .slice a0_1 x0.Links.length c0_1] 25 (0, 0)) :: R)) ?_ ?_
                    · refine W.gen fun K383 hK383 => ?_
                      refine W.region ?_
                      refine WL.vS hS hE (runs_plain rfl) (Gives.p hE rfl) rfl ?_; clear hE a; intro a hE
                      refine WL.vS hS hE (runs_plain rfl) (Gives.p hE rfl) rfl ?_; clear hE a; intro a hE
                      refine WL.vS hS hE (runs_plain rfl) (Gives.p hE rfl) rfl ?_; clear hE a; intro a hE
                      rcases Bool.eq_false_or_eq_true (decide (x368 ≥ 0)) with hg384 | hg384
                      · replace hq378 := iteT hg384 hq378
                        refine WL.vS hS hE (runs_if hE rfl rfl rfl hg384) (Gives.p hE rfl) rfl ?_; clear hE a; intro a hE
                        refine WL.vS hS hE (runs_if hE rfl rfl rfl hg384) (Gives.p hE rfl) rfl ?_; clear hE a; intro a hE
                        refine WL.vS hS hE (runs_plain rfl) (Gives.pickT hE rfl hg384 rfl) rfl ?_; clear hE a; intro a hE
                        refine WL.vS hS hE (runs_plain rfl) (Gives.p hE rfl) rfl ?_; clear hE a; intro a hE
                        rcases Bool.eq_false_or_eq_true (decide (((k354 : Nat) : Int) > 0)) with hg385 | hg385
                        · replace hq378 := iteT hg385 hq378
                          refine WL.vS hS hE (runs_if hE rfl rfl rfl hg385) (Gives.p hE rfl) rfl ?_; clear hE a; intro a hE
                          refine WL.vS hS hE (runs_if hE rfl rfl rfl hg385) (Gives.p hE rfl) rfl ?_; clear hE a; intro a hE
                          refine WL.vS hS hE (runs_if hE rfl rfl rfl hg385) (Gives.p hE rfl) rfl ?_; clear hE a; intro a hE
                          rcases Bool.eq_false_or_eq_true !q366 with hg386 | hg386
                          · replace hq378 := iteT hg386 hq378
                            refine WL.no hE (runs_not hE rfl rfl rfl (by rw [hg386]; decide)) rfl ?_; clear hE a; intro a hE
                            refine WL.no hE (runs_not hE rfl rfl rfl (by rw [hg386]; decide)) rfl ?_; clear hE a; intro a hE
                            refine WL.no hE (runs_not hE rfl rfl rfl (by rw [hg386]; decide)) rfl ?_; clear hE a; intro a hE
                            refine WL.no hE (runs_not hE rfl rfl rfl (by rw [hg386]; decide)) rfl ?_; clear hE a; intro a hE
                            refine WL.no hE (runs_not hE rfl rfl rfl (by rw [hg386]; decide)) rfl ?_; clear hE a; intro a hE
                            refine WL.no hE (runs_not hE rfl rfl rfl (by rw [hg386]; decide)) rfl ?_; clear hE a; intro a hE
                            refine WL.no hE (runs_not hE rfl rfl rfl (by rw [hg386]; decide)) rfl ?_; clear hE a; intro a hE
                            refine WL.vS hS hE (runs_if hE rfl rfl rfl hg385) (Gives.pickT hE rfl hg386 rfl) rfl ?_; clear hE a; intro a hE
                            refine WL.vS hS hE (runs_plain rfl) (Gives.pickT hE rfl hg385 rfl) rfl ?_; clear hE a; intro a hE
                            refine WL.nil ?_
                            subst hK383
                            exact ⟨true, hq378, hE.pick _ ⟨rfl, rfl, rfl, rfl, rfl, rfl, rfl, rfl, rfl, rfl, rfl, rfl, rfl, rfl, rfl, rfl, rfl, rfl, trivial⟩, hS⟩
                          · replace hq378 := iteF hg386 hq378
                            refine WL.vS hS hE (runs_if hE rfl rfl rfl hg386) (Gives.p hE rfl) rfl ?_; clear hE a; intro a hE
                            refine WL.vS hS hE (runs_if hE rfl rfl rfl hg386) (Gives.p hE rfl) rfl ?_; clear hE a; intro a hE
                            refine WL.vS hS hE (runs_if hE rfl rfl rfl hg386) (Gives.p hE rfl) rfl ?_; clear hE a; intro a hE
                            refine WL.vS hS hE (runs_if hE rfl rfl rfl hg386) (Gives.p hE rfl) rfl ?_; clear hE a; intro a hE
                            refine WL.vS hS hE (runs_if hE rfl rfl rfl hg386) (Gives.p hE rfl) rfl ?_; clear hE a; intro a hE
                            refine WL.vS hS hE (runs_if hE rfl rfl rfl hg386) (Gives.p hE rfl) rfl ?_; clear hE a; intro a hE
                            refine WL.vS hS hE (runs_if hE rfl rfl rfl hg386) (Gives.p hE rfl) rfl ?_; clear hE a; intro a hE
                            refine WL.vS hS hE (runs_if hE rfl rfl rfl hg385) (Gives.pickF hE rfl hg386 rfl) rfl ?_; clear hE a; intro a hE
                            refine WL.vS hS hE (runs_plain rfl) (Gives.pickT hE rfl hg385 rfl) rfl ?_; clear hE a; intro a hE
                            refine WL.nil ?_
                            subst hK383
                            exact ⟨decide ((w64 (x368 * q365)) > (w64 (q364 * ((k354 : Nat) : Int)))), hq378, hE.pick _ ⟨rfl, rfl, rfl, rfl, rfl, rfl, rfl, rfl, rfl, rfl, rfl, rfl, rfl, rfl, rfl, rfl, rfl, rfl, trivial⟩, hS⟩
                        · replace hq378 := iteF hg385 hq378
                          refine WL.no hE (runs_not hE rfl rfl rfl (by rw [hg385]; decide)) rfl ?_; clear hE a; intro a hE
                          refine WL.no hE (runs_not hE rfl rfl rfl (by rw [hg385]; decide)) rfl ?_; clear hE a; intro a hE
                          refine WL.no hE (runs_not hE rfl rfl rfl (by rw [hg385]; decide)) rfl ?_; clear hE a; intro a hE
                          refine WL.no hE (runs_undef hE rfl rfl rfl) rfl ?_; clear hE a; intro a hE
                          refine WL.no hE (runs_undef hE rfl rfl rfl) rfl ?_; clear hE a; intro a hE
                          refine WL.no hE (runs_undef hE rfl rfl rfl) rfl ?_; clear hE a; intro a hE
                          refine WL.no hE (runs_undef hE rfl rfl rfl) rfl ?_; clear hE a; intro a hE
                          refine WL.no hE (runs_undef hE rfl rfl rfl) rfl ?_; clear hE a; intro a hE
                          refine WL.no hE (runs_undef hE rfl rfl rfl) rfl ?_; clear hE a; intro a hE
                          refine WL.no hE (runs_undef hE rfl rfl rfl) rfl ?_; clear hE a; intro a hE
                          refine WL.no hE (runs_not hE rfl rfl rfl (by rw [hg385]; decide)) rfl ?_; clear hE a; intro a hE
                          refine WL.vS hS hE (runs_plain rfl) (Gives.pickF hE rfl hg385 rfl) rfl ?_; clear hE a; intro a hE
                          refine WL.nil ?_
                          subst hK383
                          exact ⟨false, hq378, hE.pick _ ⟨rfl, rfl, rfl, rfl, rfl, rfl, rfl, rfl, rfl, rfl, rfl, rfl, rfl, rfl, rfl, rfl, rfl, rfl, trivial⟩, hS⟩
                      · replace hq378 := iteF hg384 hq378
                        refine WL.no hE (runs_not hE rfl rfl rfl (by rw [hg384]; decide)) rfl ?_; clear hE a; intro a hE
                        refine WL.no hE (runs_not hE rfl rfl rfl (by rw [hg384]; decide)) rfl ?_; clear hE a; intro a hE
                        refine WL.vS hS hE (runs_plain rfl) (Gives.pickF hE rfl hg384 rfl) rfl ?_; clear hE a; intro a hE
                        refine WL.vS hS hE (runs_plain rfl) (Gives.p hE rfl) rfl ?_; clear hE a; intro a hE
                        refine WL.no hE (runs_not hE rfl rfl rfl (by decide)) rfl ?_; clear hE a; intro a hE
                        refine WL.no hE (runs_not hE rfl rfl rfl (by decide)) rfl ?_; clear hE a; intro a hE
                        refine WL.no hE (runs_not hE rfl rfl rfl (by decide)) rfl ?_; clear hE a; intro a hE
                        refine WL.no hE (runs_undef hE rfl rfl rfl) rfl ?_; clear hE a; intro a hE
                        refine WL.no hE (runs_undef hE rfl rfl rfl) rfl ?_; clear hE a; intro a hE
                        refine WL.no hE (runs_undef hE rfl rfl rfl) rfl ?_; clear hE a; intro a hE
                        refine WL.no hE (runs_undef hE rfl rfl rfl) rfl ?_; clear hE a; intro a hE
                        refine WL.no hE (runs_undef hE rfl rfl rfl) rfl ?_; clear hE a; intro a hE
                        refine WL.no hE (runs_undef hE rfl rfl rfl) rfl ?_; clear hE a; intro a hE
                        refine WL.no hE (runs_undef hE rfl rfl rfl) rfl ?_; clear hE a; intro a hE
                        refine WL.no hE (runs_not hE rfl rfl rfl (by decide)) rfl ?_; clear hE a; intro a hE
                        refine WL.vS hS hE (runs_plain rfl) (Gives.pickF hE rfl rfl rfl) rfl ?_; clear hE a; intro a hE
                        refine WL.nil ?_
                        subst hK383
                        exact ⟨false, hq378, hE.pick _ ⟨rfl, rfl, rfl, rfl, rfl, rfl, rfl, rfl, rfl, rfl, rfl, rfl, rfl, rfl, rfl, rfl, rfl, rfl, trivial⟩, hS⟩
                    · clear hE hS a w; rintro a w ⟨q382, rfl, hE, hS⟩
                      obtain ⟨q388, hq387, hq352⟩ := bndS hq352
                      refine W.cut (fun a w => ∃ (q391 : Int), ∃ (q392 : Int), ∃ (q393 : Bool), (q391, q392, q393) = q388 ∧ Rep a 163 [(1, .pointer (some ⟨b51, 0, none⟩)), (2, .int .i64 q391), (3, .int .i64 q392), (4, .bool q393), (5, .int .i64 ((x0.Plan).length : Int)), (6, .int .i64 (w64 (((x0.Plan).length : Int) * 3))), (7, .int .i64 ((k54 : Nat) : Int)), (10, .slice (some ⟨b165, 0, none⟩) x163.length x163.length), (23, .int .i64 ((x0.Plan).length : Int)), (24, .int .i64 ((k54 : Nat) : Int)), (47, .int .i64 ((x0.Plan).length : Int)), (48, .int .i64 ((k143 : Nat) : Int)), (121, .slice a347 x342.length c348), (122, .int .i64 ((x342).length : Int)), (123, .int .i64 ((k354 : Nat) : Int))] ∧ St w s178 (nestC 22 3 1 (some ⟨b165, 0, none⟩) x163.length x163.length ds228 :: pt b51 (.cells #[.int .i64 x0.Period, .slice a0_0 x0.Plan.length c0_0, .slice a0_1 x0.Links.length c0_1] 25 (0, 0)) :: R)) ?_ ?_
                      · refine W.gen fun K394 hK394 => ?_
                        refine W.cond hE rfl (fun hc395 => ?_) (fun hc395 => ?_)
                        · replace hq387 := iteT hc395 hq387
                          refine W.region ?_
                          refine WL.vS hS hE (runs_plain rfl) (Gives.p hE rfl) rfl ?_; clear hE a; intro a hE
                          refine WL.vS hS hE (runs_plain rfl) (Gives.p hE rfl) rfl ?_; clear hE a; intro a hE
                          refine WL.vS hS hE (runs_plain rfl) (Gives.p hE rfl) rfl ?_; clear hE a; intro a hE
                          refine WL.vS hS hE (runs_plain rfl) (Gives.p hE rfl) rfl ?_; clear hE a; intro a hE
                          refine WL.vS hS hE (runs_plain rfl) (Gives.p hE rfl) rfl ?_; clear hE a; intro a hE
                          refine WL.nil ?_
                          subst hK394
                          exact ⟨x368, ((k354 : Nat) : Int), true, hq387, hE.pick _ ⟨rfl, rfl, rfl, rfl, rfl, rfl, rfl, rfl, rfl, rfl, rfl, rfl, rfl, rfl, rfl, trivial⟩, hS⟩
                        · replace hq387 := iteF hc395 hq387
                          refine W.skip ?_
                          subst hK394
                          exact ⟨q364, q365, q366, hq387, hE.pick _ ⟨rfl, rfl, rfl, rfl, rfl, rfl, rfl, rfl, rfl, rfl, rfl, rfl, rfl, rfl, rfl, trivial⟩, hS⟩
                      · clear hE hS a w; rintro a w ⟨q391, q392, q393, rfl, hE, hS⟩
                        dsimp only at hq352
                        refine W.region ?_
                        refine WL.vS hS hE (runs_plain rfl) (Gives.inc hE rfl (by omega)) rfl ?_; clear hE a; intro a hE
                        refine WL.vS hS hE (runs_plain rfl) (Gives.p hE rfl) rfl ?_; clear hE a; intro a hE
                        refine WL.nil ?_
                        subst hK367
                        exact ⟨rest356, Nat.lt_succ_self _, rest356, k354 + 1, q391, q392, q393, rfl, (by omega), hq352, hE.pick _ ⟨rfl, rfl, rfl, rfl, rfl, rfl, rfl, rfl, rfl, rfl, rfl, rfl, rfl, rfl, rfl, trivial⟩, hS⟩
                · clear hE hS a w; rintro a w ⟨q364, q365, q366, rfl, hE, hS⟩
                  dsimp only at hq141
                  refine W.region ?_
                  refine WL.vS hS hE (runs_plain rfl) (Gives.p hE rfl) rfl ?_; clear hE a; intro a hE
                  refine WL.vS hS hE (runs_plain rfl) (Gives.p hE rfl) rfl ?_; clear hE a; intro a hE
                  refine WL.nil ?_
                  refine W.region ?_
                  refine WL.vS hS hE (runs_plain rfl) (Gives.inc hE rfl (by have := h0_0.small; omega)) rfl ?_; clear hE a; intro a hE
                  refine WL.vS hS hE (runs_plain rfl) (Gives.p hE rfl) rfl ?_; clear hE a; intro a hE
                  refine WL.nil ?_
                  subst hK162
                  exact ⟨rest145.length, Nat.lt_succ_self _, rest145, k143 + 1, q364, q365, q366, q224, (some ⟨b165, 0, none⟩), x163.length, x163.length, ds228, s178, rfl, hd146, (Sg.Le.trans hle151 hle179), hq141, h229, hn230, hE.pick _ ⟨rfl, rfl, rfl, rfl, rfl, rfl, rfl, rfl, rfl, rfl, rfl, rfl, trivial⟩, hS⟩
        · clear hE hS a w; rintro a w ⟨q152, q153, q154, q155, a156, c157, n158, ds159, s150, hle151, rfl, h160, rfl, hE, hS⟩
          dsimp only at hq52
          replace h139 := NEv.mono RI.mono hle151 h139
          replace h0_0 := Sl.mono RI.mono hle151 h0_0
          replace h0_1 := Sl.mono RMendLink.mono hle151 h0_1
          refine W.region ?_
          refine WL.vS hS hE (runs_plain rfl) (Gives.inc hE rfl (by have := h0_0.small; omega)) rfl ?_; clear hE a; intro a hE
          refine WL.vS hS hE (runs_plain rfl) (Gives.p hE rfl) rfl ?_; clear hE a; intro a hE
          refine WL.nil ?_
          replace hS := hS.tail
          subst hK66
          exact ⟨rest56.length, Nat.lt_succ_self _, rest56, k54 + 1, q152, q153, q154, s150, rfl, hd57, (Sg.Le.trans (Sg.Le.trans hle62 hle83) hle151), hq52, hE.pick _ ⟨rfl, rfl, rfl, rfl, rfl, rfl, rfl, rfl, trivial⟩, hS⟩
  · clear hE hS a w; rintro a w ⟨q63, q64, q65, s61, hle62, rfl, hE, hS⟩
    dsimp only at hr
    replace h0_0 := Sl.mono RI.mono hle62 h0_0
    replace h0_1 := Sl.mono RMendLink.mono hle62 h0_1
    refine W.seq ?_
    refine W.seq ?_
    refine W.region ?_
    refine WL.vS hS hE (runs_plain rfl) (Gives.p hE rfl) rfl ?_; clear hE a; intro a hE
    refine WL.vS hS hE (runs_plain rfl) (Gives.p hE rfl) rfl ?_; clear hE a; intro a hE
    refine WL.nil ?_
    refine W.cond hE rfl (fun hc396 => ?_) (fun hc396 => ?_)
    · replace hr := iteT hc396 hr
      refine W.seq ?_
      refine W.region ?_
      refine WL.vS hS hE (runs_plain rfl) (Gives.p hE rfl) rfl ?_; clear hE a; intro a hE
      refine WL.vS hS hE (runs_plain rfl) (Gives.p hE rfl) rfl ?_; clear hE a; intro a hE
      refine WL.vS hS hE (runs_plain rfl) (Gives.p hE rfl) rfl ?_; clear hE a; intro a hE
      refine WL.nil ?_
      refine W.ret ?_
      refine finG (fn := Try.f17) (rs := [.tmp 2, .tmp 3, .tmp 4]) (vs := [_, _, _]) hE rfl ⟨rfl, rfl, rfl, trivial⟩ ?_
      obtain rfl := Option.some.inj hr
      replace hS := hS.tail
      exact ⟨rfl, (hS.down hle62)⟩
    · replace hr := iteF hc396 hr
      refine W.skip ?_
      refine W.seq ?_
      refine W.region ?_
      refine WL.vS hS hE (runs_plain rfl) (Gives.p hE rfl) rfl ?_; clear hE a; intro a hE
      refine WL.vS hS hE (runs_plain rfl) (Gives.p hE rfl) rfl ?_; clear hE a; intro a hE
      obtain ⟨q397, hq398, hr⟩ := bindS hr
      have hc_ := Fishref2Lowest_ok hS  hq398
      refine WL.fnq hE (hc_) (runs_plain rfl) bd58 rfl rfl rfl ?_
      clear hE hS hc_; rintro e w ⟨rfl, hS⟩; refine ⟨_, rfl, ?_⟩; clear a; intro a hE
      refine WL.vS hS hE (runs_plain rfl) (Gives.p hE rfl) rfl ?_; clear hE a; intro a hE
      refine WL.vS hS hE (runs_plain rfl) (Gives.p hE rfl) rfl ?_; clear hE a; intro a hE
      refine WL.vS hS hE (runs_plain rfl) (Gives.p hE rfl) rfl ?_; clear hE a; intro a hE
      refine WL.vS hS hE (runs_plain rfl) (Gives.p hE rfl) rfl ?_; clear hE a; intro a hE
      refine WL.vS hS hE (runs_plain rfl) (Gives.p hE rfl) rfl ?_; clear hE a; intro a hE
      refine WL.nil ?_
      refine W.seq ?_
      refine W.region ?_
      refine WL.vS hS hE (runs_plain rfl) (Gives.p hE rfl) rfl ?_; clear hE a; intro a hE
      refine WL.vS hS hE (runs_plain rfl) (Gives.p hE rfl) rfl ?_; clear hE a; intro a hE
      refine WL.vS hS hE (runs_plain rfl) (Gives.p hE rfl) rfl ?_; clear hE a; intro a hE
      refine WL.vS hS hE (runs_plain rfl) (Gives.p hE rfl) rfl ?_; clear hE a; intro a hE
      refine WL.vS hS hE (runs_plain rfl) (Gives.p hE rfl) rfl ?_; clear hE a; intro a hE
      refine WL.nil ?_
      refine W.ret ?_
      refine finG (fn := Try.f17) (rs := [.tmp 2, .tmp 3, .tmp 4]) (vs := [_, _, _]) hE rfl ⟨rfl, rfl, rfl, trivial⟩ ?_
      obtain rfl := Option.some.inj hr
      replace hS := hS.tail
      exact ⟨rfl, (hS.down hle62)⟩
set_option maxHeartbeats 8000000 in
theorem SlicesMaxLint_ok {fu : Nat}  {w : World} {s : Sg} {R : List HP} {x0 : List Int} {a0 : Option Addr} {c0 : Nat} (hS : St w s (R)) (h0 : Sl 1 (RI .i64) s a0 c0 x0) {r : Int} (hr : SlicesMaxLint fu x0 = some r) :
    Calls Try.prog 77 [.slice a0 x0.length c0].toArray w (fun e w => e = .returned (.int .i64 r) ∧ St w s (R)) := by
  refine enter Try.func77 rfl rfl rfl fun a hE => ?_
  rw [SlicesMaxLint] at hr
  refine W.seq ?_
  refine W.region ?_
  refine WL.vS hS hE (runs_plain rfl) (Gives.p hE rfl) rfl ?_; clear hE a; intro a hE
  refine WL.nil ?_
  refine W.seq ?_
  refine W.seq ?_
  refine W.region ?_
  refine WL.vS hS hE (runs_plain rfl) (Gives.p hE rfl) rfl ?_; clear hE a; intro a hE
  refine WL.vS hS hE (runs_plain rfl) (Gives.len hE rfl sl22) rfl ?_; clear hE a; intro a hE
  refine WL.vS hS hE (runs_plain rfl) (Gives.p hE rfl) rfl ?_; clear hE a; intro a hE
  refine WL.nil ?_
  refine W.cond hE rfl (fun hc51 => ?_) (fun hc51 => ?_)
  · replace hr := iteT hc51 hr
    refine W.region ?_
    exact absurd hr (by simp)
  · replace hr := iteF hc51 hr
    refine W.skip ?_
    refine W.seq ?_
    refine W.region ?_
    refine WL.vS hS hE (runs_plain rfl) (Gives.p hE rfl) rfl ?_; clear hE a; intro a hE
    obtain ⟨x52, hx53, hr⟩ := bindS hr
    obtain ⟨hi54, hlt55, hy56⟩ := gx_some hx53
    obtain ⟨cs57, hl58, hR59, hat60⟩ := h0.at hy56
    subst hR59
    refine WL.vS hS hE (runs_plain rfl) (Gives.idx hE ((0 : Int)).toNat rfl rfl sl22 hi54 hlt55 (h0.aok hlt55)) rfl ?_; clear hE a; intro a hE
    refine WL.vS hS hE (runs_plain rfl) (Gives.load1 hE rfl (fun w h => hat60 w _ h) ty3) rfl ?_; clear hE a; intro a hE
    refine WL.vS hS hE (runs_plain rfl) (Gives.p hE rfl) rfl ?_; clear hE a; intro a hE
    refine WL.nil ?_
    refine W.seq ?_
    refine W.seq ?_
    refine W.region ?_
    refine WL.vS hS hE (runs_plain rfl) (Gives.p hE rfl) rfl ?_; clear hE a; intro a hE
    refine WL.nil ?_
    obtain ⟨q62, hq61, hr⟩ := bindS hr
    refine W.cut (fun a w => ∃ (q67 : Int), ∃ (q68 : Int), (q67, q68) = q62 ∧ Rep a 25 [(3, .int .i64 q67)] ∧ St w s (R)) ?_ ?_
    · refine W.block ?_
      refine W.loop (fun m a w => ∃ (n63 : Nat), ∃ (q67 : Int), ∃ (q68 : Int), n63 = m ∧ SlicesMaxLint.loop1 x0 n63 q67 q68 = some q62 ∧ Rep a 25 [(0, .slice a0 x0.length c0), (3, .int .i64 q67), (4, .int .i64 q68)] ∧ St w s (R)) (m := fu) ⟨fu, x52, 1, rfl, hq61, hE.pick _ ⟨rfl, rfl, rfl, trivial⟩, hS⟩ ?_
      clear hE hS a w hq61; rintro m64 a w ⟨n63, q67, q68, rfl, hq61, hE, hS⟩
      refine W.gen fun K69 hK69 => ?_
      rcases n63 with _ | n63
      · rw [SlicesMaxLint.loop1] at hq61; exact absurd hq61 (by simp)
      rw [SlicesMaxLint.loop1] at hq61
      refine W.seq ?_
      refine W.seq ?_
      refine W.region ?_
      refine WL.vS hS hE (runs_plain rfl) (Gives.p hE rfl) rfl ?_; clear hE a; intro a hE
      refine WL.vS hS hE (runs_plain rfl) (Gives.p hE rfl) rfl ?_; clear hE a; intro a hE
      refine WL.vS hS hE (runs_plain rfl) (Gives.len hE rfl sl22) rfl ?_; clear hE a; intro a hE
      refine WL.vS hS hE (runs_plain rfl) (Gives.p hE rfl) rfl ?_; clear hE a; intro a hE
      refine WL.nil ?_
      refine W.cond hE rfl (fun hc70 => ?_) (fun hc70 => ?_)
      · replace hq61 := iteT hc70 hq61
        refine W.skip ?_
        refine W.seq ?_
        refine W.block ?_
        refine W.region ?_
        refine WL.vS hS hE (runs_plain rfl) (Gives.p hE rfl) rfl ?_; clear hE a; intro a hE
        refine WL.vS hS hE (runs_plain rfl) (Gives.p hE rfl) rfl ?_; clear hE a; intro a hE
        refine WL.vS hS hE (runs_plain rfl) (Gives.p hE rfl) rfl ?_; clear hE a; intro a hE
        obtain ⟨x71, hx72, hq61⟩ := bindS hq61
        obtain ⟨hi73, hlt74, hy75⟩ := gx_some hx72
        obtain ⟨cs76, hl77, hR78, hat79⟩ := h0.at hy75
        subst hR78
        refine WL.vS hS hE (runs_plain rfl) (Gives.idx hE (q68).toNat rfl rfl sl22 hi73 hlt74 (h0.aok hlt74)) rfl ?_; clear hE a; intro a hE
        refine WL.vS hS hE (runs_plain rfl) (Gives.load1 hE rfl (fun w h => hat79 w _ h) ty3) rfl ?_; clear hE a; intro a hE
        refine WL.vS hS hE (runs_plain rfl) (Gives.max2 hE rfl rfl) rfl ?_; clear hE a; intro a hE
        refine WL.vS hS hE (runs_plain rfl) (Gives.p hE rfl) rfl ?_; clear hE a; intro a hE
        refine WL.nil ?_
        refine W.region ?_
        refine WL.vS hS hE (runs_plain rfl) (Gives.p hE rfl) rfl ?_; clear hE a; intro a hE
        refine WL.vS hS hE (runs_plain rfl) (Gives.p hE rfl) rfl ?_; clear hE a; intro a hE
        refine WL.vS hS hE (runs_plain rfl) (Gives.p hE rfl) rfl ?_; clear hE a; intro a hE
        refine WL.nil ?_
        subst hK69
        exact ⟨n63, Nat.lt_succ_self _, n63, (mx q67 x71), (w64 (q68 + 1)), rfl, hq61, hE.pick _ ⟨rfl, rfl, rfl, trivial⟩, hS⟩
      · replace hq61 := iteF hc70 hq61
        subst hK69
        refine W.exit rfl ?_
        exact ⟨q67, q68, Option.some.inj hq61, hE.pick _ ⟨rfl, trivial⟩, hS⟩
    · clear hE hS a w; rintro a w ⟨q67, q68, rfl, hE, hS⟩
      dsimp only at hr
      refine W.seq ?_
      refine W.region ?_
      refine WL.vS hS hE (runs_plain rfl) (Gives.p hE rfl) rfl ?_; clear hE a; intro a hE
      refine WL.vS hS hE (runs_plain rfl) (Gives.p hE rfl) rfl ?_; clear hE a; intro a hE
      refine WL.nil ?_
      refine W.ret ?_
      refine finG (fn := Try.f77) (rs := [.tmp 2]) (vs := [_]) hE rfl ⟨rfl, trivial⟩ ?_
      obtain rfl := Option.some.inj hr
      exact ⟨rfl, hS⟩
end Go.Proofs.Ytfioafdipipcaaa
