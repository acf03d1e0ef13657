/- The walks of the functions that FarePrices reaches: each call comes to what its mirror says. The conditions are those of each contract. -/
import Derived.Test.YtmgdigencbganaaProg
import Derived.Test.YtmgdigencbganaaFarePricesM
import Derived.Test.YtmgdigencbganaaFpMore
import Derived.Test.YtmgdigencbganaaFarePricesW1
namespace Go.Proofs.Ytmgdigencbganaa
open Go Go.Fp
set_option maxHeartbeats 8000000 in
theorem Fishref2nodeFault_ok : ∀ {fu : Nat} {w : World} {s : Sg} {R : List HP} {x0 : FareCond} {a0_0 : Option Addr} {c0_0 : Nat} (_hS : St w s (R)) (_h0_0 : Sl 4 RFareCond s a0_0 c0_0 x0.Kids) {r : Int} (_hr : Fishref2nodeFault fu x0 = some r),
    Calls Try.prog 46 [.agg [.int .i64 x0.Kind, .int .i64 x0.A, .int .i64 x0.B, .slice a0_0 x0.Kids.length c0_0].toArray].toArray w (fun e w => e = .returned (.int .i64 r) ∧ St w s (R)) := by
  intro fu
  induction fu with
  | zero => intro w s R x0 a0_0 c0_0 hS h0_0 r hr; rw [Fishref2nodeFault] at hr; exact absurd hr (by simp)
  | succ fu ih_Fishref2nodeFault =>
    intro w s R x0 a0_0 c0_0 hS h0_0 r hr
    rw [Fishref2nodeFault] at hr
    generalize Fishref2nodeFault fu = self_Fishref2nodeFault at hr ih_Fishref2nodeFault
    refine enter Try.func46 rfl rfl rfl fun a hE => ?_
    refine W.seq ?_
    refine W.region ?_
    refine WL.box hE hS (runs_plain rfl) rfl rfl rfl ?_; clear hE hS a w; intro b51 a w hE hS
    refine WL.vS hS hE (runs_plain rfl) (Gives.p hE rfl) rfl ?_; clear hE a; intro a hE
    refine WL.nil ?_
    refine W.seq ?_
    refine W.seq ?_
    refine W.region ?_
    refine WL.vS hS hE (runs_plain rfl) (Gives.fld hE rfl fl41_0) rfl ?_; clear hE a; intro a hE
    refine WL.vS hS hE (runs_plain rfl) (Gives.loadB hE 0 rfl rfl rfl ty3) rfl ?_; clear hE a; intro a hE
    refine WL.fnq hE (Fishref2within_ok hS  rfl) (runs_plain rfl) bd41 rfl rfl rfl ?_
    clear hE hS; rintro e w ⟨rfl, hS⟩; refine ⟨_, rfl, ?_⟩; clear a; intro a hE
    refine WL.vS hS hE (runs_plain rfl) (Gives.p hE rfl) rfl ?_; clear hE a; intro a hE
    refine WL.nil ?_
    refine W.cond hE rfl (fun hc52 => ?_) (fun hc52 => ?_)
    · replace hr := iteT hc52 hr
      refine W.seq ?_
      refine W.region ?_
      refine WL.vS hS hE (runs_plain rfl) (Gives.p hE rfl) rfl ?_; clear hE a; intro a hE
      refine WL.nil ?_
      refine W.ret ?_
      refine finG (fn := Try.f46) (rs := [.tmp 2]) (vs := [_]) hE rfl ⟨rfl, trivial⟩ ?_
      obtain rfl := Option.some.inj hr
      replace hS := hS.tail
      exact ⟨rfl, hS⟩
    · replace hr := iteF hc52 hr
      refine W.skip ?_
      refine W.seq ?_
      refine W.seq ?_
      obtain ⟨q54, hq53, hr⟩ := bndS hr
      refine W.cut (fun a w => ∃ (q57 : Bool), q57 = q54 ∧ Rep a 81 [(1, .pointer (some ⟨b51, 0, none⟩)), (21, .bool q57)] ∧ St w s (pt b51 (.cells #[.int .i64 x0.Kind, .int .i64 x0.A, .int .i64 x0.B, .slice a0_0 x0.Kids.length c0_0] 41 (0, 0)) :: R)) ?_ ?_
      · refine W.gen fun K58 hK58 => ?_
        refine W.region ?_
        refine WL.vS hS hE (runs_plain rfl) (Gives.fld hE rfl fl41_1) rfl ?_; clear hE a; intro a hE
        refine WL.vS hS hE (runs_plain rfl) (Gives.loadB hE 0 rfl rfl rfl ty3) rfl ?_; clear hE a; intro a hE
        refine WL.fnq hE (Fishref2within_ok hS  rfl) (runs_plain rfl) bd41 rfl rfl rfl ?_
        clear hE hS; rintro e w ⟨rfl, hS⟩; refine ⟨_, rfl, ?_⟩; clear a; intro a hE
        refine WL.vS hS hE (runs_plain rfl) (Gives.p hE rfl) rfl ?_; clear hE a; intro a hE
        refine WL.vS hS hE (runs_plain rfl) (Gives.p hE rfl) rfl ?_; clear hE a; intro a hE
        rcases Bool.eq_false_or_eq_true (!(Fishref2within x0.A 0 28800)) with hg59 | hg59
        · replace hq53 := iteT hg59 hq53
          refine WL.no hE (runs_not hE rfl rfl rfl (by rw [hg59]; decide)) rfl ?_; clear hE a; intro a hE
          refine WL.no hE (runs_not hE rfl rfl rfl (by rw [hg59]; decide)) rfl ?_; clear hE a; intro a hE
          refine WL.no hE (runs_not hE rfl rfl rfl (by rw [hg59]; decide)) rfl ?_; clear hE a; intro a hE
          refine WL.no hE (runs_not hE rfl rfl rfl (by rw [hg59]; decide)) rfl ?_; clear hE a; intro a hE
          refine WL.vS hS hE (runs_plain rfl) (Gives.pickT hE rfl hg59 rfl) rfl ?_; clear hE a; intro a hE
          refine WL.nil ?_
          subst hK58
          exact ⟨true, hq53, hE.pick _ ⟨rfl, rfl, trivial⟩, hS⟩
        · replace hq53 := iteF hg59 hq53
          refine WL.vS hS hE (runs_if hE rfl rfl rfl hg59) (Gives.fld hE rfl fl41_2) rfl ?_; clear hE a; intro a hE
          refine WL.vS hS hE (runs_if hE rfl rfl rfl hg59) (Gives.loadB hE 0 rfl rfl rfl ty3) rfl ?_; clear hE a; intro a hE
          refine WL.fnq hE (Fishref2within_ok hS  rfl) (runs_if hE rfl rfl rfl hg59) bd41 rfl rfl rfl ?_
          clear hE hS; rintro e w ⟨rfl, hS⟩; refine ⟨_, rfl, ?_⟩; clear a; intro a hE
          refine WL.vS hS hE (runs_if hE rfl rfl rfl hg59) (Gives.p hE rfl) rfl ?_; clear hE a; intro a hE
          refine WL.vS hS hE (runs_plain rfl) (Gives.pickF hE rfl hg59 rfl) rfl ?_; clear hE a; intro a hE
          refine WL.nil ?_
          subst hK58
          exact ⟨!(Fishref2within x0.B 0 28800), hq53, hE.pick _ ⟨rfl, rfl, trivial⟩, hS⟩
      · clear hE hS a w; rintro a w ⟨q57, rfl, hE, hS⟩
        refine W.cond hE rfl (fun hc60 => ?_) (fun hc60 => ?_)
        · replace hr := iteT hc60 hr
          refine W.seq ?_
          refine W.region ?_
          refine WL.vS hS hE (runs_plain rfl) (Gives.p hE rfl) rfl ?_; clear hE a; intro a hE
          refine WL.nil ?_
          refine W.ret ?_
          refine finG (fn := Try.f46) (rs := [.tmp 2]) (vs := [_]) hE rfl ⟨rfl, trivial⟩ ?_
          obtain rfl := Option.some.inj hr
          replace hS := hS.tail
          exact ⟨rfl, hS⟩
        · replace hr := iteF hc60 hr
          refine W.skip ?_
          refine W.seq ?_
          refine W.region ?_
          refine WL.vS hS hE (runs_plain rfl) (Gives.fld hE rfl fl41_0) rfl ?_; clear hE a; intro a hE
          refine WL.vS hS hE (runs_plain rfl) (Gives.loadB hE 0 rfl rfl rfl ty3) rfl ?_; clear hE a; intro a hE
          refine WL.fnq hE (Fishref2numbersOf_ok hS  rfl) (runs_plain rfl) bd72 rfl rfl rfl ?_
          clear hE hS; rintro e w ⟨rfl, hS⟩; refine ⟨_, rfl, ?_⟩; clear a; intro a hE
          refine WL.vS hS hE (runs_plain rfl) (Gives.p hE rfl) rfl ?_; clear hE a; intro a hE
          refine WL.nil ?_
          refine W.seq ?_
          refine W.seq ?_
          obtain ⟨q62, hq61, hr⟩ := bndS hr
          refine W.cut (fun a w => ∃ (q65 : Bool), q65 = q62 ∧ Rep a 81 [(1, .pointer (some ⟨b51, 0, none⟩)), (51, .bool q65)] ∧ St w s (pt b51 (.cells #[.int .i64 x0.Kind, .int .i64 x0.A, .int .i64 x0.B, .slice a0_0 x0.Kids.length c0_0] 41 (0, 0)) :: R)) ?_ ?_
          · refine W.gen fun K66 hK66 => ?_
            refine W.region ?_
            refine WL.vS hS hE (runs_plain rfl) (Gives.p hE rfl) rfl ?_; clear hE a; intro a hE
            refine WL.vS hS hE (runs_plain rfl) (Gives.p hE rfl) rfl ?_; clear hE a; intro a hE
            refine WL.vS hS hE (runs_plain rfl) (Gives.p hE rfl) rfl ?_; clear hE a; intro a hE
            rcases Bool.eq_false_or_eq_true (decide ((Fishref2numbersOf x0.Kind) < 1)) with hg67 | hg67
            · replace hq61 := iteT hg67 hq61
              refine WL.vS hS hE (runs_if hE rfl rfl rfl hg67) (Gives.fld hE rfl fl41_1) rfl ?_; clear hE a; intro a hE
              refine WL.vS hS hE (runs_if hE rfl rfl rfl hg67) (Gives.loadB hE 0 rfl rfl rfl ty3) rfl ?_; clear hE a; intro a hE
              refine WL.vS hS hE (runs_if hE rfl rfl rfl hg67) (Gives.p hE rfl) rfl ?_; clear hE a; intro a hE
              refine WL.vS hS hE (runs_plain rfl) (Gives.pickT hE rfl hg67 rfl) rfl ?_; clear hE a; intro a hE
              refine WL.vS hS hE (runs_plain rfl) (Gives.p hE rfl) rfl ?_; clear hE a; intro a hE
              rcases Bool.eq_false_or_eq_true (x0.A != 0) with hg68 | hg68
              · replace hq61 := iteT hg68 hq61
                refine WL.no hE (runs_not hE rfl rfl rfl (by rw [hg68]; decide)) rfl ?_; clear hE a; intro a hE
                refine WL.no hE (runs_not hE rfl rfl rfl (by rw [hg68]; decide)) rfl ?_; clear hE a; intro a hE
                refine WL.no hE (runs_not hE rfl rfl rfl (by rw [hg68]; decide)) rfl ?_; clear hE a; intro a hE
                refine WL.no hE (runs_undef hE rfl rfl rfl) rfl ?_; clear hE a; intro a hE
                refine WL.no hE (runs_undef hE rfl rfl rfl) rfl ?_; clear hE a; intro a hE
                refine WL.no hE (runs_undef hE rfl rfl rfl) rfl ?_; clear hE a; intro a hE
                refine WL.no hE (runs_not hE rfl rfl rfl (by rw [hg68]; decide)) rfl ?_; clear hE a; intro a hE
                refine WL.vS hS hE (runs_plain rfl) (Gives.pickT hE rfl hg68 rfl) rfl ?_; clear hE a; intro a hE
                refine WL.vS hS hE (runs_plain rfl) (Gives.p hE rfl) rfl ?_; clear hE a; intro a hE
                refine WL.no hE (runs_not hE rfl rfl rfl (by decide)) rfl ?_; clear hE a; intro a hE
                refine WL.no hE (runs_not hE rfl rfl rfl (by decide)) rfl ?_; clear hE a; intro a hE
                refine WL.no hE (runs_not hE rfl rfl rfl (by decide)) rfl ?_; clear hE a; intro a hE
                refine WL.no hE (runs_undef hE rfl rfl rfl) rfl ?_; clear hE a; intro a hE
                refine WL.no hE (runs_undef hE rfl rfl rfl) rfl ?_; clear hE a; intro a hE
                refine WL.no hE (runs_undef hE rfl rfl rfl) rfl ?_; clear hE a; intro a hE
                refine WL.no hE (runs_undef hE rfl rfl rfl) rfl ?_; clear hE a; intro a hE
                refine WL.no hE (runs_undef hE rfl rfl rfl) rfl ?_; clear hE a; intro a hE
                refine WL.no hE (runs_not hE rfl rfl rfl (by decide)) rfl ?_; clear hE a; intro a hE
                refine WL.vS hS hE (runs_plain rfl) (Gives.pickT hE rfl rfl rfl) rfl ?_; clear hE a; intro a hE
                refine WL.nil ?_
                subst hK66
                exact ⟨true, hq61, hE.pick _ ⟨rfl, rfl, trivial⟩, hS⟩
              · replace hq61 := iteF hg68 hq61
                refine WL.vS hS hE (runs_if hE rfl rfl rfl hg68) (Gives.p hE rfl) rfl ?_; clear hE a; intro a hE
                refine WL.vS hS hE (runs_if hE rfl rfl rfl hg68) (Gives.p hE rfl) rfl ?_; clear hE a; intro a hE
                refine WL.vS hS hE (runs_if hE rfl rfl rfl hg68) (Gives.p hE rfl) rfl ?_; clear hE a; intro a hE
                rcases Bool.eq_false_or_eq_true (decide ((Fishref2numbersOf x0.Kind) < 2)) with hg69 | hg69
                · replace hq61 := iteT hg69 hq61
                  refine WL.vS hS hE (runs_if hE rfl rfl rfl hg69) (Gives.fld hE rfl fl41_2) rfl ?_; clear hE a; intro a hE
                  refine WL.vS hS hE (runs_if hE rfl rfl rfl hg69) (Gives.loadB hE 0 rfl rfl rfl ty3) rfl ?_; clear hE a; intro a hE
                  refine WL.vS hS hE (runs_if hE rfl rfl rfl hg69) (Gives.p hE rfl) rfl ?_; clear hE a; intro a hE
                  refine WL.vS hS hE (runs_if hE rfl rfl rfl hg68) (Gives.pickT hE rfl hg69 rfl) rfl ?_; clear hE a; intro a hE
                  refine WL.vS hS hE (runs_plain rfl) (Gives.pickF hE rfl hg68 rfl) rfl ?_; clear hE a; intro a hE
                  refine WL.vS hS hE (runs_plain rfl) (Gives.p hE rfl) rfl ?_; clear hE a; intro a hE
                  rcases Bool.eq_false_or_eq_true (x0.B != 0) with hg70 | hg70
                  · replace hq61 := iteT hg70 hq61
                    refine WL.no hE (runs_not hE rfl rfl rfl (by rw [hg70]; decide)) rfl ?_; clear hE a; intro a hE
                    refine WL.no hE (runs_not hE rfl rfl rfl (by rw [hg70]; decide)) rfl ?_; clear hE a; intro a hE
                    refine WL.no hE (runs_not hE rfl rfl rfl (by rw [hg70]; decide)) rfl ?_; clear hE a; intro a hE
                    refine WL.no hE (runs_undef hE rfl rfl rfl) rfl ?_; clear hE a; intro a hE
                    refine WL.no hE (runs_undef hE rfl rfl rfl) rfl ?_; clear hE a; intro a hE
                    refine WL.no hE (runs_undef hE rfl rfl rfl) rfl ?_; clear hE a; intro a hE
                    refine WL.no hE (runs_undef hE rfl rfl rfl) rfl ?_; clear hE a; intro a hE
                    refine WL.no hE (runs_undef hE rfl rfl rfl) rfl ?_; clear hE a; intro a hE
                    refine WL.no hE (runs_not hE rfl rfl rfl (by rw [hg70]; decide)) rfl ?_; clear hE a; intro a hE
                    refine WL.vS hS hE (runs_plain rfl) (Gives.pickT hE rfl hg70 rfl) rfl ?_; clear hE a; intro a hE
                    refine WL.nil ?_
                    subst hK66
                    exact ⟨true, hq61, hE.pick _ ⟨rfl, rfl, trivial⟩, hS⟩
                  · replace hq61 := iteF hg70 hq61
                    refine WL.vS hS hE (runs_if hE rfl rfl rfl hg70) (Gives.p hE rfl) rfl ?_; clear hE a; intro a hE
                    refine WL.vS hS hE (runs_if hE rfl rfl rfl hg70) (Gives.p hE rfl) rfl ?_; clear hE a; intro a hE
                    refine WL.vS hS hE (runs_if hE rfl rfl rfl hg70) (Gives.p hE rfl) rfl ?_; clear hE a; intro a hE
                    rcases Bool.eq_false_or_eq_true ((Fishref2numbersOf x0.Kind) == 2) with hg71 | hg71
                    · replace hq61 := iteT hg71 hq61
                      refine WL.vS hS hE (runs_if hE rfl rfl rfl hg71) (Gives.fld hE rfl fl41_1) rfl ?_; clear hE a; intro a hE
                      refine WL.vS hS hE (runs_if hE rfl rfl rfl hg71) (Gives.loadB hE 0 rfl rfl rfl ty3) rfl ?_; clear hE a; intro a hE
                      refine WL.vS hS hE (runs_if hE rfl rfl rfl hg71) (Gives.fld hE rfl fl41_2) rfl ?_; clear hE a; intro a hE
                      refine WL.vS hS hE (runs_if hE rfl rfl rfl hg71) (Gives.loadB hE 0 rfl rfl rfl ty3) rfl ?_; clear hE a; intro a hE
                      refine WL.vS hS hE (runs_if hE rfl rfl rfl hg71) (Gives.p hE rfl) rfl ?_; clear hE a; intro a hE
                      refine WL.vS hS hE (runs_if hE rfl rfl rfl hg70) (Gives.pickT hE rfl hg71 rfl) rfl ?_; clear hE a; intro a hE
                      refine WL.vS hS hE (runs_plain rfl) (Gives.pickF hE rfl hg70 rfl) rfl ?_; clear hE a; intro a hE
                      refine WL.nil ?_
                      subst hK66
                      exact ⟨decide (x0.A > x0.B), hq61, hE.pick _ ⟨rfl, rfl, trivial⟩, hS⟩
                    · replace hq61 := iteF hg71 hq61
                      refine WL.no hE (runs_not hE rfl rfl rfl (by rw [hg71]; decide)) rfl ?_; clear hE a; intro a hE
                      refine WL.no hE (runs_not hE rfl rfl rfl (by rw [hg71]; decide)) rfl ?_; clear hE a; intro a hE
                      refine WL.no hE (runs_not hE rfl rfl rfl (by rw [hg71]; decide)) rfl ?_; clear hE a; intro a hE
                      refine WL.no hE (runs_not hE rfl rfl rfl (by rw [hg71]; decide)) rfl ?_; clear hE a; intro a hE
                      refine WL.no hE (runs_not hE rfl rfl rfl (by rw [hg71]; decide)) rfl ?_; clear hE a; intro a hE
                      refine WL.vS hS hE (runs_if hE rfl rfl rfl hg70) (Gives.pickF hE rfl hg71 rfl) rfl ?_; clear hE a; intro a hE
                      refine WL.vS hS hE (runs_plain rfl) (Gives.pickF hE rfl hg70 rfl) rfl ?_; clear hE a; intro a hE
                      refine WL.nil ?_
                      subst hK66
                      exact ⟨false, hq61, hE.pick _ ⟨rfl, rfl, trivial⟩, hS⟩
                · replace hq61 := iteF hg69 hq61
                  refine WL.no hE (runs_not hE rfl rfl rfl (by rw [hg69]; decide)) rfl ?_; clear hE a; intro a hE
                  refine WL.no hE (runs_not hE rfl rfl rfl (by rw [hg69]; decide)) rfl ?_; clear hE a; intro a hE
                  refine WL.no hE (runs_not hE rfl rfl rfl (by rw [hg69]; decide)) rfl ?_; clear hE a; intro a hE
                  refine WL.vS hS hE (runs_if hE rfl rfl rfl hg68) (Gives.pickF hE rfl hg69 rfl) rfl ?_; clear hE a; intro a hE
                  refine WL.vS hS hE (runs_plain rfl) (Gives.pickF hE rfl hg68 rfl) rfl ?_; clear hE a; intro a hE
                  refine WL.vS hS hE (runs_plain rfl) (Gives.p hE rfl) rfl ?_; clear hE a; intro a hE
                  refine WL.vS hS hE (runs_if hE rfl rfl rfl rfl) (Gives.p hE rfl) rfl ?_; clear hE a; intro a hE
                  refine WL.vS hS hE (runs_if hE rfl rfl rfl rfl) (Gives.p hE rfl) rfl ?_; clear hE a; intro a hE
                  refine WL.vS hS hE (runs_if hE rfl rfl rfl rfl) (Gives.p hE rfl) rfl ?_; clear hE a; intro a hE
                  rcases Bool.eq_false_or_eq_true ((Fishref2numbersOf x0.Kind) == 2) with hg72 | hg72
                  · replace hq61 := iteT hg72 hq61
                    refine WL.vS hS hE (runs_if hE rfl rfl rfl hg72) (Gives.fld hE rfl fl41_1) rfl ?_; clear hE a; intro a hE
                    refine WL.vS hS hE (runs_if hE rfl rfl rfl hg72) (Gives.loadB hE 0 rfl rfl rfl ty3) rfl ?_; clear hE a; intro a hE
                    refine WL.vS hS hE (runs_if hE rfl rfl rfl hg72) (Gives.fld hE rfl fl41_2) rfl ?_; clear hE a; intro a hE
                    refine WL.vS hS hE (runs_if hE rfl rfl rfl hg72) (Gives.loadB hE 0 rfl rfl rfl ty3) rfl ?_; clear hE a; intro a hE
                    refine WL.vS hS hE (runs_if hE rfl rfl rfl hg72) (Gives.p hE rfl) rfl ?_; clear hE a; intro a hE
                    refine WL.vS hS hE (runs_if hE rfl rfl rfl rfl) (Gives.pickT hE rfl hg72 rfl) rfl ?_; clear hE a; intro a hE
                    refine WL.vS hS hE (runs_plain rfl) (Gives.pickF hE rfl rfl rfl) rfl ?_; clear hE a; intro a hE
                    refine WL.nil ?_
                    subst hK66
                    exact ⟨decide (x0.A > x0.B), hq61, hE.pick _ ⟨rfl, rfl, trivial⟩, hS⟩
                  · replace hq61 := iteF hg72 hq61
                    refine WL.no hE (runs_not hE rfl rfl rfl (by rw [hg72]; decide)) rfl ?_; clear hE a; intro a hE
                    refine WL.no hE (runs_not hE rfl rfl rfl (by rw [hg72]; decide)) rfl ?_; clear hE a; intro a hE
                    refine WL.no hE (runs_not hE rfl rfl rfl (by rw [hg72]; decide)) rfl ?_; clear hE a; intro a hE
                    refine WL.no hE (runs_not hE rfl rfl rfl (by rw [hg72]; decide)) rfl ?_; clear hE a; intro a hE
                    refine WL.no hE (runs_not hE rfl rfl rfl (by rw [hg72]; decide)) rfl ?_; clear hE a; intro a hE
                    refine WL.vS hS hE (runs_if hE rfl rfl rfl rfl) (Gives.pickF hE rfl hg72 rfl) rfl ?_; clear hE a; intro a hE
                    refine WL.vS hS hE (runs_plain rfl) (Gives.pickF hE rfl rfl rfl) rfl ?_; clear hE a; intro a hE
                    refine WL.nil ?_
                    subst hK66
                    exact ⟨false, hq61, hE.pick _ ⟨rfl, rfl, trivial⟩, hS⟩
            · replace hq61 := iteF hg67 hq61
              refine WL.no hE (runs_not hE rfl rfl rfl (by rw [hg67]; decide)) rfl ?_; clear hE a; intro a hE
              refine WL.no hE (runs_not hE rfl rfl rfl (by rw [hg67]; decide)) rfl ?_; clear hE a; intro a hE
              refine WL.no hE (runs_not hE rfl rfl rfl (by rw [hg67]; decide)) rfl ?_; clear hE a; intro a hE
              refine WL.vS hS hE (runs_plain rfl) (Gives.pickF hE rfl hg67 rfl) rfl ?_; clear hE a; intro a hE
              refine WL.vS hS hE (runs_plain rfl) (Gives.p hE rfl) rfl ?_; clear hE a; intro a hE
              refine WL.vS hS hE (runs_if hE rfl rfl rfl rfl) (Gives.p hE rfl) rfl ?_; clear hE a; intro a hE
              refine WL.vS hS hE (runs_if hE rfl rfl rfl rfl) (Gives.p hE rfl) rfl ?_; clear hE a; intro a hE
              refine WL.vS hS hE (runs_if hE rfl rfl rfl rfl) (Gives.p hE rfl) rfl ?_; clear hE a; intro a hE
              rcases Bool.eq_false_or_eq_true (decide ((Fishref2numbersOf x0.Kind) < 2)) with hg73 | hg73
              · replace hq61 := iteT hg73 hq61
                refine WL.vS hS hE (runs_if hE rfl rfl rfl hg73) (Gives.fld hE rfl fl41_2) rfl ?_; clear hE a; intro a hE
                refine WL.vS hS hE (runs_if hE rfl rfl rfl hg73) (Gives.loadB hE 0 rfl rfl rfl ty3) rfl ?_; clear hE a; intro a hE
                refine WL.vS hS hE (runs_if hE rfl rfl rfl hg73) (Gives.p hE rfl) rfl ?_; clear hE a; intro a hE
                refine WL.vS hS hE (runs_if hE rfl rfl rfl rfl) (Gives.pickT hE rfl hg73 rfl) rfl ?_; clear hE a; intro a hE
                refine WL.vS hS hE (runs_plain rfl) (Gives.pickF hE rfl rfl rfl) rfl ?_; clear hE a; intro a hE
                refine WL.vS hS hE (runs_plain rfl) (Gives.p hE rfl) rfl ?_; clear hE a; intro a hE
                rcases Bool.eq_false_or_eq_true (x0.B != 0) with hg74 | hg74
                · replace hq61 := iteT hg74 hq61
                  refine WL.no hE (runs_not hE rfl rfl rfl (by rw [hg74]; decide)) rfl ?_; clear hE a; intro a hE
                  refine WL.no hE (runs_not hE rfl rfl rfl (by rw [hg74]; decide)) rfl ?_; clear hE a; intro a hE
                  refine WL.no hE (runs_not hE rfl rfl rfl (by rw [hg74]; decide)) rfl ?_; clear hE a; intro a hE
                  refine WL.no hE (runs_undef hE rfl rfl rfl) rfl ?_; clear hE a; intro a hE
                  refine WL.no hE (runs_undef hE rfl rfl rfl) rfl ?_; clear hE a; intro a hE
                  refine WL.no hE (runs_undef hE rfl rfl rfl) rfl ?_; clear hE a; intro a hE
                  refine WL.no hE (runs_undef hE rfl rfl rfl) rfl ?_; clear hE a; intro a hE
                  refine WL.no hE (runs_undef hE rfl rfl rfl) rfl ?_; clear hE a; intro a hE
                  refine WL.no hE (runs_not hE rfl rfl rfl (by rw [hg74]; decide)) rfl ?_; clear hE a; intro a hE
                  refine WL.vS hS hE (runs_plain rfl) (Gives.pickT hE rfl hg74 rfl) rfl ?_; clear hE a; intro a hE
                  refine WL.nil ?_
                  subst hK66
                  exact ⟨true, hq61, hE.pick _ ⟨rfl, rfl, trivial⟩, hS⟩
                · replace hq61 := iteF hg74 hq61
                  refine WL.vS hS hE (runs_if hE rfl rfl rfl hg74) (Gives.p hE rfl) rfl ?_; clear hE a; intro a hE
                  refine WL.vS hS hE (runs_if hE rfl rfl rfl hg74) (Gives.p hE rfl) rfl ?_; clear hE a; intro a hE
                  refine WL.vS hS hE (runs_if hE rfl rfl rfl hg74) (Gives.p hE rfl) rfl ?_; clear hE a; intro a hE
                  rcases Bool.eq_false_or_eq_true ((Fishref2numbersOf x0.Kind) == 2) with hg75 | hg75
                  · replace hq61 := iteT hg75 hq61
                    refine WL.vS hS hE (runs_if hE rfl rfl rfl hg75) (Gives.fld hE rfl fl41_1) rfl ?_; clear hE a; intro a hE
                    refine WL.vS hS hE (runs_if hE rfl rfl rfl hg75) (Gives.loadB hE 0 rfl rfl rfl ty3) rfl ?_; clear hE a; intro a hE
                    refine WL.vS hS hE (runs_if hE rfl rfl rfl hg75) (Gives.fld hE rfl fl41_2) rfl ?_; clear hE a; intro a hE
                    refine WL.vS hS hE (runs_if hE rfl rfl rfl hg75) (Gives.loadB hE 0 rfl rfl rfl ty3) rfl ?_; clear hE a; intro a hE
                    refine WL.vS hS hE (runs_if hE rfl rfl rfl hg75) (Gives.p hE rfl) rfl ?_; clear hE a; intro a hE
                    refine WL.vS hS hE (runs_if hE rfl rfl rfl hg74) (Gives.pickT hE rfl hg75 rfl) rfl ?_; clear hE a; intro a hE
                    refine WL.vS hS hE (runs_plain rfl) (Gives.pickF hE rfl hg74 rfl) rfl ?_; clear hE a; intro a hE
                    refine WL.nil ?_
                    subst hK66
                    exact ⟨decide (x0.A > x0.B), hq61, hE.pick _ ⟨rfl, rfl, trivial⟩, hS⟩
                  · replace hq61 := iteF hg75 hq61
                    refine WL.no hE (runs_not hE rfl rfl rfl (by rw [hg75]; decide)) rfl ?_; clear hE a; intro a hE
                    refine WL.no hE (runs_not hE rfl rfl rfl (by rw [hg75]; decide)) rfl ?_; clear hE a; intro a hE
                    refine WL.no hE (runs_not hE rfl rfl rfl (by rw [hg75]; decide)) rfl ?_; clear hE a; intro a hE
                    refine WL.no hE (runs_not hE rfl rfl rfl (by rw [hg75]; decide)) rfl ?_; clear hE a; intro a hE
                    refine WL.no hE (runs_not hE rfl rfl rfl (by rw [hg75]; decide)) rfl ?_; clear hE a; intro a hE
                    refine WL.vS hS hE (runs_if hE rfl rfl rfl hg74) (Gives.pickF hE rfl hg75 rfl) rfl ?_; clear hE a; intro a hE
                    refine WL.vS hS hE (runs_plain rfl) (Gives.pickF hE rfl hg74 rfl) rfl ?_; clear hE a; intro a hE
                    refine WL.nil ?_
                    subst hK66
                    exact ⟨false, hq61, hE.pick _ ⟨rfl, rfl, trivial⟩, hS⟩
              · replace hq61 := iteF hg73 hq61
                refine WL.no hE (runs_not hE rfl rfl rfl (by rw [hg73]; decide)) rfl ?_; clear hE a; intro a hE
                refine WL.no hE (runs_not hE rfl rfl rfl (by rw [hg73]; decide)) rfl ?_; clear hE a; intro a hE
                refine WL.no hE (runs_not hE rfl rfl rfl (by rw [hg73]; decide)) rfl ?_; clear hE a; intro a hE
                refine WL.vS hS hE (runs_if hE rfl rfl rfl rfl) (Gives.pickF hE rfl hg73 rfl) rfl ?_; clear hE a; intro a hE
                refine WL.vS hS hE (runs_plain rfl) (Gives.pickF hE rfl rfl rfl) rfl ?_; clear hE a; intro a hE
                refine WL.vS hS hE (runs_plain rfl) (Gives.p hE rfl) rfl ?_; clear hE a; intro a hE
                refine WL.vS hS hE (runs_if hE rfl rfl rfl rfl) (Gives.p hE rfl) rfl ?_; clear hE a; intro a hE
                refine WL.vS hS hE (runs_if hE rfl rfl rfl rfl) (Gives.p hE rfl) rfl ?_; clear hE a; intro a hE
                refine WL.vS hS hE (runs_if hE rfl rfl rfl rfl) (Gives.p hE rfl) rfl ?_; clear hE a; intro a hE
                rcases Bool.eq_false_or_eq_true ((Fishref2numbersOf x0.Kind) == 2) with hg76 | hg76
                · replace hq61 := iteT hg76 hq61
                  refine WL.vS hS hE (runs_if hE rfl rfl rfl hg76) (Gives.fld hE rfl fl41_1) rfl ?_; clear hE a; intro a hE
                  refine WL.vS hS hE (runs_if hE rfl rfl rfl hg76) (Gives.loadB hE 0 rfl rfl rfl ty3) rfl ?_; clear hE a; intro a hE
                  refine WL.vS hS hE (runs_if hE rfl rfl rfl hg76) (Gives.fld hE rfl fl41_2) rfl ?_; clear hE a; intro a hE
                  refine WL.vS hS hE (runs_if hE rfl rfl rfl hg76) (Gives.loadB hE 0 rfl rfl rfl ty3) rfl ?_; clear hE a; intro a hE
                  refine WL.vS hS hE (runs_if hE rfl rfl rfl hg76) (Gives.p hE rfl) rfl ?_; clear hE a; intro a hE
                  refine WL.vS hS hE (runs_if hE rfl rfl rfl rfl) (Gives.pickT hE rfl hg76 rfl) rfl ?_; clear hE a; intro a hE
                  refine WL.vS hS hE (runs_plain rfl) (Gives.pickF hE rfl rfl rfl) rfl ?_; clear hE a; intro a hE
                  refine WL.nil ?_
                  subst hK66
                  exact ⟨decide (x0.A > x0.B), hq61, hE.pick _ ⟨rfl, rfl, trivial⟩, hS⟩
                · replace hq61 := iteF hg76 hq61
                  refine WL.no hE (runs_not hE rfl rfl rfl (by rw [hg76]; decide)) rfl ?_; clear hE a; intro a hE
                  refine WL.no hE (runs_not hE rfl rfl rfl (by rw [hg76]; decide)) rfl ?_; clear hE a; intro a hE
                  refine WL.no hE (runs_not hE rfl rfl rfl (by rw [hg76]; decide)) rfl ?_; clear hE a; intro a hE
                  refine WL.no hE (runs_not hE rfl rfl rfl (by rw [hg76]; decide)) rfl ?_; clear hE a; intro a hE
                  refine WL.no hE (runs_not hE rfl rfl rfl (by rw [hg76]; decide)) rfl ?_; clear hE a; intro a hE
                  refine WL.vS hS hE (runs_if hE rfl rfl rfl rfl) (Gives.pickF hE rfl hg76 rfl) rfl ?_; clear hE a; intro a hE
                  refine WL.vS hS hE (runs_plain rfl) (Gives.pickF hE rfl rfl rfl) rfl ?_; clear hE a; intro a hE
                  refine WL.nil ?_
                  subst hK66
                  exact ⟨false, hq61, hE.pick _ ⟨rfl, rfl, trivial⟩, hS⟩
          · clear hE hS a w; rintro a w ⟨q65, rfl, hE, hS⟩
            refine W.cond hE rfl (fun hc77 => ?_) (fun hc77 => ?_)
            · replace hr := iteT hc77 hr
              refine W.seq ?_
              refine W.region ?_
              refine WL.vS hS hE (runs_plain rfl) (Gives.p hE rfl) rfl ?_; clear hE a; intro a hE
              refine WL.nil ?_
              refine W.ret ?_
              refine finG (fn := Try.f46) (rs := [.tmp 2]) (vs := [_]) hE rfl ⟨rfl, trivial⟩ ?_
              obtain rfl := Option.some.inj hr
              replace hS := hS.tail
              exact ⟨rfl, hS⟩
            · replace hr := iteF hc77 hr
              refine W.skip ?_
              refine W.seq ?_
              refine W.region ?_
              refine WL.vS hS hE (runs_plain rfl) (Gives.fld hE rfl fl41_3) rfl ?_; clear hE a; intro a hE
              refine WL.vS hS hE (runs_plain rfl) (Gives.loadB hE 0 rfl rfl rfl ty39) rfl ?_; clear hE a; intro a hE
              refine WL.vS hS hE (runs_plain rfl) (Gives.len hE rfl sl39) rfl ?_; clear hE a; intro a hE
              refine WL.vS hS hE (runs_plain rfl) (Gives.p hE rfl) rfl ?_; clear hE a; intro a hE
              refine WL.nil ?_
              refine W.seq ?_
              refine W.seq ?_
              refine W.region ?_
              refine WL.vS hS hE (runs_plain rfl) (Gives.fld hE rfl fl41_0) rfl ?_; clear hE a; intro a hE
              refine WL.vS hS hE (runs_plain rfl) (Gives.loadB hE 0 rfl rfl rfl ty3) rfl ?_; clear hE a; intro a hE
              refine WL.nil ?_
              refine W.block ?_
              refine W.seq ?_
              refine W.region ?_
              refine WL.vS hS hE (runs_plain rfl) (Gives.p hE rfl) rfl ?_; clear hE a; intro a hE
              refine WL.vS hS hE (runs_plain rfl) (Gives.p hE rfl) rfl ?_; clear hE a; intro a hE
              refine WL.nil ?_
              refine W.cond hE rfl (fun hc78 => ?_) (fun hc78 => ?_)
              · replace hr := iteT hc78 hr
                refine W.seq ?_
                refine W.region ?_
                refine WL.vS hS hE (runs_plain rfl) (Gives.p hE rfl) rfl ?_; clear hE a; intro a hE
                refine WL.vS hS hE (runs_plain rfl) (Gives.p hE rfl) rfl ?_; clear hE a; intro a hE
                refine WL.nil ?_
                refine W.cond hE rfl (fun hc79 => ?_) (fun hc79 => ?_)
                · replace hr := iteT hc79 hr
                  refine W.seq ?_
                  refine W.region ?_
                  refine WL.vS hS hE (runs_plain rfl) (Gives.p hE rfl) rfl ?_; clear hE a; intro a hE
                  refine WL.nil ?_
                  refine W.ret ?_
                  refine finG (fn := Try.f46) (rs := [.tmp 2]) (vs := [_]) hE rfl ⟨rfl, trivial⟩ ?_
                  obtain rfl := Option.some.inj hr
                  replace hS := hS.tail
                  exact ⟨rfl, hS⟩
                · replace hr := iteF hc79 hr
                  refine W.skip ?_
                  refine W.seq ?_
                  refine W.seq ?_
                  refine W.region ?_
                  refine WL.vS hS hE (runs_plain rfl) (Gives.fld hE rfl fl41_3) rfl ?_; clear hE a; intro a hE
                  refine WL.vS hS hE (runs_plain rfl) (Gives.loadB hE 0 rfl rfl rfl ty39) rfl ?_; clear hE a; intro a hE
                  refine WL.vS hS hE (runs_plain rfl) (Gives.len hE rfl sl39) rfl ?_; clear hE a; intro a hE
                  refine WL.vS hS hE (runs_plain rfl) (Gives.p hE rfl) rfl ?_; clear hE a; intro a hE
                  refine WL.nil ?_
                  obtain ⟨q81, hq80, hr⟩ := bindS hr
                  refine W.cut (fun a w => (.next ()) = q81 ∧ Rep a 81 [] ∧ St w s (pt b51 (.cells #[.int .i64 x0.Kind, .int .i64 x0.A, .int .i64 x0.B, .slice a0_0 x0.Kids.length c0_0] 41 (0, 0)) :: R)) ?_ ?_
                  · refine W.block ?_
                    refine W.loop (fun m a w => ∃ (rest84 : List FareCond) (k82 : Nat), rest84.length = m ∧ x0.Kids.drop k82 = rest84 ∧ Fishref2nodeFault.loop1 self_Fishref2nodeFault rest84 = some q81 ∧ Rep a 81 [(69, .slice a0_0 x0.Kids.length c0_0), (70, .int .i64 ((x0.Kids).length : Int)), (71, .int .i64 ((k82 : Nat) : Int))] ∧ St w s (pt b51 (.cells #[.int .i64 x0.Kind, .int .i64 x0.A, .int .i64 x0.B, .slice a0_0 x0.Kids.length c0_0] 41 (0, 0)) :: R)) (m := x0.Kids.length) ⟨x0.Kids, 0, rfl, rfl, hq80, hE.pick _ ⟨rfl, rfl, rfl, trivial⟩, hS⟩ ?_
                    clear hE hS a w hq80; rintro m88 a w ⟨rest84, k82, rfl, hd85, hq80, hE, hS⟩
                    refine W.gen fun K91 hK91 => ?_
                    rcases rest84 with _ | ⟨x83, rest84⟩
                    · have hlt86 := drop_nil hd85
                      refine W.seq ?_
                      refine W.region ?_
                      refine WL.vS hS hE (runs_plain rfl) (Gives.p hE rfl) rfl ?_; clear hE a; intro a hE
                      refine WL.nil ?_
                      refine W.seq ?_
                      refine W.condF hE rfl (decide_eq_false (by omega)) ?_
                      subst hK91
                      refine W.exit rfl ?_
                      exact ⟨Option.some.inj hq80, hE.pick _ trivial, hS⟩
                    · obtain ⟨hlt86, hx87, hd85⟩ := drop_cons hd85
                      rw [Fishref2nodeFault.loop1] at hq80
                      refine W.seq ?_
                      refine W.region ?_
                      refine WL.vS hS hE (runs_plain rfl) (Gives.p hE rfl) rfl ?_; clear hE a; intro a hE
                      refine WL.nil ?_
                      refine W.seq ?_
                      refine W.condT hE rfl (decide_eq_true (by omega)) ?_
                      refine W.skip ?_
                      refine W.seq ?_
                      refine W.block ?_
                      refine W.seq ?_
                      refine W.region ?_
                      obtain ⟨cs92, hl93, hR94, hat95⟩ := h0_0.at hx87
                      obtain ⟨a96, c97, rfl, h98⟩ := hR94.unf
                      refine WL.vS hS hE (runs_plain rfl) (Gives.idx hE k82 rfl rfl sl39 rfl hlt86 (h0_0.aok hlt86)) rfl ?_; clear hE a; intro a hE
                      refine WL.vS hS hE (runs_plain rfl) (Gives.loadA hE rfl (fun w h => hat95 w _ h) ty41) rfl ?_; clear hE a; intro a hE
                      refine WL.alloc hE hS (runs_plain rfl) zr41 rfl ?_; clear hE hS a w; intro b99 a w hE hS
                      refine WL.storeI hE hS 0 rfl [.int .i64 x83.Kind, .int .i64 x83.A, .int .i64 x83.B, .slice a96 x83.Kids.length c97] (runs_plain rfl) rfl rfl rfl ty41 rfl rfl rfl rfl ?_; clear hE hS a w; intro a w hE hS
                      refine WL.nil ?_
                      refine W.seq ?_
                      refine W.region ?_
                      refine WL.vS hS hE (runs_plain rfl) (Gives.loadBA hE 0 rfl rfl ty41) rfl ?_; clear hE a; intro a hE
                      obtain ⟨q100, hq101, hq80⟩ := bindS hq80
                      have hc_ := ih_Fishref2nodeFault hS h98 hq101
                      refine WL.fnq hE (hc_) (runs_plain rfl) bd46 rfl rfl rfl ?_
                      clear hE hS hc_; rintro e w ⟨rfl, hS⟩; refine ⟨_, rfl, ?_⟩; clear a; intro a hE
                      refine WL.vS hS hE (runs_plain rfl) (Gives.p hE rfl) rfl ?_; clear hE a; intro a hE
                      refine WL.nil ?_
                      refine W.seq ?_
                      refine W.region ?_
                      refine WL.vS hS hE (runs_plain rfl) (Gives.p hE rfl) rfl ?_; clear hE a; intro a hE
                      refine WL.vS hS hE (runs_plain rfl) (Gives.p hE rfl) rfl ?_; clear hE a; intro a hE
                      refine WL.nil ?_
                      refine W.cond hE rfl (fun hc102 => ?_) (fun hc102 => ?_)
                      · replace hq80 := iteT hc102 hq80
                        refine W.seq ?_
                        refine W.region ?_
                        refine WL.vS hS hE (runs_plain rfl) (Gives.p hE rfl) rfl ?_; clear hE a; intro a hE
                        refine WL.vS hS hE (runs_plain rfl) (Gives.p hE rfl) rfl ?_; clear hE a; intro a hE
                        refine WL.nil ?_
                        refine W.ret ?_
                        subst hK91
                        rw [← Option.some.inj hq80] at hr
                        dsimp only at hr
                        refine finG (fn := Try.f46) (rs := [.tmp 2]) (vs := [_]) hE rfl ⟨rfl, trivial⟩ ?_
                        obtain rfl := Option.some.inj hr
                        replace hS := hS.tail
                        replace hS := hS.tail
                        exact ⟨rfl, hS⟩
                      · replace hq80 := iteF hc102 hq80
                        refine W.skip ?_
                        refine W.region ?_
                        refine WL.vS hS hE (runs_plain rfl) (Gives.inc hE rfl (by have := h0_0.small; omega)) rfl ?_; clear hE a; intro a hE
                        refine WL.vS hS hE (runs_plain rfl) (Gives.p hE rfl) rfl ?_; clear hE a; intro a hE
                        refine WL.nil ?_
                        replace hS := hS.tail
                        subst hK91
                        exact ⟨rest84.length, Nat.lt_succ_self _, rest84, k82 + 1, rfl, hd85, hq80, hE.pick _ ⟨rfl, rfl, rfl, trivial⟩, hS⟩
                  · clear hE hS a w; rintro a w ⟨rfl, hE, hS⟩
                    dsimp only at hr
                    refine W.seq ?_
                    refine W.region ?_
                    refine WL.vS hS hE (runs_plain rfl) (Gives.p hE rfl) rfl ?_; clear hE a; intro a hE
                    refine WL.nil ?_
                    refine W.ret ?_
                    refine finG (fn := Try.f46) (rs := [.tmp 2]) (vs := [_]) hE rfl ⟨rfl, trivial⟩ ?_
                    obtain rfl := Option.some.inj hr
                    replace hS := hS.tail
                    exact ⟨rfl, hS⟩
              · replace hr := iteF hc78 hr
                refine W.seq ?_
                refine W.seq ?_
                refine W.region ?_
                refine WL.vS hS hE (runs_plain rfl) (Gives.p hE rfl) rfl ?_; clear hE a; intro a hE
                refine WL.vS hS hE (runs_plain rfl) (Gives.p hE rfl) rfl ?_; clear hE a; intro a hE
                refine WL.nil ?_
                obtain ⟨q104, hq103, hr⟩ := bndS hr
                refine W.cut (fun a w => ∃ (q107 : Bool), q107 = q104 ∧ Rep a 81 [(1, .pointer (some ⟨b51, 0, none⟩)), (4, .int .i64 ((x0.Kids).length : Int)), (63, .bool q107)] ∧ St w s (pt b51 (.cells #[.int .i64 x0.Kind, .int .i64 x0.A, .int .i64 x0.B, .slice a0_0 x0.Kids.length c0_0] 41 (0, 0)) :: R)) ?_ ?_
                · refine W.gen fun K108 hK108 => ?_
                  refine W.cond hE rfl (fun hc109 => ?_) (fun hc109 => ?_)
                  · replace hq103 := iteT hc109 hq103
                    refine W.skip ?_
                    subst hK108
                    exact ⟨(x0.Kind == 10), hq103, hE.pick _ ⟨rfl, rfl, rfl, trivial⟩, hS⟩
                  · replace hq103 := iteF hc109 hq103
                    refine W.region ?_
                    refine WL.vS hS hE (runs_plain rfl) (Gives.p hE rfl) rfl ?_; clear hE a; intro a hE
                    refine WL.vS hS hE (runs_plain rfl) (Gives.p hE rfl) rfl ?_; clear hE a; intro a hE
                    refine WL.nil ?_
                    subst hK108
                    exact ⟨(x0.Kind == 11), hq103, hE.pick _ ⟨rfl, rfl, rfl, trivial⟩, hS⟩
                · clear hE hS a w; rintro a w ⟨q107, rfl, hE, hS⟩
                  refine W.cond hE rfl (fun hc110 => ?_) (fun hc110 => ?_)
                  · replace hr := iteT hc110 hr
                    refine W.seq ?_
                    refine W.region ?_
                    refine WL.vS hS hE (runs_plain rfl) (Gives.p hE rfl) rfl ?_; clear hE a; intro a hE
                    refine WL.vS hS hE (runs_plain rfl) (Gives.p hE rfl) rfl ?_; clear hE a; intro a hE
                    refine WL.nil ?_
                    refine W.cond hE rfl (fun hc111 => ?_) (fun hc111 => ?_)
                    · replace hr := iteT hc111 hr
                      refine W.seq ?_
                      refine W.region ?_
                      refine WL.vS hS hE (runs_plain rfl) (Gives.p hE rfl) rfl ?_; clear hE a; intro a hE
                      refine WL.nil ?_
                      refine W.ret ?_
                      refine finG (fn := Try.f46) (rs := [.tmp 2]) (vs := [_]) hE rfl ⟨rfl, trivial⟩ ?_
                      obtain rfl := Option.some.inj hr
                      replace hS := hS.tail
                      exact ⟨rfl, hS⟩
                    · replace hr := iteF hc111 hr
                      refine W.skip ?_
                      refine W.seq ?_
                      refine W.seq ?_
                      refine W.region ?_
                      refine WL.vS hS hE (runs_plain rfl) (Gives.fld hE rfl fl41_3) rfl ?_; clear hE a; intro a hE
                      refine WL.vS hS hE (runs_plain rfl) (Gives.loadB hE 0 rfl rfl rfl ty39) rfl ?_; clear hE a; intro a hE
                      refine WL.vS hS hE (runs_plain rfl) (Gives.len hE rfl sl39) rfl ?_; clear hE a; intro a hE
                      refine WL.vS hS hE (runs_plain rfl) (Gives.p hE rfl) rfl ?_; clear hE a; intro a hE
                      refine WL.nil ?_
                      obtain ⟨q113, hq112, hr⟩ := bindS hr
                      refine W.cut (fun a w => (.next ()) = q113 ∧ Rep a 81 [] ∧ St w s (pt b51 (.cells #[.int .i64 x0.Kind, .int .i64 x0.A, .int .i64 x0.B, .slice a0_0 x0.Kids.length c0_0] 41 (0, 0)) :: R)) ?_ ?_
                      · refine W.block ?_
                        refine W.loop (fun m a w => ∃ (rest116 : List FareCond) (k114 : Nat), rest116.length = m ∧ x0.Kids.drop k114 = rest116 ∧ Fishref2nodeFault.loop2 self_Fishref2nodeFault rest116 = some q113 ∧ Rep a 81 [(69, .slice a0_0 x0.Kids.length c0_0), (70, .int .i64 ((x0.Kids).length : Int)), (71, .int .i64 ((k114 : Nat) : Int))] ∧ St w s (pt b51 (.cells #[.int .i64 x0.Kind, .int .i64 x0.A, .int .i64 x0.B, .slice a0_0 x0.Kids.length c0_0] 41 (0, 0)) :: R)) (m := x0.Kids.length) ⟨x0.Kids, 0, rfl, rfl, hq112, hE.pick _ ⟨rfl, rfl, rfl, trivial⟩, hS⟩ ?_
                        clear hE hS a w hq112; rintro m120 a w ⟨rest116, k114, rfl, hd117, hq112, hE, hS⟩
                        refine W.gen fun K123 hK123 => ?_
                        rcases rest116 with _ | ⟨x115, rest116⟩
                        · have hlt118 := drop_nil hd117
                          refine W.seq ?_
                          refine W.region ?_
                          refine WL.vS hS hE (runs_plain rfl) (Gives.p hE rfl) rfl ?_; clear hE a; intro a hE
                          refine WL.nil ?_
                          refine W.seq ?_
                          refine W.condF hE rfl (decide_eq_false (by omega)) ?_
                          subst hK123
                          refine W.exit rfl ?_
                          exact ⟨Option.some.inj hq112, hE.pick _ trivial, hS⟩
                        · obtain ⟨hlt118, hx119, hd117⟩ := drop_cons hd117
                          rw [Fishref2nodeFault.loop2] at hq112
                          refine W.seq ?_
                          refine W.region ?_
                          refine WL.vS hS hE (runs_plain rfl) (Gives.p hE rfl) rfl ?_; clear hE a; intro a hE
                          refine WL.nil ?_
                          refine W.seq ?_
                          refine W.condT hE rfl (decide_eq_true (by omega)) ?_
                          refine W.skip ?_
                          refine W.seq ?_
                          refine W.block ?_
                          refine W.seq ?_
                          refine W.region ?_
                          obtain ⟨cs124, hl125, hR126, hat127⟩ := h0_0.at hx119
                          obtain ⟨a128, c129, rfl, h130⟩ := hR126.unf
                          refine WL.vS hS hE (runs_plain rfl) (Gives.idx hE k114 rfl rfl sl39 rfl hlt118 (h0_0.aok hlt118)) rfl ?_; clear hE a; intro a hE
                          refine WL.vS hS hE (runs_plain rfl) (Gives.loadA hE rfl (fun w h => hat127 w _ h) ty41) rfl ?_; clear hE a; intro a hE
                          refine WL.alloc hE hS (runs_plain rfl) zr41 rfl ?_; clear hE hS a w; intro b131 a w hE hS
                          refine WL.storeI hE hS 0 rfl [.int .i64 x115.Kind, .int .i64 x115.A, .int .i64 x115.B, .slice a128 x115.Kids.length c129] (runs_plain rfl) rfl rfl rfl ty41 rfl rfl rfl rfl ?_; clear hE hS a w; intro a w hE hS
                          refine WL.nil ?_
                          refine W.seq ?_
                          refine W.region ?_
                          refine WL.vS hS hE (runs_plain rfl) (Gives.loadBA hE 0 rfl rfl ty41) rfl ?_; clear hE a; intro a hE
                          obtain ⟨q132, hq133, hq112⟩ := bindS hq112
                          have hc_ := ih_Fishref2nodeFault hS h130 hq133
                          refine WL.fnq hE (hc_) (runs_plain rfl) bd46 rfl rfl rfl ?_
                          clear hE hS hc_; rintro e w ⟨rfl, hS⟩; refine ⟨_, rfl, ?_⟩; clear a; intro a hE
                          refine WL.vS hS hE (runs_plain rfl) (Gives.p hE rfl) rfl ?_; clear hE a; intro a hE
                          refine WL.nil ?_
                          refine W.seq ?_
                          refine W.region ?_
                          refine WL.vS hS hE (runs_plain rfl) (Gives.p hE rfl) rfl ?_; clear hE a; intro a hE
                          refine WL.vS hS hE (runs_plain rfl) (Gives.p hE rfl) rfl ?_; clear hE a; intro a hE
                          refine WL.nil ?_
                          refine W.cond hE rfl (fun hc134 => ?_) (fun hc134 => ?_)
                          · replace hq112 := iteT hc134 hq112
                            refine W.seq ?_
                            refine W.region ?_
                            refine WL.vS hS hE (runs_plain rfl) (Gives.p hE rfl) rfl ?_; clear hE a; intro a hE
                            refine WL.vS hS hE (runs_plain rfl) (Gives.p hE rfl) rfl ?_; clear hE a; intro a hE
                            refine WL.nil ?_
                            refine W.ret ?_
                            subst hK123
                            rw [← Option.some.inj hq112] at hr
                            dsimp only at hr
                            refine finG (fn := Try.f46) (rs := [.tmp 2]) (vs := [_]) hE rfl ⟨rfl, trivial⟩ ?_
                            obtain rfl := Option.some.inj hr
                            replace hS := hS.tail
                            replace hS := hS.tail
                            exact ⟨rfl, hS⟩
                          · replace hq112 := iteF hc134 hq112
                            refine W.skip ?_
                            refine W.region ?_
                            refine WL.vS hS hE (runs_plain rfl) (Gives.inc hE rfl (by have := h0_0.small; omega)) rfl ?_; clear hE a; intro a hE
                            refine WL.vS hS hE (runs_plain rfl) (Gives.p hE rfl) rfl ?_; clear hE a; intro a hE
                            refine WL.nil ?_
                            replace hS := hS.tail
                            subst hK123
                            exact ⟨rest116.length, Nat.lt_succ_self _, rest116, k114 + 1, rfl, hd117, hq112, hE.pick _ ⟨rfl, rfl, rfl, trivial⟩, hS⟩
                      · clear hE hS a w; rintro a w ⟨rfl, hE, hS⟩
                        dsimp only at hr
                        refine W.seq ?_
                        refine W.region ?_
                        refine WL.vS hS hE (runs_plain rfl) (Gives.p hE rfl) rfl ?_; clear hE a; intro a hE
                        refine WL.nil ?_
                        refine W.ret ?_
                        refine finG (fn := Try.f46) (rs := [.tmp 2]) (vs := [_]) hE rfl ⟨rfl, trivial⟩ ?_
                        obtain rfl := Option.some.inj hr
                        replace hS := hS.tail
                        exact ⟨rfl, hS⟩
                  · replace hr := iteF hc110 hr
                    refine W.seq ?_
                    refine W.region ?_
                    refine WL.vS hS hE (runs_plain rfl) (Gives.p hE rfl) rfl ?_; clear hE a; intro a hE
                    refine WL.vS hS hE (runs_plain rfl) (Gives.p hE rfl) rfl ?_; clear hE a; intro a hE
                    refine WL.nil ?_
                    refine W.cond hE rfl (fun hc135 => ?_) (fun hc135 => ?_)
                    · replace hr := iteT hc135 hr
                      refine W.seq ?_
                      refine W.region ?_
                      refine WL.vS hS hE (runs_plain rfl) (Gives.p hE rfl) rfl ?_; clear hE a; intro a hE
                      refine WL.nil ?_
                      refine W.ret ?_
                      refine finG (fn := Try.f46) (rs := [.tmp 2]) (vs := [_]) hE rfl ⟨rfl, trivial⟩ ?_
                      obtain rfl := Option.some.inj hr
                      replace hS := hS.tail
                      exact ⟨rfl, hS⟩
                    · replace hr := iteF hc135 hr
                      refine W.skip ?_
                      refine W.seq ?_
                      refine W.seq ?_
                      refine W.region ?_
                      refine WL.vS hS hE (runs_plain rfl) (Gives.fld hE rfl fl41_3) rfl ?_; clear hE a; intro a hE
                      refine WL.vS hS hE (runs_plain rfl) (Gives.loadB hE 0 rfl rfl rfl ty39) rfl ?_; clear hE a; intro a hE
                      refine WL.vS hS hE (runs_plain rfl) (Gives.len hE rfl sl39) rfl ?_; clear hE a; intro a hE
                      refine WL.vS hS hE (runs_plain rfl) (Gives.p hE rfl) rfl ?_; clear hE a; intro a hE
                      refine WL.nil ?_
                      obtain ⟨q137, hq136, hr⟩ := bindS hr
                      refine W.cut (fun a w => (.next ()) = q137 ∧ Rep a 81 [] ∧ St w s (pt b51 (.cells #[.int .i64 x0.Kind, .int .i64 x0.A, .int .i64 x0.B, .slice a0_0 x0.Kids.length c0_0] 41 (0, 0)) :: R)) ?_ ?_
                      · refine W.block ?_
                        refine W.loop (fun m a w => ∃ (rest140 : List FareCond) (k138 : Nat), rest140.length = m ∧ x0.Kids.drop k138 = rest140 ∧ Fishref2nodeFault.loop3 self_Fishref2nodeFault rest140 = some q137 ∧ Rep a 81 [(69, .slice a0_0 x0.Kids.length c0_0), (70, .int .i64 ((x0.Kids).length : Int)), (71, .int .i64 ((k138 : Nat) : Int))] ∧ St w s (pt b51 (.cells #[.int .i64 x0.Kind, .int .i64 x0.A, .int .i64 x0.B, .slice a0_0 x0.Kids.length c0_0] 41 (0, 0)) :: R)) (m := x0.Kids.length) ⟨x0.Kids, 0, rfl, rfl, hq136, hE.pick _ ⟨rfl, rfl, rfl, trivial⟩, hS⟩ ?_
                        clear hE hS a w hq136; rintro m144 a w ⟨rest140, k138, rfl, hd141, hq136, hE, hS⟩
                        refine W.gen fun K147 hK147 => ?_
                        rcases rest140 with _ | ⟨x139, rest140⟩
                        · have hlt142 := drop_nil hd141
                          refine W.seq ?_
                          refine W.region ?_
                          refine WL.vS hS hE (runs_plain rfl) (Gives.p hE rfl) rfl ?_; clear hE a; intro a hE
                          refine WL.nil ?_
                          refine W.seq ?_
                          refine W.condF hE rfl (decide_eq_false (by omega)) ?_
                          subst hK147
                          refine W.exit rfl ?_
                          exact ⟨Option.some.inj hq136, hE.pick _ trivial, hS⟩
                        · obtain ⟨hlt142, hx143, hd141⟩ := drop_cons hd141
                          rw [Fishref2nodeFault.loop3] at hq136
                          refine W.seq ?_
                          refine W.region ?_
                          refine WL.vS hS hE (runs_plain rfl) (Gives.p hE rfl) rfl ?_; clear hE a; intro a hE
                          refine WL.nil ?_
                          refine W.seq ?_
                          refine W.condT hE rfl (decide_eq_true (by omega)) ?_
                          refine W.skip ?_
                          refine W.seq ?_
                          refine W.block ?_
                          refine W.seq ?_
                          refine W.region ?_
                          obtain ⟨cs148, hl149, hR150, hat151⟩ := h0_0.at hx143
                          obtain ⟨a152, c153, rfl, h154⟩ := hR150.unf
                          refine WL.vS hS hE (runs_plain rfl) (Gives.idx hE k138 rfl rfl sl39 rfl hlt142 (h0_0.aok hlt142)) rfl ?_; clear hE a; intro a hE
                          refine WL.vS hS hE (runs_plain rfl) (Gives.loadA hE rfl (fun w h => hat151 w _ h) ty41) rfl ?_; clear hE a; intro a hE
                          refine WL.alloc hE hS (runs_plain rfl) zr41 rfl ?_; clear hE hS a w; intro b155 a w hE hS
                          refine WL.storeI hE hS 0 rfl [.int .i64 x139.Kind, .int .i64 x139.A, .int .i64 x139.B, .slice a152 x139.Kids.length c153] (runs_plain rfl) rfl rfl rfl ty41 rfl rfl rfl rfl ?_; clear hE hS a w; intro a w hE hS
                          refine WL.nil ?_
                          refine W.seq ?_
                          refine W.region ?_
                          refine WL.vS hS hE (runs_plain rfl) (Gives.loadBA hE 0 rfl rfl ty41) rfl ?_; clear hE a; intro a hE
                          obtain ⟨q156, hq157, hq136⟩ := bindS hq136
                          have hc_ := ih_Fishref2nodeFault hS h154 hq157
                          refine WL.fnq hE (hc_) (runs_plain rfl) bd46 rfl rfl rfl ?_
                          clear hE hS hc_; rintro e w ⟨rfl, hS⟩; refine ⟨_, rfl, ?_⟩; clear a; intro a hE
                          refine WL.vS hS hE (runs_plain rfl) (Gives.p hE rfl) rfl ?_; clear hE a; intro a hE
                          refine WL.nil ?_
                          refine W.seq ?_
                          refine W.region ?_
                          refine WL.vS hS hE (runs_plain rfl) (Gives.p hE rfl) rfl ?_; clear hE a; intro a hE
                          refine WL.vS hS hE (runs_plain rfl) (Gives.p hE rfl) rfl ?_; clear hE a; intro a hE
                          refine WL.nil ?_
                          refine W.cond hE rfl (fun hc158 => ?_) (fun hc158 => ?_)
                          · replace hq136 := iteT hc158 hq136
                            refine W.seq ?_
                            refine W.region ?_
                            refine WL.vS hS hE (runs_plain rfl) (Gives.p hE rfl) rfl ?_; clear hE a; intro a hE
                            refine WL.vS hS hE (runs_plain rfl) (Gives.p hE rfl) rfl ?_; clear hE a; intro a hE
                            refine WL.nil ?_
                            refine W.ret ?_
                            subst hK147
                            rw [← Option.some.inj hq136] at hr
                            dsimp only at hr
                            refine finG (fn := Try.f46) (rs := [.tmp 2]) (vs := [_]) hE rfl ⟨rfl, trivial⟩ ?_
                            obtain rfl := Option.some.inj hr
                            replace hS := hS.tail
                            replace hS := hS.tail
                            exact ⟨rfl, hS⟩
                          · replace hq136 := iteF hc158 hq136
                            refine W.skip ?_
                            refine W.region ?_
                            refine WL.vS hS hE (runs_plain rfl) (Gives.inc hE rfl (by have := h0_0.small; omega)) rfl ?_; clear hE a; intro a hE
                            refine WL.vS hS hE (runs_plain rfl) (Gives.p hE rfl) rfl ?_; clear hE a; intro a hE
                            refine WL.nil ?_
                            replace hS := hS.tail
                            subst hK147
                            exact ⟨rest140.length, Nat.lt_succ_self _, rest140, k138 + 1, rfl, hd141, hq136, hE.pick _ ⟨rfl, rfl, rfl, trivial⟩, hS⟩
                      · clear hE hS a w; rintro a w ⟨rfl, hE, hS⟩
                        dsimp only at hr
                        refine W.seq ?_
                        refine W.region ?_
                        refine WL.vS hS hE (runs_plain rfl) (Gives.p hE rfl) rfl ?_; clear hE a; intro a hE
                        refine WL.nil ?_
                        refine W.ret ?_
                        refine finG (fn := Try.f46) (rs := [.tmp 2]) (vs := [_]) hE rfl ⟨rfl, trivial⟩ ?_
                        obtain rfl := Option.some.inj hr
                        replace hS := hS.tail
                        exact ⟨rfl, hS⟩
set_option maxHeartbeats 8000000 in
theorem Fishref2CondFault_ok {fu : Nat}  {w : World} {s : Sg} {R : List HP} {x0 : FareCond} {a0_0 : Option Addr} {c0_0 : Nat} (hS : St w s (R)) (h0_0 : Sl 4 RFareCond s a0_0 c0_0 x0.Kids) {r : Int} (hr : Fishref2CondFault fu x0 = some r) :
    Calls Try.prog 20 [.agg [.int .i64 x0.Kind, .int .i64 x0.A, .int .i64 x0.B, .slice a0_0 x0.Kids.length c0_0].toArray].toArray w (fun e w => e = .returned (.int .i64 r) ∧ St w s (R)) := by
  refine enter Try.func20 rfl rfl rfl fun a hE => ?_
  rw [Fishref2CondFault] at hr
  refine W.seq ?_
  refine W.region ?_
  refine WL.box hE hS (runs_plain rfl) rfl rfl rfl ?_; clear hE hS a w; intro b51 a w hE hS
  refine WL.vS hS hE (runs_plain rfl) (Gives.p hE rfl) rfl ?_; clear hE a; intro a hE
  refine WL.nil ?_
  refine W.seq ?_
  refine W.region ?_
  refine WL.alloc hE hS (runs_plain rfl) zr3 rfl ?_; clear hE hS a w; intro b52 a w hE hS
  refine WL.storeI hE hS 0 rfl [.int .i64 40] (runs_plain rfl) rfl rfl rfl ty3 rfl rfl rfl rfl ?_; clear hE hS a w; intro a w hE hS
  refine WL.nil ?_
  refine W.seq ?_
  refine W.seq ?_
  refine W.region ?_
  refine WL.vS hS hE (runs_plain rfl) (Gives.loadBA hE 1 rfl rfl ty41) rfl ?_; clear hE a; intro a hE
  obtain ⟨q53, hq54, hr⟩ := bindS hr
  have hc_ := Fishref2shape_v1_ok hS h0_0 hq54
  refine WL.fnq hE (hc_) (runs_plain rfl) bd45 rfl rfl rfl ?_
  clear hE hS hc_; rintro e w ⟨rfl, hS⟩; refine ⟨_, rfl, ?_⟩; clear a; intro a hE
  refine WL.vS hS hE (runs_plain rfl) (Gives.p hE rfl) rfl ?_; clear hE a; intro a hE
  refine WL.nil ?_
  refine W.seq ?_
  obtain ⟨q56, hq55, hr⟩ := bndS hr
  refine W.cut (fun a w => ∃ (q59 : Bool), q59 = q56 ∧ Rep a 15 [(1, .pointer (some ⟨b51, 0, none⟩)), (12, .bool q59)] ∧ St w s (pt b52 (.cells #[.int .i64 q53.2] 3 (0, 0)) :: pt b51 (.cells #[.int .i64 x0.Kind, .int .i64 x0.A, .int .i64 x0.B, .slice a0_0 x0.Kids.length c0_0] 41 (0, 0)) :: R)) ?_ ?_
  · refine W.gen fun K60 hK60 => ?_
    refine W.region ?_
    refine WL.vS hS hE (runs_plain rfl) (Gives.loadB hE 0 rfl rfl rfl ty3) rfl ?_; clear hE a; intro a hE
    refine WL.vS hS hE (runs_plain rfl) (Gives.p hE rfl) rfl ?_; clear hE a; intro a hE
    refine WL.vS hS hE (runs_plain rfl) (Gives.p hE rfl) rfl ?_; clear hE a; intro a hE
    rcases Bool.eq_false_or_eq_true (decide (q53.2 < 0)) with hg61 | hg61
    · replace hq55 := iteT hg61 hq55
      refine WL.no hE (runs_not hE rfl rfl rfl (by rw [hg61]; decide)) rfl ?_; clear hE a; intro a hE
      refine WL.no hE (runs_not hE rfl rfl rfl (by rw [hg61]; decide)) rfl ?_; clear hE a; intro a hE
      refine WL.vS hS hE (runs_plain rfl) (Gives.pickT hE rfl hg61 rfl) rfl ?_; clear hE a; intro a hE
      refine WL.nil ?_
      subst hK60
      exact ⟨true, hq55, hE.pick _ ⟨rfl, rfl, trivial⟩, hS⟩
    · replace hq55 := iteF hg61 hq55
      refine WL.vS hS hE (runs_if hE rfl rfl rfl hg61) (Gives.p hE rfl) rfl ?_; clear hE a; intro a hE
      refine WL.vS hS hE (runs_if hE rfl rfl rfl hg61) (Gives.p hE rfl) rfl ?_; clear hE a; intro a hE
      refine WL.vS hS hE (runs_plain rfl) (Gives.pickF hE rfl hg61 rfl) rfl ?_; clear hE a; intro a hE
      refine WL.nil ?_
      subst hK60
      exact ⟨decide (q53.1 > 6), hq55, hE.pick _ ⟨rfl, rfl, trivial⟩, hS⟩
  · clear hE hS a w; rintro a w ⟨q59, rfl, hE, hS⟩
    refine W.cond hE rfl (fun hc62 => ?_) (fun hc62 => ?_)
    · replace hr := iteT hc62 hr
      refine W.seq ?_
      refine W.region ?_
      refine WL.vS hS hE (runs_plain rfl) (Gives.p hE rfl) rfl ?_; clear hE a; intro a hE
      refine WL.nil ?_
      refine W.ret ?_
      refine finG (fn := Try.f20) (rs := [.tmp 2]) (vs := [_]) hE rfl ⟨rfl, trivial⟩ ?_
      obtain rfl := Option.some.inj hr
      replace hS := hS.tail
      replace hS := hS.tail
      exact ⟨rfl, hS⟩
    · replace hr := iteF hc62 hr
      refine W.skip ?_
      refine W.seq ?_
      refine W.region ?_
      refine WL.vS hS hE (runs_plain rfl) (Gives.loadBA hE 1 rfl rfl ty41) rfl ?_; clear hE a; intro a hE
      obtain ⟨q63, hq64, hr⟩ := bindS hr
      have hc_ := Fishref2nodeFault_ok hS h0_0 hq64
      refine WL.fnq hE (hc_) (runs_plain rfl) bd46 rfl rfl rfl ?_
      clear hE hS hc_; rintro e w ⟨rfl, hS⟩; refine ⟨_, rfl, ?_⟩; clear a; intro a hE
      refine WL.vS hS hE (runs_plain rfl) (Gives.p hE rfl) rfl ?_; clear hE a; intro a hE
      refine WL.nil ?_
      refine W.ret ?_
      refine finG (fn := Try.f20) (rs := [.tmp 2]) (vs := [_]) hE rfl ⟨rfl, trivial⟩ ?_
      obtain rfl := Option.some.inj hr
      replace hS := hS.tail
      replace hS := hS.tail
      exact ⟨rfl, hS⟩
set_option maxHeartbeats 8000000 in
theorem Fishref2TariffFault_ok {fu : Nat}  {w : World} {s : Sg} {R : List HP} {x0 : FareTariff} {a0_0 : Option Addr} {c0_0 : Nat} {a0_1 : Option Addr} {c0_1 : Nat} (hS : St w s (R)) (h0_0 : Sl 2 RFareBand s a0_0 c0_0 x0.Bands) (h0_1 : Sl 7 RFareRule s a0_1 c0_1 x0.Rules) {r : Int} (hr : Fishref2TariffFault fu x0 = some r) :
    Calls Try.prog 13 [.agg [.bool x0.ByKm, .slice a0_0 x0.Bands.length c0_0, .int .i64 x0.Round, .slice a0_1 x0.Rules.length c0_1].toArray].toArray w (fun e w => e = .returned (.int .i64 r) ∧ St w s (R)) := by
  refine enter Try.func13 rfl rfl rfl fun a hE => ?_
  rw [Fishref2TariffFault] at hr
  refine W.seq ?_
  refine W.region ?_
  refine WL.box hE hS (runs_plain rfl) rfl rfl rfl ?_; clear hE hS a w; intro b51 a w hE hS
  refine WL.vS hS hE (runs_plain rfl) (Gives.p hE rfl) rfl ?_; clear hE a; intro a hE
  refine WL.nil ?_
  refine W.seq ?_
  refine W.seq ?_
  obtain ⟨q53, hq52, hr⟩ := bndS hr
  refine W.cut (fun a w => ∃ (q56 : Bool), q56 = q53 ∧ Rep a 95 [(1, .pointer (some ⟨b51, 0, none⟩)), (19, .bool q56)] ∧ St w s (pt b51 (.cells #[.bool x0.ByKm, .slice a0_0 x0.Bands.length c0_0, .int .i64 x0.Round, .slice a0_1 x0.Rules.length c0_1] 25 (0, 0)) :: R)) ?_ ?_
  · refine W.gen fun K57 hK57 => ?_
    refine W.region ?_
    refine WL.vS hS hE (runs_plain rfl) (Gives.fld hE rfl fl25_1) rfl ?_; clear hE a; intro a hE
    refine WL.vS hS hE (runs_plain rfl) (Gives.loadB hE 0 rfl rfl rfl ty22) rfl ?_; clear hE a; intro a hE
    refine WL.vS hS hE (runs_plain rfl) (Gives.len hE rfl sl22) rfl ?_; clear hE a; intro a hE
    refine WL.fnq hE (Fishref2within_ok hS  rfl) (runs_plain rfl) bd41 rfl rfl rfl ?_
    clear hE hS; rintro e w ⟨rfl, hS⟩; refine ⟨_, rfl, ?_⟩; clear a; intro a hE
    refine WL.vS hS hE (runs_plain rfl) (Gives.p hE rfl) rfl ?_; clear hE a; intro a hE
    refine WL.vS hS hE (runs_plain rfl) (Gives.p hE rfl) rfl ?_; clear hE a; intro a hE
    rcases Bool.eq_false_or_eq_true (!(Fishref2within ((x0.Bands).length : Int) 1 8)) with hg58 | hg58
    · replace hq52 := iteT hg58 hq52
      refine WL.no hE (runs_not hE rfl rfl rfl (by rw [hg58]; decide)) rfl ?_; clear hE a; intro a hE
      refine WL.no hE (runs_not hE rfl rfl rfl (by rw [hg58]; decide)) rfl ?_; clear hE a; intro a hE
      refine WL.no hE (runs_not hE rfl rfl rfl (by rw [hg58]; decide)) rfl ?_; clear hE a; intro a hE
      refine WL.no hE (runs_not hE rfl rfl rfl (by rw [hg58]; decide)) rfl ?_; clear hE a; intro a hE
      refine WL.vS hS hE (runs_plain rfl) (Gives.pickT hE rfl hg58 rfl) rfl ?_; clear hE a; intro a hE
      refine WL.nil ?_
      subst hK57
      exact ⟨true, hq52, hE.pick _ ⟨rfl, rfl, trivial⟩, hS⟩
    · replace hq52 := iteF hg58 hq52
      refine WL.vS hS hE (runs_if hE rfl rfl rfl hg58) (Gives.fld hE rfl fl25_3) rfl ?_; clear hE a; intro a hE
      refine WL.vS hS hE (runs_if hE rfl rfl rfl hg58) (Gives.loadB hE 0 rfl rfl rfl ty23) rfl ?_; clear hE a; intro a hE
      refine WL.vS hS hE (runs_if hE rfl rfl rfl hg58) (Gives.len hE rfl sl23) rfl ?_; clear hE a; intro a hE
      refine WL.vS hS hE (runs_if hE rfl rfl rfl hg58) (Gives.p hE rfl) rfl ?_; clear hE a; intro a hE
      refine WL.vS hS hE (runs_plain rfl) (Gives.pickF hE rfl hg58 rfl) rfl ?_; clear hE a; intro a hE
      refine WL.nil ?_
      subst hK57
      exact ⟨decide (((x0.Rules).length : Int) > 20), hq52, hE.pick _ ⟨rfl, rfl, trivial⟩, hS⟩
  · clear hE hS a w; rintro a w ⟨q56, rfl, hE, hS⟩
    refine W.cond hE rfl (fun hc59 => ?_) (fun hc59 => ?_)
    · replace hr := iteT hc59 hr
      refine W.seq ?_
      refine W.region ?_
      refine WL.vS hS hE (runs_plain rfl) (Gives.p hE rfl) rfl ?_; clear hE a; intro a hE
      refine WL.nil ?_
      refine W.ret ?_
      refine finG (fn := Try.f13) (rs := [.tmp 2]) (vs := [_]) hE rfl ⟨rfl, trivial⟩ ?_
      obtain rfl := Option.some.inj hr
      replace hS := hS.tail
      exact ⟨rfl, hS⟩
    · replace hr := iteF hc59 hr
      refine W.skip ?_
      refine W.seq ?_
      refine W.seq ?_
      refine W.region ?_
      refine WL.vS hS hE (runs_plain rfl) (Gives.fld hE rfl fl25_1) rfl ?_; clear hE a; intro a hE
      refine WL.vS hS hE (runs_plain rfl) (Gives.loadB hE 0 rfl rfl rfl ty22) rfl ?_; clear hE a; intro a hE
      refine WL.vS hS hE (runs_plain rfl) (Gives.len hE rfl sl22) rfl ?_; clear hE a; intro a hE
      refine WL.vS hS hE (runs_plain rfl) (Gives.p hE rfl) rfl ?_; clear hE a; intro a hE
      refine WL.nil ?_
      obtain ⟨q61, hq60, hr⟩ := bindS hr
      refine W.cut (fun a w => (.next ()) = q61 ∧ Rep a 95 [(1, .pointer (some ⟨b51, 0, none⟩))] ∧ St w s (pt b51 (.cells #[.bool x0.ByKm, .slice a0_0 x0.Bands.length c0_0, .int .i64 x0.Round, .slice a0_1 x0.Rules.length c0_1] 25 (0, 0)) :: R)) ?_ ?_
      · refine W.block ?_
        refine W.loop (fun m a w => ∃ (rest64 : List FareBand) (k62 : Nat), rest64.length = m ∧ x0.Bands.drop k62 = rest64 ∧ Fishref2TariffFault.loop1 x0 rest64 k62 = some q61 ∧ Rep a 95 [(1, .pointer (some ⟨b51, 0, none⟩)), (21, .slice a0_0 x0.Bands.length c0_0), (22, .int .i64 ((x0.Bands).length : Int)), (23, .int .i64 ((k62 : Nat) : Int))] ∧ St w s (pt b51 (.cells #[.bool x0.ByKm, .slice a0_0 x0.Bands.length c0_0, .int .i64 x0.Round, .slice a0_1 x0.Rules.length c0_1] 25 (0, 0)) :: R)) (m := x0.Bands.length) ⟨x0.Bands, 0, rfl, rfl, hq60, hE.pick _ ⟨rfl, rfl, rfl, rfl, trivial⟩, hS⟩ ?_
        clear hE hS a w hq60; rintro m68 a w ⟨rest64, k62, rfl, hd65, hq60, hE, hS⟩
        refine W.gen fun K71 hK71 => ?_
        rcases rest64 with _ | ⟨x63, rest64⟩
        · have hlt66 := drop_nil hd65
          refine W.seq ?_
          refine W.region ?_
          refine WL.vS hS hE (runs_plain rfl) (Gives.p hE rfl) rfl ?_; clear hE a; intro a hE
          refine WL.nil ?_
          refine W.seq ?_
          refine W.condF hE rfl (decide_eq_false (by omega)) ?_
          subst hK71
          refine W.exit rfl ?_
          exact ⟨Option.some.inj hq60, hE.pick _ ⟨rfl, trivial⟩, hS⟩
        · obtain ⟨hlt66, hx67, hd65⟩ := drop_cons hd65
          rw [Fishref2TariffFault.loop1] at hq60
          refine W.seq ?_
          refine W.region ?_
          refine WL.vS hS hE (runs_plain rfl) (Gives.p hE rfl) rfl ?_; clear hE a; intro a hE
          refine WL.nil ?_
          refine W.seq ?_
          refine W.condT hE rfl (decide_eq_true (by omega)) ?_
          refine W.skip ?_
          refine W.seq ?_
          refine W.block ?_
          refine W.seq ?_
          refine W.region ?_
          refine WL.vS hS hE (runs_plain rfl) (Gives.p hE rfl) rfl ?_; clear hE a; intro a hE
          obtain ⟨cs72, hl73, hR74, hat75⟩ := h0_0.at hx67
          subst hR74
          refine WL.vS hS hE (runs_plain rfl) (Gives.idx hE k62 rfl rfl sl22 rfl hlt66 (h0_0.aok hlt66)) rfl ?_; clear hE a; intro a hE
          refine WL.vS hS hE (runs_plain rfl) (Gives.loadA hE rfl (fun w h => hat75 w _ h) ty75) rfl ?_; clear hE a; intro a hE
          refine WL.alloc hE hS (runs_plain rfl) zr75 rfl ?_; clear hE hS a w; intro b76 a w hE hS
          refine WL.vS hS hE (runs_plain rfl) (Gives.p hE rfl) rfl ?_; clear hE a; intro a hE
          refine WL.storeI hE hS 0 rfl (FareBand.cells x63) (runs_plain rfl) rfl rfl rfl ty75 rfl rfl rfl rfl ?_; clear hE hS a w; intro a w hE hS
          refine WL.nil ?_
          refine W.seq ?_
          refine W.seq ?_
          obtain ⟨q78, hq77, hq60⟩ := bndS hq60
          refine W.cut (fun a w => ∃ (q81 : Bool), q81 = q78 ∧ Rep a 95 [(1, .pointer (some ⟨b51, 0, none⟩)), (3, .int .i64 ((k62 : Nat) : Int)), (4, .pointer (some ⟨b76, 0, none⟩)), (21, .slice a0_0 x0.Bands.length c0_0), (22, .int .i64 ((x0.Bands).length : Int)), (23, .int .i64 ((k62 : Nat) : Int)), (37, .bool q81)] ∧ St w s (pt b76 (.cells (FareBand.cells x63).toArray 75 (0, 0)) :: pt b51 (.cells #[.bool x0.ByKm, .slice a0_0 x0.Bands.length c0_0, .int .i64 x0.Round, .slice a0_1 x0.Rules.length c0_1] 25 (0, 0)) :: R)) ?_ ?_
          · refine W.gen fun K82 hK82 => ?_
            refine W.region ?_
            refine WL.vS hS hE (runs_plain rfl) (Gives.fld hE rfl fl75_0) rfl ?_; clear hE a; intro a hE
            refine WL.vS hS hE (runs_plain rfl) (Gives.loadB hE 0 rfl rfl rfl ty3) rfl ?_; clear hE a; intro a hE
            refine WL.fnq hE (Fishref2within_ok hS  rfl) (runs_plain rfl) bd41 rfl rfl rfl ?_
            clear hE hS; rintro e w ⟨rfl, hS⟩; refine ⟨_, rfl, ?_⟩; clear a; intro a hE
            refine WL.vS hS hE (runs_plain rfl) (Gives.p hE rfl) rfl ?_; clear hE a; intro a hE
            refine WL.vS hS hE (runs_plain rfl) (Gives.p hE rfl) rfl ?_; clear hE a; intro a hE
            rcases Bool.eq_false_or_eq_true (!(Fishref2within x63.Upto 1 1000)) with hg83 | hg83
            · replace hq77 := iteT hg83 hq77
              refine WL.no hE (runs_not hE rfl rfl rfl (by rw [hg83]; decide)) rfl ?_; clear hE a; intro a hE
              refine WL.no hE (runs_not hE rfl rfl rfl (by rw [hg83]; decide)) rfl ?_; clear hE a; intro a hE
              refine WL.no hE (runs_not hE rfl rfl rfl (by rw [hg83]; decide)) rfl ?_; clear hE a; intro a hE
              refine WL.no hE (runs_not hE rfl rfl rfl (by rw [hg83]; decide)) rfl ?_; clear hE a; intro a hE
              refine WL.vS hS hE (runs_plain rfl) (Gives.pickT hE rfl hg83 rfl) rfl ?_; clear hE a; intro a hE
              refine WL.nil ?_
              subst hK82
              exact ⟨true, hq77, hE.pick _ ⟨rfl, rfl, rfl, rfl, rfl, rfl, rfl, trivial⟩, hS⟩
            · replace hq77 := iteF hg83 hq77
              refine WL.vS hS hE (runs_if hE rfl rfl rfl hg83) (Gives.fld hE rfl fl75_1) rfl ?_; clear hE a; intro a hE
              refine WL.vS hS hE (runs_if hE rfl rfl rfl hg83) (Gives.loadB hE 0 rfl rfl rfl ty3) rfl ?_; clear hE a; intro a hE
              refine WL.fnq hE (Fishref2within_ok hS  rfl) (runs_if hE rfl rfl rfl hg83) bd41 rfl rfl rfl ?_
              clear hE hS; rintro e w ⟨rfl, hS⟩; refine ⟨_, rfl, ?_⟩; clear a; intro a hE
              refine WL.vS hS hE (runs_if hE rfl rfl rfl hg83) (Gives.p hE rfl) rfl ?_; clear hE a; intro a hE
              refine WL.vS hS hE (runs_plain rfl) (Gives.pickF hE rfl hg83 rfl) rfl ?_; clear hE a; intro a hE
              refine WL.nil ?_
              subst hK82
              exact ⟨!(Fishref2within x63.Price 0 100000), hq77, hE.pick _ ⟨rfl, rfl, rfl, rfl, rfl, rfl, rfl, trivial⟩, hS⟩
          · clear hE hS a w; rintro a w ⟨q81, rfl, hE, hS⟩
            refine W.cond hE rfl (fun hc84 => ?_) (fun hc84 => ?_)
            · replace hq60 := iteT hc84 hq60
              refine W.seq ?_
              refine W.region ?_
              refine WL.vS hS hE (runs_plain rfl) (Gives.p hE rfl) rfl ?_; clear hE a; intro a hE
              refine WL.nil ?_
              refine W.ret ?_
              subst hK71
              rw [← Option.some.inj hq60] at hr
              dsimp only at hr
              refine finG (fn := Try.f13) (rs := [.tmp 2]) (vs := [_]) hE rfl ⟨rfl, trivial⟩ ?_
              obtain rfl := Option.some.inj hr
              replace hS := hS.tail
              replace hS := hS.tail
              exact ⟨rfl, hS⟩
            · replace hq60 := iteF hc84 hq60
              refine W.skip ?_
              refine W.seq ?_
              obtain ⟨q86, hq85, hq60⟩ := bindS hq60
              refine W.cut (fun a w => ∃ (q89 : Bool), q89 = q86 ∧ Rep a 95 [(1, .pointer (some ⟨b51, 0, none⟩)), (21, .slice a0_0 x0.Bands.length c0_0), (22, .int .i64 ((x0.Bands).length : Int)), (23, .int .i64 ((k62 : Nat) : Int)), (63, .bool q89)] ∧ St w s (pt b76 (.cells (FareBand.cells x63).toArray 75 (0, 0)) :: pt b51 (.cells #[.bool x0.ByKm, .slice a0_0 x0.Bands.length c0_0, .int .i64 x0.Round, .slice a0_1 x0.Rules.length c0_1] 25 (0, 0)) :: R)) ?_ ?_
              · refine W.gen fun K90 hK90 => ?_
                refine W.regionQ (C := fun w => St w s (pt b76 (.cells (FareBand.cells x63).toArray 75 (0, 0)) :: pt b51 (.cells #[.bool x0.ByKm, .slice a0_0 x0.Bands.length c0_0, .int .i64 x0.Round, .slice a0_1 x0.Rules.length c0_1] 25 (0, 0)) :: R)) mixed (by kernel_rfl) hS.drew ?_
                refine QL.v hE (runs_plain rfl) (Gives.p hE rfl) rfl ?_; clear hE a; intro a hE
                refine QL.v hE (runs_plain rfl) (Gives.p hE rfl) rfl ?_; clear hE a; intro a hE
                refine QL.v hE (runs_plain rfl) (Gives.p hE rfl) rfl ?_; clear hE a; intro a hE
                rcases Bool.eq_false_or_eq_true (decide (((k62 : Nat) : Int) > 0)) with hg91 | hg91
                · replace hq85 := iteT hg91 hq85
                  refine QL.v hE (runs_if hE rfl rfl rfl hg91) (Gives.fld hE rfl fl75_0) rfl ?_; clear hE a; intro a hE
                  refine QL.v hE (runs_if hE rfl rfl rfl hg91) (Gives.loadB hE 0 rfl rfl rfl ty3) rfl ?_; clear hE a; intro a hE
                  refine QL.v hE (runs_if hE rfl rfl rfl hg91) (Gives.fld hE rfl fl25_1) rfl ?_; clear hE a; intro a hE
                  refine QL.v hE (runs_if hE rfl rfl rfl hg91) (Gives.loadB hE 1 rfl rfl rfl ty22) rfl ?_; clear hE a; intro a hE
                  refine QL.v hE (runs_if hE rfl rfl rfl hg91) (Gives.p hE rfl) rfl ?_; clear hE a; intro a hE
                  refine QL.v hE (runs_if hE rfl rfl rfl hg91) (Gives.p hE rfl) rfl ?_; clear hE a; intro a hE
                  obtain ⟨x92, hx93, hq85⟩ := bindS hq85
                  obtain ⟨hi94, hlt95, hy96⟩ := gx_some hx93
                  obtain ⟨cs97, hl98, hR99, hat100⟩ := h0_0.at hy96
                  subst hR99
                  refine QL.v hE (runs_if hE rfl rfl rfl hg91) (Gives.idx hE (w64 (((k62 : Nat) : Int) - 1)).toNat rfl rfl sl22 hi94 hlt95 (h0_0.aok hlt95)) rfl ?_; clear hE a; intro a hE
                  refine QL.v hE (runs_if hE rfl rfl rfl hg91) (Gives.fld hE rfl fl75_0) rfl ?_; clear hE a; intro a hE
                  refine QL.v hE (runs_if hE rfl rfl rfl hg91) (Gives.load1 hE rfl (fun w h => (hat100 w _ h).one rfl) ty3) rfl ?_; clear hE a; intro a hE
                  refine QL.v hE (runs_if hE rfl rfl rfl hg91) (Gives.p hE rfl) rfl ?_; clear hE a; intro a hE
                  refine QL.v hE (runs_if hE rfl rfl rfl hg91) (Gives.p hE rfl) rfl ?_; clear hE a; intro a hE
                  rcases Bool.eq_false_or_eq_true (decide (x63.Upto ≤ x92.Upto)) with hg101 | hg101
                  · replace hq85 := iteT hg101 hq85
                    refine QL.no hE (runs_not hE rfl rfl rfl (by rw [hg101]; decide)) rfl ?_; clear hE a; intro a hE
                    refine QL.no hE (runs_not hE rfl rfl rfl (by rw [hg101]; decide)) rfl ?_; clear hE a; intro a hE
                    refine QL.no hE (runs_not hE rfl rfl rfl (by rw [hg101]; decide)) rfl ?_; clear hE a; intro a hE
                    refine QL.no hE (runs_not hE rfl rfl rfl (by rw [hg101]; decide)) rfl ?_; clear hE a; intro a hE
                    refine QL.no hE (runs_not hE rfl rfl rfl (by rw [hg101]; decide)) rfl ?_; clear hE a; intro a hE
                    refine QL.no hE (runs_not hE rfl rfl rfl (by rw [hg101]; decide)) rfl ?_; clear hE a; intro a hE
                    refine QL.no hE (runs_not hE rfl rfl rfl (by rw [hg101]; decide)) rfl ?_; clear hE a; intro a hE
                    refine QL.no hE (runs_not hE rfl rfl rfl (by rw [hg101]; decide)) rfl ?_; clear hE a; intro a hE
                    refine QL.no hE (runs_not hE rfl rfl rfl (by rw [hg101]; decide)) rfl ?_; clear hE a; intro a hE
                    refine QL.no hE (runs_not hE rfl rfl rfl (by rw [hg101]; decide)) rfl ?_; clear hE a; intro a hE
                    refine QL.v hE (runs_if hE rfl rfl rfl hg91) (Gives.pickT hE rfl hg101 rfl) rfl ?_; clear hE a; intro a hE
                    refine QL.v hE (runs_plain rfl) (Gives.pickT hE rfl hg91 rfl) rfl ?_; clear hE a; intro a hE
                    refine QL.nil ?_; clear hS w; intro w hS
                    subst hK90
                    exact ⟨true, Option.some.inj hq85, hE.pick _ ⟨rfl, rfl, rfl, rfl, rfl, trivial⟩, hS⟩
                  · replace hq85 := iteF hg101 hq85
                    refine QL.v hE (runs_if hE rfl rfl rfl hg101) (Gives.fld hE rfl fl75_1) rfl ?_; clear hE a; intro a hE
                    refine QL.v hE (runs_if hE rfl rfl rfl hg101) (Gives.loadB hE 0 rfl rfl rfl ty3) rfl ?_; clear hE a; intro a hE
                    refine QL.v hE (runs_if hE rfl rfl rfl hg101) (Gives.fld hE rfl fl25_1) rfl ?_; clear hE a; intro a hE
                    refine QL.v hE (runs_if hE rfl rfl rfl hg101) (Gives.loadB hE 1 rfl rfl rfl ty22) rfl ?_; clear hE a; intro a hE
                    refine QL.v hE (runs_if hE rfl rfl rfl hg101) (Gives.p hE rfl) rfl ?_; clear hE a; intro a hE
                    refine QL.v hE (runs_if hE rfl rfl rfl hg101) (Gives.p hE rfl) rfl ?_; clear hE a; intro a hE
                    obtain ⟨x102, hx103, hq85⟩ := bindS hq85
                    obtain ⟨hi104, hlt105, hy106⟩ := gx_some hx103
                    obtain ⟨cs107, hl108, hR109, hat110⟩ := h0_0.at hy106
                    subst hR109
                    refine QL.v hE (runs_if hE rfl rfl rfl hg101) (Gives.idx hE (w64 (((k62 : Nat) : Int) - 1)).toNat rfl rfl sl22 hi104 hlt105 (h0_0.aok hlt105)) rfl ?_; clear hE a; intro a hE
                    refine QL.v hE (runs_if hE rfl rfl rfl hg101) (Gives.fld hE rfl fl75_1) rfl ?_; clear hE a; intro a hE
                    refine QL.v hE (runs_if hE rfl rfl rfl hg101) (Gives.load1 hE rfl (fun w h => (hat110 w _ h).one rfl) ty3) rfl ?_; clear hE a; intro a hE
                    refine QL.v hE (runs_if hE rfl rfl rfl hg101) (Gives.p hE rfl) rfl ?_; clear hE a; intro a hE
                    refine QL.v hE (runs_if hE rfl rfl rfl hg91) (Gives.pickF hE rfl hg101 rfl) rfl ?_; clear hE a; intro a hE
                    refine QL.v hE (runs_plain rfl) (Gives.pickT hE rfl hg91 rfl) rfl ?_; clear hE a; intro a hE
                    refine QL.nil ?_; clear hS w; intro w hS
                    subst hK90
                    exact ⟨decide (x63.Price < x102.Price), Option.some.inj hq85, hE.pick _ ⟨rfl, rfl, rfl, rfl, rfl, trivial⟩, hS⟩
                · replace hq85 := iteF hg91 hq85
                  refine QL.no hE (runs_not hE rfl rfl rfl (by rw [hg91]; decide)) rfl ?_; clear hE a; intro a hE
                  refine QL.no hE (runs_not hE rfl rfl rfl (by rw [hg91]; decide)) rfl ?_; clear hE a; intro a hE
                  refine QL.no hE (runs_not hE rfl rfl rfl (by rw [hg91]; decide)) rfl ?_; clear hE a; intro a hE
                  refine QL.no hE (runs_not hE rfl rfl rfl (by rw [hg91]; decide)) rfl ?_; clear hE a; intro a hE
                  refine QL.no hE (runs_not hE rfl rfl rfl (by rw [hg91]; decide)) rfl ?_; clear hE a; intro a hE
                  refine QL.no hE (runs_not hE rfl rfl rfl (by rw [hg91]; decide)) rfl ?_; clear hE a; intro a hE
                  refine QL.no hE (runs_not hE rfl rfl rfl (by rw [hg91]; decide)) rfl ?_; clear hE a; intro a hE
                  refine QL.no hE (runs_not hE rfl rfl rfl (by rw [hg91]; decide)) rfl ?_; clear hE a; intro a hE
                  refine QL.no hE (runs_not hE rfl rfl rfl (by rw [hg91]; decide)) rfl ?_; clear hE a; intro a hE
                  refine QL.no hE (runs_not hE rfl rfl rfl (by rw [hg91]; decide)) rfl ?_; clear hE a; intro a hE
                  refine QL.no hE (runs_not hE rfl rfl rfl (by rw [hg91]; decide)) rfl ?_; clear hE a; intro a hE
                  refine QL.no hE (runs_undef hE rfl rfl rfl) rfl ?_; clear hE a; intro a hE
                  refine QL.no hE (runs_undef hE rfl rfl rfl) rfl ?_; clear hE a; intro a hE
                  refine QL.no hE (runs_undef hE rfl rfl rfl) rfl ?_; clear hE a; intro a hE
                  refine QL.no hE (runs_undef hE rfl rfl rfl) rfl ?_; clear hE a; intro a hE
                  refine QL.no hE (runs_undef hE rfl rfl rfl) rfl ?_; clear hE a; intro a hE
                  refine QL.no hE (runs_undef hE rfl rfl rfl) rfl ?_; clear hE a; intro a hE
                  refine QL.no hE (runs_undef hE rfl rfl rfl) rfl ?_; clear hE a; intro a hE
                  refine QL.no hE (runs_undef hE rfl rfl rfl) rfl ?_; clear hE a; intro a hE
                  refine QL.no hE (runs_undef hE rfl rfl rfl) rfl ?_; clear hE a; intro a hE
                  refine QL.no hE (runs_undef hE rfl rfl rfl) rfl ?_; clear hE a; intro a hE
                  refine QL.no hE (runs_not hE rfl rfl rfl (by rw [hg91]; decide)) rfl ?_; clear hE a; intro a hE
                  refine QL.v hE (runs_plain rfl) (Gives.pickF hE rfl hg91 rfl) rfl ?_; clear hE a; intro a hE
                  refine QL.nil ?_; clear hS w; intro w hS
                  subst hK90
                  exact ⟨false, Option.some.inj hq85, hE.pick _ ⟨rfl, rfl, rfl, rfl, rfl, trivial⟩, hS⟩
              · clear hE hS a w; rintro a w ⟨q89, rfl, hE, hS⟩
                refine W.cond hE rfl (fun hc111 => ?_) (fun hc111 => ?_)
                · replace hq60 := iteT hc111 hq60
                  refine W.seq ?_
                  refine W.region ?_
                  refine WL.vS hS hE (runs_plain rfl) (Gives.p hE rfl) rfl ?_; clear hE a; intro a hE
                  refine WL.nil ?_
                  refine W.ret ?_
                  subst hK71
                  rw [← Option.some.inj hq60] at hr
                  dsimp only at hr
                  refine finG (fn := Try.f13) (rs := [.tmp 2]) (vs := [_]) hE rfl ⟨rfl, trivial⟩ ?_
                  obtain rfl := Option.some.inj hr
                  replace hS := hS.tail
                  replace hS := hS.tail
                  exact ⟨rfl, hS⟩
                · replace hq60 := iteF hc111 hq60
                  refine W.skip ?_
                  refine W.region ?_
                  refine WL.vS hS hE (runs_plain rfl) (Gives.inc hE rfl (by have := h0_0.small; omega)) rfl ?_; clear hE a; intro a hE
                  refine WL.vS hS hE (runs_plain rfl) (Gives.p hE rfl) rfl ?_; clear hE a; intro a hE
                  refine WL.nil ?_
                  replace hS := hS.tail
                  subst hK71
                  exact ⟨rest64.length, Nat.lt_succ_self _, rest64, k62 + 1, rfl, hd65, hq60, hE.pick _ ⟨rfl, rfl, rfl, rfl, trivial⟩, hS⟩
      · clear hE hS a w; rintro a w ⟨rfl, hE, hS⟩
        dsimp only at hr
        refine W.seq ?_
        refine W.seq ?_
        refine W.region ?_
        refine WL.vS hS hE (runs_plain rfl) (Gives.fld hE rfl fl25_2) rfl ?_; clear hE a; intro a hE
        refine WL.vS hS hE (runs_plain rfl) (Gives.loadB hE 0 rfl rfl rfl ty3) rfl ?_; clear hE a; intro a hE
        refine WL.fnq hE (Fishref2within_ok hS  rfl) (runs_plain rfl) bd41 rfl rfl rfl ?_
        clear hE hS; rintro e w ⟨rfl, hS⟩; refine ⟨_, rfl, ?_⟩; clear a; intro a hE
        refine WL.vS hS hE (runs_plain rfl) (Gives.p hE rfl) rfl ?_; clear hE a; intro a hE
        refine WL.nil ?_
        refine W.cond hE rfl (fun hc112 => ?_) (fun hc112 => ?_)
        · replace hr := iteT hc112 hr
          refine W.seq ?_
          refine W.region ?_
          refine WL.vS hS hE (runs_plain rfl) (Gives.p hE rfl) rfl ?_; clear hE a; intro a hE
          refine WL.nil ?_
          refine W.ret ?_
          refine finG (fn := Try.f13) (rs := [.tmp 2]) (vs := [_]) hE rfl ⟨rfl, trivial⟩ ?_
          obtain rfl := Option.some.inj hr
          replace hS := hS.tail
          exact ⟨rfl, hS⟩
        · replace hr := iteF hc112 hr
          refine W.skip ?_
          refine W.seq ?_
          refine W.seq ?_
          refine W.region ?_
          refine WL.vS hS hE (runs_plain rfl) (Gives.fld hE rfl fl25_3) rfl ?_; clear hE a; intro a hE
          refine WL.vS hS hE (runs_plain rfl) (Gives.loadB hE 0 rfl rfl rfl ty23) rfl ?_; clear hE a; intro a hE
          refine WL.vS hS hE (runs_plain rfl) (Gives.len hE rfl sl23) rfl ?_; clear hE a; intro a hE
          refine WL.vS hS hE (runs_plain rfl) (Gives.p hE rfl) rfl ?_; clear hE a; intro a hE
          refine WL.nil ?_
          obtain ⟨q114, hq113, hr⟩ := bindS hr
          refine W.cut (fun a w => (.next ()) = q114 ∧ Rep a 95 [] ∧ St w s (pt b51 (.cells #[.bool x0.ByKm, .slice a0_0 x0.Bands.length c0_0, .int .i64 x0.Round, .slice a0_1 x0.Rules.length c0_1] 25 (0, 0)) :: R)) ?_ ?_
          · refine W.block ?_
            refine W.loop (fun m a w => ∃ (rest117 : List FareRule) (k115 : Nat), rest117.length = m ∧ x0.Rules.drop k115 = rest117 ∧ Fishref2TariffFault.loop2 fu rest117 = some q114 ∧ Rep a 95 [(70, .slice a0_1 x0.Rules.length c0_1), (71, .int .i64 ((x0.Rules).length : Int)), (72, .int .i64 ((k115 : Nat) : Int))] ∧ St w s (pt b51 (.cells #[.bool x0.ByKm, .slice a0_0 x0.Bands.length c0_0, .int .i64 x0.Round, .slice a0_1 x0.Rules.length c0_1] 25 (0, 0)) :: R)) (m := x0.Rules.length) ⟨x0.Rules, 0, rfl, rfl, hq113, hE.pick _ ⟨rfl, rfl, rfl, trivial⟩, hS⟩ ?_
            clear hE hS a w hq113; rintro m121 a w ⟨rest117, k115, rfl, hd118, hq113, hE, hS⟩
            refine W.gen fun K124 hK124 => ?_
            rcases rest117 with _ | ⟨x116, rest117⟩
            · have hlt119 := drop_nil hd118
              refine W.seq ?_
              refine W.region ?_
              refine WL.vS hS hE (runs_plain rfl) (Gives.p hE rfl) rfl ?_; clear hE a; intro a hE
              refine WL.nil ?_
              refine W.seq ?_
              refine W.condF hE rfl (decide_eq_false (by omega)) ?_
              subst hK124
              refine W.exit rfl ?_
              exact ⟨Option.some.inj hq113, hE.pick _ trivial, hS⟩
            · obtain ⟨hlt119, hx120, hd118⟩ := drop_cons hd118
              rw [Fishref2TariffFault.loop2] at hq113
              refine W.seq ?_
              refine W.region ?_
              refine WL.vS hS hE (runs_plain rfl) (Gives.p hE rfl) rfl ?_; clear hE a; intro a hE
              refine WL.nil ?_
              refine W.seq ?_
              refine W.condT hE rfl (decide_eq_true (by omega)) ?_
              refine W.skip ?_
              refine W.seq ?_
              refine W.block ?_
              refine W.seq ?_
              refine W.region ?_
              obtain ⟨cs125, hl126, hR127, hat128⟩ := h0_1.at hx120
              obtain ⟨a129, c130, rfl, h131⟩ := hR127
              refine WL.vS hS hE (runs_plain rfl) (Gives.idx hE k115 rfl rfl sl23 rfl hlt119 (h0_1.aok hlt119)) rfl ?_; clear hE a; intro a hE
              refine WL.vS hS hE (runs_plain rfl) (Gives.loadA hE rfl (fun w h => hat128 w _ h) ty77) rfl ?_; clear hE a; intro a hE
              refine WL.alloc hE hS (runs_plain rfl) zr77 rfl ?_; clear hE hS a w; intro b132 a w hE hS
              refine WL.storeI hE hS 0 rfl [.int .i64 x116.If.Kind, .int .i64 x116.If.A, .int .i64 x116.If.B, .slice a129 x116.If.Kids.length c130, .int .i64 x116.Do, .int .i64 x116.N, .bool x116.Stop] (runs_plain rfl) rfl rfl rfl ty77 rfl rfl rfl rfl ?_; clear hE hS a w; intro a w hE hS
              refine WL.nil ?_
              refine W.seq ?_
              refine W.seq ?_
              refine W.region ?_
              refine WL.vS hS hE (runs_plain rfl) (Gives.fld hE rfl fl77_0) rfl ?_; clear hE a; intro a hE
              refine WL.vS hS hE (runs_plain rfl) (Gives.loadA (cs := [.int .i64 x116.If.Kind, .int .i64 x116.If.A, .int .i64 x116.If.B, .slice a129 x116.If.Kids.length c130]) hE rfl (fun w h => (St.seesAt h 0 rfl).part 0 4) ty41) rfl ?_; clear hE a; intro a hE
              obtain ⟨q133, hq134, hq113⟩ := bindS hq113
              have hc_ := Fishref2CondFault_ok hS h131 hq134
              refine WL.fnq hE (hc_) (runs_plain rfl) bd20 rfl rfl rfl ?_
              clear hE hS hc_; rintro e w ⟨rfl, hS⟩; refine ⟨_, rfl, ?_⟩; clear a; intro a hE
              refine WL.vS hS hE (runs_plain rfl) (Gives.p hE rfl) rfl ?_; clear hE a; intro a hE
              refine WL.nil ?_
              refine W.seq ?_
              refine W.region ?_
              refine WL.vS hS hE (runs_plain rfl) (Gives.p hE rfl) rfl ?_; clear hE a; intro a hE
              refine WL.vS hS hE (runs_plain rfl) (Gives.p hE rfl) rfl ?_; clear hE a; intro a hE
              refine WL.nil ?_
              refine W.cond hE rfl (fun hc135 => ?_) (fun hc135 => ?_)
              · replace hq113 := iteT hc135 hq113
                refine W.seq ?_
                refine W.region ?_
                refine WL.vS hS hE (runs_plain rfl) (Gives.p hE rfl) rfl ?_; clear hE a; intro a hE
                refine WL.vS hS hE (runs_plain rfl) (Gives.p hE rfl) rfl ?_; clear hE a; intro a hE
                refine WL.nil ?_
                refine W.ret ?_
                subst hK124
                rw [← Option.some.inj hq113] at hr
                dsimp only at hr
                refine finG (fn := Try.f13) (rs := [.tmp 2]) (vs := [_]) hE rfl ⟨rfl, trivial⟩ ?_
                obtain rfl := Option.some.inj hr
                replace hS := hS.tail
                replace hS := hS.tail
                exact ⟨rfl, hS⟩
              · replace hq113 := iteF hc135 hq113
                refine W.skip ?_
                refine W.seq ?_
                refine W.seq ?_
                refine W.region ?_
                refine WL.vS hS hE (runs_plain rfl) (Gives.fld hE rfl fl77_1) rfl ?_; clear hE a; intro a hE
                refine WL.vS hS hE (runs_plain rfl) (Gives.loadB hE 0 rfl rfl rfl ty3) rfl ?_; clear hE a; intro a hE
                refine WL.fnq hE (Fishref2within_ok hS  rfl) (runs_plain rfl) bd41 rfl rfl rfl ?_
                clear hE hS; rintro e w ⟨rfl, hS⟩; refine ⟨_, rfl, ?_⟩; clear a; intro a hE
                refine WL.vS hS hE (runs_plain rfl) (Gives.p hE rfl) rfl ?_; clear hE a; intro a hE
                refine WL.nil ?_
                refine W.cond hE rfl (fun hc136 => ?_) (fun hc136 => ?_)
                · replace hq113 := iteT hc136 hq113
                  refine W.seq ?_
                  refine W.region ?_
                  refine WL.vS hS hE (runs_plain rfl) (Gives.p hE rfl) rfl ?_; clear hE a; intro a hE
                  refine WL.nil ?_
                  refine W.ret ?_
                  subst hK124
                  rw [← Option.some.inj hq113] at hr
                  dsimp only at hr
                  refine finG (fn := Try.f13) (rs := [.tmp 2]) (vs := [_]) hE rfl ⟨rfl, trivial⟩ ?_
                  obtain rfl := Option.some.inj hr
                  replace hS := hS.tail
                  replace hS := hS.tail
                  exact ⟨rfl, hS⟩
                · replace hq113 := iteF hc136 hq113
                  refine W.skip ?_
                  refine W.seq ?_
                  refine W.region ?_
                  refine WL.vS hS hE (runs_plain rfl) (Gives.p hE rfl) rfl ?_; clear hE a; intro a hE
                  refine WL.nil ?_
                  refine W.seq ?_
                  refine W.seq ?_
                  refine W.region ?_
                  refine WL.vS hS hE (runs_plain rfl) (Gives.fld hE rfl fl77_1) rfl ?_; clear hE a; intro a hE
                  refine WL.vS hS hE (runs_plain rfl) (Gives.loadB hE 0 rfl rfl rfl ty3) rfl ?_; clear hE a; intro a hE
                  refine WL.vS hS hE (runs_plain rfl) (Gives.p hE rfl) rfl ?_; clear hE a; intro a hE
                  refine WL.nil ?_
                  obtain ⟨q138, hq137, hq113⟩ := bndS hq113
                  refine W.cut (fun a w => ∃ (q141 : Int), q141 = q138 ∧ Rep a 95 [(6, .pointer (some ⟨b132, 0, none⟩)), (8, .int .i64 q141), (70, .slice a0_1 x0.Rules.length c0_1), (71, .int .i64 ((x0.Rules).length : Int)), (72, .int .i64 ((k115 : Nat) : Int))] ∧ St w s (pt b132 (.cells #[.int .i64 x116.If.Kind, .int .i64 x116.If.A, .int .i64 x116.If.B, .slice a129 x116.If.Kids.length c130, .int .i64 x116.Do, .int .i64 x116.N, .bool x116.Stop] 77 (0, 0)) :: pt b51 (.cells #[.bool x0.ByKm, .slice a0_0 x0.Bands.length c0_0, .int .i64 x0.Round, .slice a0_1 x0.Rules.length c0_1] 25 (0, 0)) :: R)) ?_ ?_
                  · refine W.gen fun K142 hK142 => ?_
                    refine W.cond hE rfl (fun hc143 => ?_) (fun hc143 => ?_)
                    · replace hq137 := iteT hc143 hq137
                      refine W.region ?_
                      refine WL.vS hS hE (runs_plain rfl) (Gives.p hE rfl) rfl ?_; clear hE a; intro a hE
                      refine WL.nil ?_
                      subst hK142
                      exact ⟨200, hq137, hE.pick _ ⟨rfl, rfl, rfl, rfl, rfl, trivial⟩, hS⟩
                    · replace hq137 := iteF hc143 hq137
                      refine W.skip ?_
                      subst hK142
                      exact ⟨100000, hq137, hE.pick _ ⟨rfl, rfl, rfl, rfl, rfl, trivial⟩, hS⟩
                  · clear hE hS a w; rintro a w ⟨q141, rfl, hE, hS⟩
                    refine W.seq ?_
                    refine W.region ?_
                    refine WL.vS hS hE (runs_plain rfl) (Gives.fld hE rfl fl77_2) rfl ?_; clear hE a; intro a hE
                    refine WL.vS hS hE (runs_plain rfl) (Gives.loadB hE 0 rfl rfl rfl ty3) rfl ?_; clear hE a; intro a hE
                    refine WL.vS hS hE (runs_plain rfl) (Gives.p hE rfl) rfl ?_; clear hE a; intro a hE
                    refine WL.fnq hE (Fishref2within_ok hS  rfl) (runs_plain rfl) bd41 rfl rfl rfl ?_
                    clear hE hS; rintro e w ⟨rfl, hS⟩; refine ⟨_, rfl, ?_⟩; clear a; intro a hE
                    refine WL.vS hS hE (runs_plain rfl) (Gives.p hE rfl) rfl ?_; clear hE a; intro a hE
                    refine WL.nil ?_
                    refine W.cond hE rfl (fun hc144 => ?_) (fun hc144 => ?_)
                    · replace hq113 := iteT hc144 hq113
                      refine W.seq ?_
                      refine W.region ?_
                      refine WL.vS hS hE (runs_plain rfl) (Gives.p hE rfl) rfl ?_; clear hE a; intro a hE
                      refine WL.nil ?_
                      refine W.ret ?_
                      subst hK124
                      rw [← Option.some.inj hq113] at hr
                      dsimp only at hr
                      refine finG (fn := Try.f13) (rs := [.tmp 2]) (vs := [_]) hE rfl ⟨rfl, trivial⟩ ?_
                      obtain rfl := Option.some.inj hr
                      replace hS := hS.tail
                      replace hS := hS.tail
                      exact ⟨rfl, hS⟩
                    · replace hq113 := iteF hc144 hq113
                      refine W.skip ?_
                      refine W.region ?_
                      refine WL.vS hS hE (runs_plain rfl) (Gives.inc hE rfl (by have := h0_1.small; omega)) rfl ?_; clear hE a; intro a hE
                      refine WL.vS hS hE (runs_plain rfl) (Gives.p hE rfl) rfl ?_; clear hE a; intro a hE
                      refine WL.nil ?_
                      replace hS := hS.tail
                      subst hK124
                      exact ⟨rest117.length, Nat.lt_succ_self _, rest117, k115 + 1, rfl, hd118, hq113, hE.pick _ ⟨rfl, rfl, rfl, trivial⟩, hS⟩
          · clear hE hS a w; rintro a w ⟨rfl, hE, hS⟩
            dsimp only at hr
            refine W.seq ?_
            refine W.region ?_
            refine WL.vS hS hE (runs_plain rfl) (Gives.p hE rfl) rfl ?_; clear hE a; intro a hE
            refine WL.nil ?_
            refine W.ret ?_
            refine finG (fn := Try.f13) (rs := [.tmp 2]) (vs := [_]) hE rfl ⟨rfl, trivial⟩ ?_
            obtain rfl := Option.some.inj hr
            replace hS := hS.tail
            exact ⟨rfl, hS⟩
set_option maxHeartbeats 8000000 in
theorem Fishref2TripFault_ok  {w : World} {s : Sg} {R : List HP} {x0 : FareTrip} {a0_0 : Option Addr} {c0_0 : Nat} (hS : St w s (R)) (h0_0 : Sl 1 (RI .i64) s a0_0 c0_0 x0.Zones) {r : Int} (hr : Fishref2TripFault x0 = some r) :
    Calls Try.prog 15 [.agg [.int .i64 x0.Day, .int .i64 x0.At, .int .i64 x0.Km, .int .i64 x0.Age, .bool x0.Card, .slice a0_0 x0.Zones.length c0_0].toArray].toArray w (fun e w => e = .returned (.int .i64 r) ∧ St w s (R)) := by
  refine enter Try.func15 rfl rfl rfl fun a hE => ?_
  rw [Fishref2TripFault] at hr
  refine W.seq ?_
  refine W.region ?_
  refine WL.box hE hS (runs_plain rfl) rfl rfl rfl ?_; clear hE hS a w; intro b51 a w hE hS
  refine WL.vS hS hE (runs_plain rfl) (Gives.p hE rfl) rfl ?_; clear hE a; intro a hE
  refine WL.nil ?_
  refine W.seq ?_
  refine W.seq ?_
  obtain ⟨q53, hq52, hr⟩ := bndS hr
  refine W.cut (fun a w => ∃ (q56 : Bool), q56 = q53 ∧ Rep a 56 [(1, .pointer (some ⟨b51, 0, none⟩)), (26, .bool q56)] ∧ St w s (pt b51 (.cells #[.int .i64 x0.Day, .int .i64 x0.At, .int .i64 x0.Km, .int .i64 x0.Age, .bool x0.Card, .slice a0_0 x0.Zones.length c0_0] 28 (0, 0)) :: R)) ?_ ?_
  · refine W.gen fun K57 hK57 => ?_
    refine W.region ?_
    refine WL.vS hS hE (runs_plain rfl) (Gives.fld hE rfl fl28_0) rfl ?_; clear hE a; intro a hE
    refine WL.vS hS hE (runs_plain rfl) (Gives.loadB hE 0 rfl rfl rfl ty3) rfl ?_; clear hE a; intro a hE
    refine WL.fnq hE (Fishref2within_ok hS  rfl) (runs_plain rfl) bd41 rfl rfl rfl ?_
    clear hE hS; rintro e w ⟨rfl, hS⟩; refine ⟨_, rfl, ?_⟩; clear a; intro a hE
    refine WL.vS hS hE (runs_plain rfl) (Gives.p hE rfl) rfl ?_; clear hE a; intro a hE
    refine WL.vS hS hE (runs_plain rfl) (Gives.p hE rfl) rfl ?_; clear hE a; intro a hE
    rcases Bool.eq_false_or_eq_true (!(Fishref2within x0.Day 0 6)) with hg58 | hg58
    · replace hq52 := iteT hg58 hq52
      refine WL.no hE (runs_not hE rfl rfl rfl (by rw [hg58]; decide)) rfl ?_; clear hE a; intro a hE
      refine WL.no hE (runs_not hE rfl rfl rfl (by rw [hg58]; decide)) rfl ?_; clear hE a; intro a hE
      refine WL.no hE (runs_not hE rfl rfl rfl (by rw [hg58]; decide)) rfl ?_; clear hE a; intro a hE
      refine WL.no hE (runs_not hE rfl rfl rfl (by rw [hg58]; decide)) rfl ?_; clear hE a; intro a hE
      refine WL.vS hS hE (runs_plain rfl) (Gives.pickT hE rfl hg58 rfl) rfl ?_; clear hE a; intro a hE
      refine WL.vS hS hE (runs_plain rfl) (Gives.p hE rfl) rfl ?_; clear hE a; intro a hE
      refine WL.no hE (runs_not hE rfl rfl rfl (by decide)) rfl ?_; clear hE a; intro a hE
      refine WL.no hE (runs_not hE rfl rfl rfl (by decide)) rfl ?_; clear hE a; intro a hE
      refine WL.no hE (runs_not hE rfl rfl rfl (by decide)) rfl ?_; clear hE a; intro a hE
      refine WL.no hE (runs_not hE rfl rfl rfl (by decide)) rfl ?_; clear hE a; intro a hE
      refine WL.vS hS hE (runs_plain rfl) (Gives.pickT hE rfl rfl rfl) rfl ?_; clear hE a; intro a hE
      refine WL.vS hS hE (runs_plain rfl) (Gives.p hE rfl) rfl ?_; clear hE a; intro a hE
      refine WL.no hE (runs_not hE rfl rfl rfl (by decide)) rfl ?_; clear hE a; intro a hE
      refine WL.no hE (runs_not hE rfl rfl rfl (by decide)) rfl ?_; clear hE a; intro a hE
      refine WL.no hE (runs_not hE rfl rfl rfl (by decide)) rfl ?_; clear hE a; intro a hE
      refine WL.no hE (runs_not hE rfl rfl rfl (by decide)) rfl ?_; clear hE a; intro a hE
      refine WL.vS hS hE (runs_plain rfl) (Gives.pickT hE rfl rfl rfl) rfl ?_; clear hE a; intro a hE
      refine WL.nil ?_
      subst hK57
      exact ⟨true, hq52, hE.pick _ ⟨rfl, rfl, trivial⟩, hS⟩
    · replace hq52 := iteF hg58 hq52
      refine WL.vS hS hE (runs_if hE rfl rfl rfl hg58) (Gives.fld hE rfl fl28_1) rfl ?_; clear hE a; intro a hE
      refine WL.vS hS hE (runs_if hE rfl rfl rfl hg58) (Gives.loadB hE 0 rfl rfl rfl ty3) rfl ?_; clear hE a; intro a hE
      refine WL.fnq hE (Fishref2within_ok hS  rfl) (runs_if hE rfl rfl rfl hg58) bd41 rfl rfl rfl ?_
      clear hE hS; rintro e w ⟨rfl, hS⟩; refine ⟨_, rfl, ?_⟩; clear a; intro a hE
      refine WL.vS hS hE (runs_if hE rfl rfl rfl hg58) (Gives.p hE rfl) rfl ?_; clear hE a; intro a hE
      refine WL.vS hS hE (runs_plain rfl) (Gives.pickF hE rfl hg58 rfl) rfl ?_; clear hE a; intro a hE
      refine WL.vS hS hE (runs_plain rfl) (Gives.p hE rfl) rfl ?_; clear hE a; intro a hE
      rcases Bool.eq_false_or_eq_true (!(Fishref2within x0.At 0 28800)) with hg59 | hg59
      · replace hq52 := iteT hg59 hq52
        refine WL.no hE (runs_not hE rfl rfl rfl (by rw [hg59]; decide)) rfl ?_; clear hE a; intro a hE
        refine WL.no hE (runs_not hE rfl rfl rfl (by rw [hg59]; decide)) rfl ?_; clear hE a; intro a hE
        refine WL.no hE (runs_not hE rfl rfl rfl (by rw [hg59]; decide)) rfl ?_; clear hE a; intro a hE
        refine WL.no hE (runs_not hE rfl rfl rfl (by rw [hg59]; decide)) rfl ?_; clear hE a; intro a hE
        refine WL.vS hS hE (runs_plain rfl) (Gives.pickT hE rfl hg59 rfl) rfl ?_; clear hE a; intro a hE
        refine WL.vS hS hE (runs_plain rfl) (Gives.p hE rfl) rfl ?_; clear hE a; intro a hE
        refine WL.no hE (runs_not hE rfl rfl rfl (by decide)) rfl ?_; clear hE a; intro a hE
        refine WL.no hE (runs_not hE rfl rfl rfl (by decide)) rfl ?_; clear hE a; intro a hE
        refine WL.no hE (runs_not hE rfl rfl rfl (by decide)) rfl ?_; clear hE a; intro a hE
        refine WL.no hE (runs_not hE rfl rfl rfl (by decide)) rfl ?_; clear hE a; intro a hE
        refine WL.vS hS hE (runs_plain rfl) (Gives.pickT hE rfl rfl rfl) rfl ?_; clear hE a; intro a hE
        refine WL.nil ?_
        subst hK57
        exact ⟨true, hq52, hE.pick _ ⟨rfl, rfl, trivial⟩, hS⟩
      · replace hq52 := iteF hg59 hq52
        refine WL.vS hS hE (runs_if hE rfl rfl rfl hg59) (Gives.fld hE rfl fl28_2) rfl ?_; clear hE a; intro a hE
        refine WL.vS hS hE (runs_if hE rfl rfl rfl hg59) (Gives.loadB hE 0 rfl rfl rfl ty3) rfl ?_; clear hE a; intro a hE
        refine WL.fnq hE (Fishref2within_ok hS  rfl) (runs_if hE rfl rfl rfl hg59) bd41 rfl rfl rfl ?_
        clear hE hS; rintro e w ⟨rfl, hS⟩; refine ⟨_, rfl, ?_⟩; clear a; intro a hE
        refine WL.vS hS hE (runs_if hE rfl rfl rfl hg59) (Gives.p hE rfl) rfl ?_; clear hE a; intro a hE
        refine WL.vS hS hE (runs_plain rfl) (Gives.pickF hE rfl hg59 rfl) rfl ?_; clear hE a; intro a hE
        refine WL.vS hS hE (runs_plain rfl) (Gives.p hE rfl) rfl ?_; clear hE a; intro a hE
        rcases Bool.eq_false_or_eq_true (!(Fishref2within x0.Km 0 1000)) with hg60 | hg60
        · replace hq52 := iteT hg60 hq52
          refine WL.no hE (runs_not hE rfl rfl rfl (by rw [hg60]; decide)) rfl ?_; clear hE a; intro a hE
          refine WL.no hE (runs_not hE rfl rfl rfl (by rw [hg60]; decide)) rfl ?_; clear hE a; intro a hE
          refine WL.no hE (runs_not hE rfl rfl rfl (by rw [hg60]; decide)) rfl ?_; clear hE a; intro a hE
          refine WL.no hE (runs_not hE rfl rfl rfl (by rw [hg60]; decide)) rfl ?_; clear hE a; intro a hE
          refine WL.vS hS hE (runs_plain rfl) (Gives.pickT hE rfl hg60 rfl) rfl ?_; clear hE a; intro a hE
          refine WL.nil ?_
          subst hK57
          exact ⟨true, hq52, hE.pick _ ⟨rfl, rfl, trivial⟩, hS⟩
        · replace hq52 := iteF hg60 hq52
          refine WL.vS hS hE (runs_if hE rfl rfl rfl hg60) (Gives.fld hE rfl fl28_3) rfl ?_; clear hE a; intro a hE
          refine WL.vS hS hE (runs_if hE rfl rfl rfl hg60) (Gives.loadB hE 0 rfl rfl rfl ty3) rfl ?_; clear hE a; intro a hE
          refine WL.fnq hE (Fishref2within_ok hS  rfl) (runs_if hE rfl rfl rfl hg60) bd41 rfl rfl rfl ?_
          clear hE hS; rintro e w ⟨rfl, hS⟩; refine ⟨_, rfl, ?_⟩; clear a; intro a hE
          refine WL.vS hS hE (runs_if hE rfl rfl rfl hg60) (Gives.p hE rfl) rfl ?_; clear hE a; intro a hE
          refine WL.vS hS hE (runs_plain rfl) (Gives.pickF hE rfl hg60 rfl) rfl ?_; clear hE a; intro a hE
          refine WL.nil ?_
          subst hK57
          exact ⟨!(Fishref2within x0.Age 0 120), hq52, hE.pick _ ⟨rfl, rfl, trivial⟩, hS⟩
  · clear hE hS a w; rintro a w ⟨q56, rfl, hE, hS⟩
    refine W.cond hE rfl (fun hc61 => ?_) (fun hc61 => ?_)
    · replace hr := iteT hc61 hr
      refine W.seq ?_
      refine W.region ?_
      refine WL.vS hS hE (runs_plain rfl) (Gives.p hE rfl) rfl ?_; clear hE a; intro a hE
      refine WL.nil ?_
      refine W.ret ?_
      refine finG (fn := Try.f15) (rs := [.tmp 2]) (vs := [_]) hE rfl ⟨rfl, trivial⟩ ?_
      obtain rfl := Option.some.inj hr
      replace hS := hS.tail
      exact ⟨rfl, hS⟩
    · replace hr := iteF hc61 hr
      refine W.skip ?_
      refine W.seq ?_
      refine W.seq ?_
      refine W.region ?_
      refine WL.vS hS hE (runs_plain rfl) (Gives.fld hE rfl fl28_5) rfl ?_; clear hE a; intro a hE
      refine WL.vS hS hE (runs_plain rfl) (Gives.loadB hE 0 rfl rfl rfl ty26) rfl ?_; clear hE a; intro a hE
      refine WL.vS hS hE (runs_plain rfl) (Gives.len hE rfl sl26) rfl ?_; clear hE a; intro a hE
      refine WL.fnq hE (Fishref2within_ok hS  rfl) (runs_plain rfl) bd41 rfl rfl rfl ?_
      clear hE hS; rintro e w ⟨rfl, hS⟩; refine ⟨_, rfl, ?_⟩; clear a; intro a hE
      refine WL.vS hS hE (runs_plain rfl) (Gives.p hE rfl) rfl ?_; clear hE a; intro a hE
      refine WL.nil ?_
      refine W.cond hE rfl (fun hc62 => ?_) (fun hc62 => ?_)
      · replace hr := iteT hc62 hr
        refine W.seq ?_
        refine W.region ?_
        refine WL.vS hS hE (runs_plain rfl) (Gives.p hE rfl) rfl ?_; clear hE a; intro a hE
        refine WL.nil ?_
        refine W.ret ?_
        refine finG (fn := Try.f15) (rs := [.tmp 2]) (vs := [_]) hE rfl ⟨rfl, trivial⟩ ?_
        obtain rfl := Option.some.inj hr
        replace hS := hS.tail
        exact ⟨rfl, hS⟩
      · replace hr := iteF hc62 hr
        refine W.skip ?_
        refine W.seq ?_
        refine W.seq ?_
        refine W.region ?_
        refine WL.vS hS hE (runs_plain rfl) (Gives.fld hE rfl fl28_5) rfl ?_; clear hE a; intro a hE
        refine WL.vS hS hE (runs_plain rfl) (Gives.loadB hE 0 rfl rfl rfl ty26) rfl ?_; clear hE a; intro a hE
        refine WL.vS hS hE (runs_plain rfl) (Gives.len hE rfl sl26) rfl ?_; clear hE a; intro a hE
        refine WL.vS hS hE (runs_plain rfl) (Gives.p hE rfl) rfl ?_; clear hE a; intro a hE
        refine WL.nil ?_
        obtain ⟨q64, hq63, hr⟩ := bindS hr
        refine W.cut (fun a w => (.next ()) = q64 ∧ Rep a 56 [] ∧ St w s (pt b51 (.cells #[.int .i64 x0.Day, .int .i64 x0.At, .int .i64 x0.Km, .int .i64 x0.Age, .bool x0.Card, .slice a0_0 x0.Zones.length c0_0] 28 (0, 0)) :: R)) ?_ ?_
        · refine W.block ?_
          refine W.loop (fun m a w => ∃ (rest67 : List Int) (k65 : Nat), rest67.length = m ∧ x0.Zones.drop k65 = rest67 ∧ Fishref2TripFault.loop1 x0 rest67 k65 = some q64 ∧ Rep a 56 [(1, .pointer (some ⟨b51, 0, none⟩)), (33, .slice a0_0 x0.Zones.length c0_0), (34, .int .i64 ((x0.Zones).length : Int)), (35, .int .i64 ((k65 : Nat) : Int))] ∧ St w s (pt b51 (.cells #[.int .i64 x0.Day, .int .i64 x0.At, .int .i64 x0.Km, .int .i64 x0.Age, .bool x0.Card, .slice a0_0 x0.Zones.length c0_0] 28 (0, 0)) :: R)) (m := x0.Zones.length) ⟨x0.Zones, 0, rfl, rfl, hq63, hE.pick _ ⟨rfl, rfl, rfl, rfl, trivial⟩, hS⟩ ?_
          clear hE hS a w hq63; rintro m71 a w ⟨rest67, k65, rfl, hd68, hq63, hE, hS⟩
          refine W.gen fun K74 hK74 => ?_
          rcases rest67 with _ | ⟨x66, rest67⟩
          · have hlt69 := drop_nil hd68
            refine W.seq ?_
            refine W.region ?_
            refine WL.vS hS hE (runs_plain rfl) (Gives.p hE rfl) rfl ?_; clear hE a; intro a hE
            refine WL.nil ?_
            refine W.seq ?_
            refine W.condF hE rfl (decide_eq_false (by omega)) ?_
            subst hK74
            refine W.exit rfl ?_
            exact ⟨Option.some.inj hq63, hE.pick _ trivial, hS⟩
          · obtain ⟨hlt69, hx70, hd68⟩ := drop_cons hd68
            rw [Fishref2TripFault.loop1] at hq63
            refine W.seq ?_
            refine W.region ?_
            refine WL.vS hS hE (runs_plain rfl) (Gives.p hE rfl) rfl ?_; clear hE a; intro a hE
            refine WL.nil ?_
            refine W.seq ?_
            refine W.condT hE rfl (decide_eq_true (by omega)) ?_
            refine W.skip ?_
            refine W.seq ?_
            refine W.block ?_
            refine W.seq ?_
            refine W.region ?_
            refine WL.vS hS hE (runs_plain rfl) (Gives.p hE rfl) rfl ?_; clear hE a; intro a hE
            obtain ⟨cs75, hl76, hR77, hat78⟩ := h0_0.at hx70
            subst hR77
            refine WL.vS hS hE (runs_plain rfl) (Gives.idx hE k65 rfl rfl sl26 rfl hlt69 (h0_0.aok hlt69)) rfl ?_; clear hE a; intro a hE
            refine WL.vS hS hE (runs_plain rfl) (Gives.load1 hE rfl (fun w h => hat78 w _ h) ty3) rfl ?_; clear hE a; intro a hE
            refine WL.vS hS hE (runs_plain rfl) (Gives.p hE rfl) rfl ?_; clear hE a; intro a hE
            refine WL.vS hS hE (runs_plain rfl) (Gives.p hE rfl) rfl ?_; clear hE a; intro a hE
            refine WL.nil ?_
            refine W.seq ?_
            refine W.seq ?_
            refine W.region ?_
            refine WL.vS hS hE (runs_plain rfl) (Gives.p hE rfl) rfl ?_; clear hE a; intro a hE
            refine WL.fnq hE (Fishref2within_ok hS  rfl) (runs_plain rfl) bd41 rfl rfl rfl ?_
            clear hE hS; rintro e w ⟨rfl, hS⟩; refine ⟨_, rfl, ?_⟩; clear a; intro a hE
            refine WL.vS hS hE (runs_plain rfl) (Gives.p hE rfl) rfl ?_; clear hE a; intro a hE
            refine WL.nil ?_
            refine W.cond hE rfl (fun hc79 => ?_) (fun hc79 => ?_)
            · replace hq63 := iteT hc79 hq63
              refine W.seq ?_
              refine W.region ?_
              refine WL.vS hS hE (runs_plain rfl) (Gives.p hE rfl) rfl ?_; clear hE a; intro a hE
              refine WL.nil ?_
              refine W.ret ?_
              subst hK74
              rw [← Option.some.inj hq63] at hr
              dsimp only at hr
              refine finG (fn := Try.f15) (rs := [.tmp 2]) (vs := [_]) hE rfl ⟨rfl, trivial⟩ ?_
              obtain rfl := Option.some.inj hr
              replace hS := hS.tail
              exact ⟨rfl, hS⟩
            · replace hq63 := iteF hc79 hq63
              refine W.skip ?_
              refine W.seq ?_
              obtain ⟨q81, hq80, hq63⟩ := bindS hq63
              refine W.cut (fun a w => ∃ (q84 : Bool), q84 = q81 ∧ Rep a 56 [(1, .pointer (some ⟨b51, 0, none⟩)), (33, .slice a0_0 x0.Zones.length c0_0), (34, .int .i64 ((x0.Zones).length : Int)), (35, .int .i64 ((k65 : Nat) : Int)), (54, .bool q84)] ∧ St w s (pt b51 (.cells #[.int .i64 x0.Day, .int .i64 x0.At, .int .i64 x0.Km, .int .i64 x0.Age, .bool x0.Card, .slice a0_0 x0.Zones.length c0_0] 28 (0, 0)) :: R)) ?_ ?_
              · refine W.gen fun K85 hK85 => ?_
                refine W.region ?_
                refine WL.vS hS hE (runs_plain rfl) (Gives.p hE rfl) rfl ?_; clear hE a; intro a hE
                refine WL.vS hS hE (runs_plain rfl) (Gives.p hE rfl) rfl ?_; clear hE a; intro a hE
                refine WL.vS hS hE (runs_plain rfl) (Gives.p hE rfl) rfl ?_; clear hE a; intro a hE
                rcases Bool.eq_false_or_eq_true (decide (((k65 : Nat) : Int) > 0)) with hg86 | hg86
                · replace hq80 := iteT hg86 hq80
                  refine WL.vS hS hE (runs_if hE rfl rfl rfl hg86) (Gives.p hE rfl) rfl ?_; clear hE a; intro a hE
                  refine WL.vS hS hE (runs_if hE rfl rfl rfl hg86) (Gives.fld hE rfl fl28_5) rfl ?_; clear hE a; intro a hE
                  refine WL.vS hS hE (runs_if hE rfl rfl rfl hg86) (Gives.loadB hE 0 rfl rfl rfl ty26) rfl ?_; clear hE a; intro a hE
                  refine WL.vS hS hE (runs_if hE rfl rfl rfl hg86) (Gives.p hE rfl) rfl ?_; clear hE a; intro a hE
                  refine WL.vS hS hE (runs_if hE rfl rfl rfl hg86) (Gives.p hE rfl) rfl ?_; clear hE a; intro a hE
                  obtain ⟨x87, hx88, hq80⟩ := bindS hq80
                  obtain ⟨hi89, hlt90, hy91⟩ := gx_some hx88
                  obtain ⟨cs92, hl93, hR94, hat95⟩ := h0_0.at hy91
                  subst hR94
                  refine WL.vS hS hE (runs_if hE rfl rfl rfl hg86) (Gives.idx hE (w64 (((k65 : Nat) : Int) - 1)).toNat rfl rfl sl26 hi89 hlt90 (h0_0.aok hlt90)) rfl ?_; clear hE a; intro a hE
                  refine WL.vS hS hE (runs_if hE rfl rfl rfl hg86) (Gives.load1 hE rfl (fun w h => hat95 w _ h) ty3) rfl ?_; clear hE a; intro a hE
                  refine WL.vS hS hE (runs_if hE rfl rfl rfl hg86) (Gives.p hE rfl) rfl ?_; clear hE a; intro a hE
                  refine WL.vS hS hE (runs_plain rfl) (Gives.pickT hE rfl hg86 rfl) rfl ?_; clear hE a; intro a hE
                  refine WL.nil ?_
                  subst hK85
                  exact ⟨(x66 == x87), Option.some.inj hq80, hE.pick _ ⟨rfl, rfl, rfl, rfl, rfl, trivial⟩, hS⟩
                · replace hq80 := iteF hg86 hq80
                  refine WL.no hE (runs_not hE rfl rfl rfl (by rw [hg86]; decide)) rfl ?_; clear hE a; intro a hE
                  refine WL.no hE (runs_not hE rfl rfl rfl (by rw [hg86]; decide)) rfl ?_; clear hE a; intro a hE
                  refine WL.no hE (runs_not hE rfl rfl rfl (by rw [hg86]; decide)) rfl ?_; clear hE a; intro a hE
                  refine WL.no hE (runs_not hE rfl rfl rfl (by rw [hg86]; decide)) rfl ?_; clear hE a; intro a hE
                  refine WL.no hE (runs_not hE rfl rfl rfl (by rw [hg86]; decide)) rfl ?_; clear hE a; intro a hE
                  refine WL.no hE (runs_not hE rfl rfl rfl (by rw [hg86]; decide)) rfl ?_; clear hE a; intro a hE
                  refine WL.no hE (runs_not hE rfl rfl rfl (by rw [hg86]; decide)) rfl ?_; clear hE a; intro a hE
                  refine WL.no hE (runs_not hE rfl rfl rfl (by rw [hg86]; decide)) rfl ?_; clear hE a; intro a hE
                  refine WL.vS hS hE (runs_plain rfl) (Gives.pickF hE rfl hg86 rfl) rfl ?_; clear hE a; intro a hE
                  refine WL.nil ?_
                  subst hK85
                  exact ⟨false, Option.some.inj hq80, hE.pick _ ⟨rfl, rfl, rfl, rfl, rfl, trivial⟩, hS⟩
              · clear hE hS a w; rintro a w ⟨q84, rfl, hE, hS⟩
                refine W.cond hE rfl (fun hc96 => ?_) (fun hc96 => ?_)
                · replace hq63 := iteT hc96 hq63
                  refine W.seq ?_
                  refine W.region ?_
                  refine WL.vS hS hE (runs_plain rfl) (Gives.p hE rfl) rfl ?_; clear hE a; intro a hE
                  refine WL.nil ?_
                  refine W.ret ?_
                  subst hK74
                  rw [← Option.some.inj hq63] at hr
                  dsimp only at hr
                  refine finG (fn := Try.f15) (rs := [.tmp 2]) (vs := [_]) hE rfl ⟨rfl, trivial⟩ ?_
                  obtain rfl := Option.some.inj hr
                  replace hS := hS.tail
                  exact ⟨rfl, hS⟩
                · replace hq63 := iteF hc96 hq63
                  refine W.skip ?_
                  refine W.region ?_
                  refine WL.vS hS hE (runs_plain rfl) (Gives.inc hE rfl (by have := h0_0.small; omega)) rfl ?_; clear hE a; intro a hE
                  refine WL.vS hS hE (runs_plain rfl) (Gives.p hE rfl) rfl ?_; clear hE a; intro a hE
                  refine WL.nil ?_
                  subst hK74
                  exact ⟨rest67.length, Nat.lt_succ_self _, rest67, k65 + 1, rfl, hd68, hq63, hE.pick _ ⟨rfl, rfl, rfl, rfl, trivial⟩, hS⟩
        · clear hE hS a w; rintro a w ⟨rfl, hE, hS⟩
          dsimp only at hr
          refine W.seq ?_
          refine W.region ?_
          refine WL.vS hS hE (runs_plain rfl) (Gives.p hE rfl) rfl ?_; clear hE a; intro a hE
          refine WL.nil ?_
          refine W.ret ?_
          refine finG (fn := Try.f15) (rs := [.tmp 2]) (vs := [_]) hE rfl ⟨rfl, trivial⟩ ?_
          obtain rfl := Option.some.inj hr
          replace hS := hS.tail
          exact ⟨rfl, hS⟩
set_option maxHeartbeats 8000000 in
theorem SlicesEqualLint_ok  {w : World} {s : Sg} {R : List HP} {x0 : List Int} {a0 : Option Addr} {c0 : Nat} {x1 : List Int} {a1 : Option Addr} {c1 : Nat} (hS : St w s (R)) (h0 : Sl 1 (RI .i64) s a0 c0 x0) (h1 : Sl 1 (RI .i64) s a1 c1 x1) {r : Bool} (hr : SlicesEqualLint x0 x1 = some r) :
    Calls Try.prog 18 [.slice a0 x0.length c0, .slice a1 x1.length c1].toArray w (fun e w => e = .returned (.bool r) ∧ St w s (R)) := by
  refine enter Try.func18 rfl rfl rfl fun a hE => ?_
  rw [SlicesEqualLint] at hr
  refine W.seq ?_
  refine W.region ?_
  refine WL.vS hS hE (runs_plain rfl) (Gives.p hE rfl) rfl ?_; clear hE a; intro a hE
  refine WL.nil ?_
  refine W.seq ?_
  refine W.seq ?_
  refine W.region ?_
  refine WL.vS hS hE (runs_plain rfl) (Gives.p hE rfl) rfl ?_; clear hE a; intro a hE
  refine WL.vS hS hE (runs_plain rfl) (Gives.len hE rfl sl26) rfl ?_; clear hE a; intro a hE
  refine WL.vS hS hE (runs_plain rfl) (Gives.p hE rfl) rfl ?_; clear hE a; intro a hE
  refine WL.vS hS hE (runs_plain rfl) (Gives.len hE rfl sl26) rfl ?_; clear hE a; intro a hE
  refine WL.vS hS hE (runs_plain rfl) (Gives.p hE rfl) rfl ?_; clear hE a; intro a hE
  refine WL.nil ?_
  refine W.cond hE rfl (fun hc51 => ?_) (fun hc51 => ?_)
  · replace hr := iteT hc51 hr
    refine W.seq ?_
    refine W.region ?_
    refine WL.vS hS hE (runs_plain rfl) (Gives.p hE rfl) rfl ?_; clear hE a; intro a hE
    refine WL.nil ?_
    refine W.ret ?_
    refine finG (fn := Try.f18) (rs := [.tmp 4]) (vs := [_]) hE rfl ⟨rfl, trivial⟩ ?_
    obtain rfl := Option.some.inj hr
    exact ⟨rfl, hS⟩
  · replace hr := iteF hc51 hr
    refine W.skip ?_
    refine W.seq ?_
    refine W.seq ?_
    refine W.region ?_
    refine WL.vS hS hE (runs_plain rfl) (Gives.p hE rfl) rfl ?_; clear hE a; intro a hE
    refine WL.vS hS hE (runs_plain rfl) (Gives.len hE rfl sl26) rfl ?_; clear hE a; intro a hE
    refine WL.vS hS hE (runs_plain rfl) (Gives.p hE rfl) rfl ?_; clear hE a; intro a hE
    refine WL.nil ?_
    obtain ⟨q53, hq52, hr⟩ := bindS hr
    refine W.cut (fun a w => (.next ()) = q53 ∧ Rep a 26 [] ∧ St w s (R)) ?_ ?_
    · refine W.block ?_
      refine W.loop (fun m a w => ∃ (rest56 : List Int) (k54 : Nat), rest56.length = m ∧ x0.drop k54 = rest56 ∧ SlicesEqualLint.loop1 x1 rest56 k54 = some q53 ∧ Rep a 26 [(0, .slice a0 x0.length c0), (1, .slice a1 x1.length c1), (12, .int .i64 ((x0).length : Int)), (13, .int .i64 ((k54 : Nat) : Int))] ∧ St w s (R)) (m := x0.length) ⟨x0, 0, rfl, rfl, hq52, hE.pick _ ⟨rfl, rfl, rfl, rfl, trivial⟩, hS⟩ ?_
      clear hE hS a w hq52; rintro m60 a w ⟨rest56, k54, rfl, hd57, hq52, hE, hS⟩
      refine W.gen fun K63 hK63 => ?_
      rcases rest56 with _ | ⟨x55, rest56⟩
      · have hlt58 := drop_nil hd57
        refine W.seq ?_
        refine W.region ?_
        refine WL.vS hS hE (runs_plain rfl) (Gives.p hE rfl) rfl ?_; clear hE a; intro a hE
        refine WL.nil ?_
        refine W.seq ?_
        refine W.condF hE rfl (decide_eq_false (by omega)) ?_
        subst hK63
        refine W.exit rfl ?_
        exact ⟨Option.some.inj hq52, hE.pick _ trivial, hS⟩
      · obtain ⟨hlt58, hx59, hd57⟩ := drop_cons hd57
        rw [SlicesEqualLint.loop1] at hq52
        refine W.seq ?_
        refine W.region ?_
        refine WL.vS hS hE (runs_plain rfl) (Gives.p hE rfl) rfl ?_; clear hE a; intro a hE
        refine WL.nil ?_
        refine W.seq ?_
        refine W.condT hE rfl (decide_eq_true (by omega)) ?_
        refine W.skip ?_
        refine W.seq ?_
        refine W.block ?_
        refine W.seq ?_
        refine W.region ?_
        refine WL.vS hS hE (runs_plain rfl) (Gives.p hE rfl) rfl ?_; clear hE a; intro a hE
        refine WL.vS hS hE (runs_plain rfl) (Gives.p hE rfl) rfl ?_; clear hE a; intro a hE
        refine WL.nil ?_
        refine W.seq ?_
        refine W.regionQ (C := fun w => St w s (R)) mixed (by kernel_rfl) hS.drew ?_
        refine QL.v hE (runs_plain rfl) (Gives.p hE rfl) rfl ?_; clear hE a; intro a hE
        refine QL.v hE (runs_plain rfl) (Gives.p hE rfl) rfl ?_; clear hE a; intro a hE
        obtain ⟨cs64, hl65, hR66, hat67⟩ := h0.at hx59
        subst hR66
        refine QL.v hE (runs_plain rfl) (Gives.idx hE k54 rfl rfl sl26 rfl hlt58 (h0.aok hlt58)) rfl ?_; clear hE a; intro a hE
        refine QL.v hE (runs_plain rfl) (Gives.load1 hE rfl (fun w h => hat67 w _ h) ty3) rfl ?_; clear hE a; intro a hE
        refine QL.v hE (runs_plain rfl) (Gives.p hE rfl) rfl ?_; clear hE a; intro a hE
        refine QL.v hE (runs_plain rfl) (Gives.p hE rfl) rfl ?_; clear hE a; intro a hE
        obtain ⟨x68, hx69, hq52⟩ := bindS hq52
        obtain ⟨hi70, hlt71, hy72⟩ := gx_some hx69
        obtain ⟨cs73, hl74, hR75, hat76⟩ := h1.at hy72
        subst hR75
        refine QL.v hE (runs_plain rfl) (Gives.idx hE (((k54 : Nat) : Int)).toNat rfl rfl sl26 hi70 hlt71 (h1.aok hlt71)) rfl ?_; clear hE a; intro a hE
        refine QL.v hE (runs_plain rfl) (Gives.load1 hE rfl (fun w h => hat76 w _ h) ty3) rfl ?_; clear hE a; intro a hE
        refine QL.v hE (runs_plain rfl) (Gives.p hE rfl) rfl ?_; clear hE a; intro a hE
        refine QL.nil ?_; clear hS w; intro w hS
        refine W.cond hE rfl (fun hc77 => ?_) (fun hc77 => ?_)
        · replace hq52 := iteT hc77 hq52
          refine W.seq ?_
          refine W.region ?_
          refine WL.vS hS hE (runs_plain rfl) (Gives.p hE rfl) rfl ?_; clear hE a; intro a hE
          refine WL.nil ?_
          refine W.ret ?_
          subst hK63
          rw [← Option.some.inj hq52] at hr
          dsimp only at hr
          refine finG (fn := Try.f18) (rs := [.tmp 4]) (vs := [_]) hE rfl ⟨rfl, trivial⟩ ?_
          obtain rfl := Option.some.inj hr
          exact ⟨rfl, hS⟩
        · replace hq52 := iteF hc77 hq52
          refine W.skip ?_
          refine W.region ?_
          refine WL.vS hS hE (runs_plain rfl) (Gives.inc hE rfl (by have := h0.small; omega)) rfl ?_; clear hE a; intro a hE
          refine WL.vS hS hE (runs_plain rfl) (Gives.p hE rfl) rfl ?_; clear hE a; intro a hE
          refine WL.nil ?_
          subst hK63
          exact ⟨rest56.length, Nat.lt_succ_self _, rest56, k54 + 1, rfl, hd57, hq52, hE.pick _ ⟨rfl, rfl, rfl, rfl, trivial⟩, hS⟩
    · clear hE hS a w; rintro a w ⟨rfl, hE, hS⟩
      dsimp only at hr
      refine W.seq ?_
      refine W.region ?_
      refine WL.vS hS hE (runs_plain rfl) (Gives.p hE rfl) rfl ?_; clear hE a; intro a hE
      refine WL.nil ?_
      refine W.ret ?_
      refine finG (fn := Try.f18) (rs := [.tmp 4]) (vs := [_]) hE rfl ⟨rfl, trivial⟩ ?_
      obtain rfl := Option.some.inj hr
      exact ⟨rfl, hS⟩
set_option maxHeartbeats 8000000 in
theorem Fishlaw2fares_ok {fu : Nat}  {w : World} {s : Sg} {R : List HP}  (hS : St w s (R))  {r : Bool} (hr : Fishlaw2fares fu = some r) :
    Calls Try.prog 11 [].toArray w (fun e w => e = .returned (.bool r) ∧ St w s (R)) := by
  refine enter Try.func11 rfl rfl rfl fun a hE => ?_
  rw [Fishlaw2fares] at hr
  refine W.seq ?_
  refine W.region ?_
  refine WL.vS hS hE (runs_plain rfl) (Gives.p hE rfl) rfl ?_; clear hE a; intro a hE
  refine WL.nil ?_
  refine W.seq ?_
  refine W.region ?_
  refine WL.vS hS hE (runs_plain rfl) (Gives.build hE (vs := [(0, .int .i64 3), (1, .int .i64 500)]) [.int .i64 3, .int .i64 500] rfl (by kernel_rfl)) rfl ?_; clear hE a; intro a hE
  refine WL.lit hE hS (e := 75) (es := 2) (vs := [(0, .agg [.int .i64 3, .int .i64 500].toArray)]) (cs := [.int .i64 3, .int .i64 500]) (runs_plain rfl) rfl (by kernel_rfl) rfl ?_; clear hE hS a w; intro b51 a w hE hS
  replace hS := hS.ptVec (es := 2) (m := 1) rfl (by decide)
  have h53 : Ev 2 RFareBand s [.int .i64 3, .int .i64 500] [(FareBand.mk 3 500)] := (Ev.cons (c1 := [.int .i64 3, .int .i64 500]) rfl rfl (Ev.nil))
  have hF := hS.fixD RFareBand.mono 0 rfl h53 (rfl); clear hS; obtain ⟨s54, hle55, hS, h56⟩ := hF
  refine WL.vS hS hE (runs_plain rfl) (Gives.build hE (vs := [(0, .int .i64 2), (2, .int .i64 14)]) [.int .i64 2, .int .i64 0, .int .i64 14, .slice none 0 0] rfl (by kernel_rfl)) rfl ?_; clear hE a; intro a hE
  refine WL.vS hS hE (runs_plain rfl) (Gives.build hE (vs := [(0, .agg [.int .i64 2, .int .i64 0, .int .i64 14, .slice none 0 0].toArray), (1, .int .i64 1), (2, .int .i64 50)]) [.int .i64 2, .int .i64 0, .int .i64 14, .slice none 0 0, .int .i64 1, .int .i64 50, .bool false] rfl (by kernel_rfl)) rfl ?_; clear hE a; intro a hE
  refine WL.lit hE hS (e := 77) (es := 7) (vs := [(0, .agg [.int .i64 2, .int .i64 0, .int .i64 14, .slice none 0 0, .int .i64 1, .int .i64 50, .bool false].toArray)]) (cs := [.int .i64 2, .int .i64 0, .int .i64 14, .slice none 0 0, .int .i64 1, .int .i64 50, .bool false]) (runs_plain rfl) rfl (by kernel_rfl) rfl ?_; clear hE hS a w; intro b57 a w hE hS
  replace hS := hS.ptVec (es := 7) (m := 1) rfl (by decide)
  have h59 : Ev 7 RFareRule s54 [.int .i64 2, .int .i64 0, .int .i64 14, .slice none 0 0, .int .i64 1, .int .i64 50, .bool false] [(FareRule.mk (FareCond.mk 2 0 14 []) 1 50 false)] := (Ev.cons (c1 := [.int .i64 2, .int .i64 0, .int .i64 14, .slice none 0 0, .int .i64 1, .int .i64 50, .bool false]) ⟨_, _, rfl, Sl.nil⟩ rfl (Ev.nil))
  have hF := hS.fixD RFareRule.mono 0 rfl h59 (rfl); clear hS; obtain ⟨s60, hle61, hS, h62⟩ := hF
  replace h56 := Sl.mono RFareBand.mono hle61 h56
  refine WL.vS hS hE (runs_plain rfl) (Gives.build hE (vs := [(1, .slice (some ⟨b51, 0, none⟩) 1 1), (2, .int .i64 50), (3, .slice (some ⟨b57, 0, none⟩) 1 1)]) [.bool false, .slice (some ⟨b51, 0, none⟩) 1 1, .int .i64 50, .slice (some ⟨b57, 0, none⟩) 1 1] rfl (by kernel_rfl)) rfl ?_; clear hE a; intro a hE
  refine WL.alloc hE hS (runs_plain rfl) zr25 rfl ?_; clear hE hS a w; intro b63 a w hE hS
  refine WL.storeI hE hS 0 rfl [.bool false, .slice (some ⟨b51, 0, none⟩) 1 1, .int .i64 50, .slice (some ⟨b57, 0, none⟩) 1 1] (runs_plain rfl) rfl rfl rfl ty25 rfl rfl rfl rfl ?_; clear hE hS a w; intro a w hE hS
  refine WL.nil ?_
  refine W.seq ?_
  refine W.region ?_
  refine WL.vS hS hE (runs_plain rfl) (Gives.loadBA hE 0 rfl rfl ty25) rfl ?_; clear hE a; intro a hE
  refine WL.lit hE hS (e := 3) (es := 1) (vs := [(0, .int .i64 1), (1, .int .i64 2)]) (cs := [.int .i64 1, .int .i64 2]) (runs_plain rfl) rfl (by kernel_rfl) rfl ?_; clear hE hS a w; intro b64 a w hE hS
  replace hS := hS.ptVec (es := 1) (m := 2) rfl (by decide)
  have h66 : Ev 1 (RI .i64) s60 [.int .i64 1, .int .i64 2] [1, 2] := (Ev.cons (c1 := [.int .i64 1]) rfl rfl (Ev.cons (c1 := [.int .i64 2]) rfl rfl (Ev.nil)))
  have hF := hS.fixD RI.mono 0 rfl h66 (rfl); clear hS; obtain ⟨s67, hle68, hS, h69⟩ := hF
  replace h56 := Sl.mono RFareBand.mono hle68 h56
  replace h62 := Sl.mono RFareRule.mono hle68 h62
  refine WL.vS hS hE (runs_plain rfl) (Gives.build hE (vs := [(3, .int .i64 10), (5, .slice (some ⟨b64, 0, none⟩) 2 2)]) [.int .i64 0, .int .i64 0, .int .i64 0, .int .i64 10, .bool false, .slice (some ⟨b64, 0, none⟩) 2 2] rfl (by kernel_rfl)) rfl ?_; clear hE a; intro a hE
  obtain ⟨q70, hq71, hr⟩ := bindS hr
  have hc_ := FarePrice_ok hS h56 h62 h69 hq71
  refine WL.fnq hE (hc_) (runs_plain rfl) bd16 rfl rfl rfl ?_
  clear hE hS hc_; rintro e w ⟨a72, c73, n74, cs75, rfl, h76, rfl, hS⟩; refine ⟨_, rfl, ?_⟩; clear a; intro a hE
  refine WL.vS hS hE (runs_plain rfl) (Gives.p hE rfl) rfl ?_; clear hE a; intro a hE
  refine WL.vS hS hE (runs_plain rfl) (Gives.p hE rfl) rfl ?_; clear hE a; intro a hE
  refine WL.vS hS hE (runs_plain rfl) (Gives.p hE rfl) rfl ?_; clear hE a; intro a hE
  refine WL.vS hS hE (runs_plain rfl) (Gives.p hE rfl) rfl ?_; clear hE a; intro a hE
  refine WL.vS hS hE (runs_plain rfl) (Gives.p hE rfl) rfl ?_; clear hE a; intro a hE
  refine WL.vS hS hE (runs_plain rfl) (Gives.p hE rfl) rfl ?_; clear hE a; intro a hE
  refine WL.vS hS hE (runs_plain rfl) (Gives.p hE rfl) rfl ?_; clear hE a; intro a hE
  refine WL.nil ?_
  refine W.seq ?_
  obtain ⟨q79, hq78, hr⟩ := bindS hr
  refine W.cut (fun a w => ∃ (q82 : Bool), ∃ (s80 : Sg), s67.Le s80 ∧ q82 = q79 ∧ Rep a 30 [(0, .bool q82)] ∧ St w s80 (vecC 3 1 a72 c73 q70.2.1.length cs75 :: pt b63 (.cells #[.bool false, .slice (some ⟨b51, 0, none⟩) 1 1, .int .i64 50, .slice (some ⟨b57, 0, none⟩) 1 1] 25 (0, 0)) :: R)) ?_ ?_
  · refine W.gen fun K83 hK83 => ?_
    refine W.region ?_
    refine WL.vS hS hE (runs_plain rfl) (Gives.p hE rfl) rfl ?_; clear hE a; intro a hE
    refine WL.vS hS hE (runs_plain rfl) (Gives.p hE rfl) rfl ?_; clear hE a; intro a hE
    refine WL.vS hS hE (runs_plain rfl) (Gives.p hE rfl) rfl ?_; clear hE a; intro a hE
    rcases Bool.eq_false_or_eq_true (q70.2.2 == 0) with hg84 | hg84
    · replace hq78 := iteT hg84 hq78
      refine WL.vS hS hE (runs_if hE rfl rfl rfl hg84) (Gives.p hE rfl) rfl ?_; clear hE a; intro a hE
      refine WL.vS hS hE (runs_if hE rfl rfl rfl hg84) (Gives.p hE rfl) rfl ?_; clear hE a; intro a hE
      refine WL.vS hS hE (runs_plain rfl) (Gives.pickT hE rfl hg84 rfl) rfl ?_; clear hE a; intro a hE
      refine WL.vS hS hE (runs_plain rfl) (Gives.p hE rfl) rfl ?_; clear hE a; intro a hE
      rcases Bool.eq_false_or_eq_true (q70.1 == 250) with hg85 | hg85
      · replace hq78 := iteT hg85 hq78
        refine WL.vS hS hE (runs_if hE rfl rfl rfl hg85) (Gives.p hE rfl) rfl ?_; clear hE a; intro a hE
        refine WL.lit hE hS (e := 3) (es := 1) (vs := [(0, .int .i64 0)]) (cs := [.int .i64 0]) (runs_if hE rfl rfl rfl hg85) rfl (by kernel_rfl) rfl ?_; clear hE hS a w; intro b86 a w hE hS
        replace hS := hS.ptVec (es := 1) (m := 1) rfl (by decide)
        have h88 : Ev 1 (RI .i64) s67 [.int .i64 0] [0] := (Ev.cons (c1 := [.int .i64 0]) rfl rfl (Ev.nil))
        have hF := hS.fixD RI.mono 0 rfl h88 (rfl); clear hS; obtain ⟨s89, hle90, hS, h91⟩ := hF
        replace h56 := Sl.mono RFareBand.mono hle90 h56
        replace h62 := Sl.mono RFareRule.mono hle90 h62
        replace h69 := Sl.mono RI.mono hle90 h69
        replace h76 := Ev.mono RI.mono hle90 h76
        obtain ⟨q92, hq93, hq78⟩ := bindS hq78
        have hF := hS.lendV RI.mono 0 rfl h76 rfl; clear hS; obtain ⟨t94, hle95, hS, hs96, bk97⟩ := hF
        have hc_ := SlicesEqualLint_ok hS hs96 (Sl.mono RI.mono hle95 h91) hq93
        refine WL.fnq hE (hc_) (runs_if hE rfl rfl rfl hg85) bd18 rfl rfl rfl ?_
        clear hE hS hc_; rintro e w ⟨rfl, hS⟩; refine ⟨_, rfl, ?_⟩; clear a; intro a hE
        replace hS := bk97 _ _ hS
        refine WL.vS hS hE (runs_plain rfl) (Gives.pickT hE rfl hg85 rfl) rfl ?_; clear hE a; intro a hE
        refine WL.vS hS hE (runs_plain rfl) (Gives.p hE rfl) rfl ?_; clear hE a; intro a hE
        refine WL.nil ?_
        subst hK83
        exact ⟨q92, s89, hle90, Option.some.inj hq78, hE.pick _ ⟨rfl, trivial⟩, hS⟩
      · replace hq78 := iteF hg85 hq78
        refine WL.no hE (runs_not hE rfl rfl rfl (by rw [hg85]; decide)) rfl ?_; clear hE a; intro a hE
        refine WL.no hE (runs_not hE rfl rfl rfl (by rw [hg85]; decide)) rfl ?_; clear hE a; intro a hE
        refine WL.no hE (runs_not hE rfl rfl rfl (by rw [hg85]; decide)) rfl ?_; clear hE a; intro a hE
        refine WL.vS hS hE (runs_plain rfl) (Gives.pickF hE rfl hg85 rfl) rfl ?_; clear hE a; intro a hE
        refine WL.vS hS hE (runs_plain rfl) (Gives.p hE rfl) rfl ?_; clear hE a; intro a hE
        refine WL.nil ?_
        subst hK83
        exact ⟨false, s67, (Sg.Le.refl _), Option.some.inj hq78, hE.pick _ ⟨rfl, trivial⟩, hS⟩
    · replace hq78 := iteF hg84 hq78
      refine WL.no hE (runs_not hE rfl rfl rfl (by rw [hg84]; decide)) rfl ?_; clear hE a; intro a hE
      refine WL.no hE (runs_not hE rfl rfl rfl (by rw [hg84]; decide)) rfl ?_; clear hE a; intro a hE
      refine WL.vS hS hE (runs_plain rfl) (Gives.pickF hE rfl hg84 rfl) rfl ?_; clear hE a; intro a hE
      refine WL.vS hS hE (runs_plain rfl) (Gives.p hE rfl) rfl ?_; clear hE a; intro a hE
      refine WL.no hE (runs_not hE rfl rfl rfl (by decide)) rfl ?_; clear hE a; intro a hE
      refine WL.no hE (runs_not hE rfl rfl rfl (by decide)) rfl ?_; clear hE a; intro a hE
      refine WL.no hE (runs_not hE rfl rfl rfl (by decide)) rfl ?_; clear hE a; intro a hE
      refine WL.vS hS hE (runs_plain rfl) (Gives.pickF hE rfl rfl rfl) rfl ?_; clear hE a; intro a hE
      refine WL.vS hS hE (runs_plain rfl) (Gives.p hE rfl) rfl ?_; clear hE a; intro a hE
      refine WL.nil ?_
      subst hK83
      exact ⟨false, s67, (Sg.Le.refl _), Option.some.inj hq78, hE.pick _ ⟨rfl, trivial⟩, hS⟩
  · clear hE hS a w; rintro a w ⟨q82, s80, hle81, rfl, hE, hS⟩
    replace h56 := Sl.mono RFareBand.mono hle81 h56
    replace h62 := Sl.mono RFareRule.mono hle81 h62
    replace h69 := Sl.mono RI.mono hle81 h69
    replace h76 := Ev.mono RI.mono hle81 h76
    refine W.ret ?_
    refine finG (fn := Try.f11) (rs := [.tmp 0]) (vs := [_]) hE rfl ⟨rfl, trivial⟩ ?_
    obtain rfl := Option.some.inj hr
    replace hS := hS.tail
    replace hS := hS.tail
    exact ⟨rfl, (hS.down (Sg.Le.trans (Sg.Le.trans (Sg.Le.trans hle55 hle61) hle68) hle81))⟩
set_option maxHeartbeats 8000000 in
theorem Fishref2HoldsOf_ok : ∀ {fu : Nat} {w : World} {s : Sg} {R : List HP} {x0 : FareCond} {a0_0 : Option Addr} {c0_0 : Nat} {x1 : FareTrip} {a1_0 : Option Addr} {c1_0 : Nat} (_hS : St w s (R)) (_h0_0 : Sl 4 RFareCond s a0_0 c0_0 x0.Kids) (_h1_0 : Sl 1 (RI .i64) s a1_0 c1_0 x1.Zones) {r : Bool} (_hr : Fishref2HoldsOf fu x0 x1 = some r),
    Calls Try.prog 21 [.agg [.int .i64 x0.Kind, .int .i64 x0.A, .int .i64 x0.B, .slice a0_0 x0.Kids.length c0_0].toArray, .agg [.int .i64 x1.Day, .int .i64 x1.At, .int .i64 x1.Km, .int .i64 x1.Age, .bool x1.Card, .slice a1_0 x1.Zones.length c1_0].toArray].toArray w (fun e w => e = .returned (.bool r) ∧ St w s (R)) := by
  intro fu
  induction fu with
  | zero => intro w s R x0 a0_0 c0_0 x1 a1_0 c1_0 hS h0_0 h1_0 r hr; rw [Fishref2HoldsOf] at hr; exact absurd hr (by simp)
  | succ fu ih_Fishref2HoldsOf =>
    intro w s R x0 a0_0 c0_0 x1 a1_0 c1_0 hS h0_0 h1_0 r hr
    rw [Fishref2HoldsOf] at hr
    generalize Fishref2HoldsOf fu = self_Fishref2HoldsOf at hr ih_Fishref2HoldsOf
    refine enter Try.func21 rfl rfl rfl fun a hE => ?_
    refine W.seq ?_
    refine W.region ?_
    refine WL.box hE hS (runs_plain rfl) rfl rfl rfl ?_; clear hE hS a w; intro b51 a w hE hS
    refine WL.box hE hS (runs_plain rfl) rfl rfl rfl ?_; clear hE hS a w; intro b52 a w hE hS
    refine WL.vS hS hE (runs_plain rfl) (Gives.p hE rfl) rfl ?_; clear hE a; intro a hE
    refine WL.nil ?_
    refine W.seq ?_
    refine W.seq ?_
    refine W.region ?_
    refine WL.vS hS hE (runs_plain rfl) (Gives.fld hE rfl fl41_0) rfl ?_; clear hE a; intro a hE
    refine WL.vS hS hE (runs_plain rfl) (Gives.loadB hE 1 rfl rfl rfl ty3) rfl ?_; clear hE a; intro a hE
    refine WL.nil ?_
    refine W.block ?_
    refine W.seq ?_
    refine W.region ?_
    refine WL.vS hS hE (runs_plain rfl) (Gives.p hE rfl) rfl ?_; clear hE a; intro a hE
    refine WL.vS hS hE (runs_plain rfl) (Gives.p hE rfl) rfl ?_; clear hE a; intro a hE
    refine WL.nil ?_
    refine W.cond hE rfl (fun hc53 => ?_) (fun hc53 => ?_)
    · replace hr := iteT hc53 hr
      refine W.seq ?_
      refine W.region ?_
      refine WL.vS hS hE (runs_plain rfl) (Gives.fld hE rfl fl28_4) rfl ?_; clear hE a; intro a hE
      refine WL.vS hS hE (runs_plain rfl) (Gives.loadB hE 0 rfl rfl rfl ty4) rfl ?_; clear hE a; intro a hE
      refine WL.vS hS hE (runs_plain rfl) (Gives.p hE rfl) rfl ?_; clear hE a; intro a hE
      refine WL.nil ?_
      refine W.ret ?_
      refine finG (fn := Try.f21) (rs := [.tmp 4]) (vs := [_]) hE rfl ⟨rfl, trivial⟩ ?_
      obtain rfl := Option.some.inj hr
      replace hS := hS.tail
      replace hS := hS.tail
      exact ⟨rfl, hS⟩
    · replace hr := iteF hc53 hr
      refine W.seq ?_
      refine W.region ?_
      refine WL.vS hS hE (runs_plain rfl) (Gives.p hE rfl) rfl ?_; clear hE a; intro a hE
      refine WL.vS hS hE (runs_plain rfl) (Gives.p hE rfl) rfl ?_; clear hE a; intro a hE
      refine WL.nil ?_
      refine W.cond hE rfl (fun hc54 => ?_) (fun hc54 => ?_)
      · replace hr := iteT hc54 hr
        refine W.seq ?_
        refine W.region ?_
        refine WL.vS hS hE (runs_plain rfl) (Gives.fld hE rfl fl28_3) rfl ?_; clear hE a; intro a hE
        refine WL.vS hS hE (runs_plain rfl) (Gives.loadB hE 0 rfl rfl rfl ty3) rfl ?_; clear hE a; intro a hE
        refine WL.vS hS hE (runs_plain rfl) (Gives.fld hE rfl fl41_1) rfl ?_; clear hE a; intro a hE
        refine WL.vS hS hE (runs_plain rfl) (Gives.loadB hE 1 rfl rfl rfl ty3) rfl ?_; clear hE a; intro a hE
        refine WL.vS hS hE (runs_plain rfl) (Gives.fld hE rfl fl41_2) rfl ?_; clear hE a; intro a hE
        refine WL.vS hS hE (runs_plain rfl) (Gives.loadB hE 1 rfl rfl rfl ty3) rfl ?_; clear hE a; intro a hE
        refine WL.fnq hE (Fishref2within_ok hS  rfl) (runs_plain rfl) bd41 rfl rfl rfl ?_
        clear hE hS; rintro e w ⟨rfl, hS⟩; refine ⟨_, rfl, ?_⟩; clear a; intro a hE
        refine WL.vS hS hE (runs_plain rfl) (Gives.p hE rfl) rfl ?_; clear hE a; intro a hE
        refine WL.nil ?_
        refine W.ret ?_
        refine finG (fn := Try.f21) (rs := [.tmp 4]) (vs := [_]) hE rfl ⟨rfl, trivial⟩ ?_
        obtain rfl := Option.some.inj hr
        replace hS := hS.tail
        replace hS := hS.tail
        exact ⟨rfl, hS⟩
      · replace hr := iteF hc54 hr
        refine W.seq ?_
        refine W.region ?_
        refine WL.vS hS hE (runs_plain rfl) (Gives.p hE rfl) rfl ?_; clear hE a; intro a hE
        refine WL.vS hS hE (runs_plain rfl) (Gives.p hE rfl) rfl ?_; clear hE a; intro a hE
        refine WL.nil ?_
        refine W.cond hE rfl (fun hc55 => ?_) (fun hc55 => ?_)
        · replace hr := iteT hc55 hr
          refine W.seq ?_
          refine W.region ?_
          refine WL.vS hS hE (runs_plain rfl) (Gives.fld hE rfl fl28_1) rfl ?_; clear hE a; intro a hE
          refine WL.vS hS hE (runs_plain rfl) (Gives.loadB hE 0 rfl rfl rfl ty3) rfl ?_; clear hE a; intro a hE
          refine WL.vS hS hE (runs_plain rfl) (Gives.fld hE rfl fl41_1) rfl ?_; clear hE a; intro a hE
          refine WL.vS hS hE (runs_plain rfl) (Gives.loadB hE 1 rfl rfl rfl ty3) rfl ?_; clear hE a; intro a hE
          refine WL.vS hS hE (runs_plain rfl) (Gives.fld hE rfl fl41_2) rfl ?_; clear hE a; intro a hE
          refine WL.vS hS hE (runs_plain rfl) (Gives.loadB hE 1 rfl rfl rfl ty3) rfl ?_; clear hE a; intro a hE
          refine WL.fnq hE (Fishref2within_ok hS  rfl) (runs_plain rfl) bd41 rfl rfl rfl ?_
          clear hE hS; rintro e w ⟨rfl, hS⟩; refine ⟨_, rfl, ?_⟩; clear a; intro a hE
          refine WL.vS hS hE (runs_plain rfl) (Gives.p hE rfl) rfl ?_; clear hE a; intro a hE
          refine WL.nil ?_
          refine W.ret ?_
          refine finG (fn := Try.f21) (rs := [.tmp 4]) (vs := [_]) hE rfl ⟨rfl, trivial⟩ ?_
          obtain rfl := Option.some.inj hr
          replace hS := hS.tail
          replace hS := hS.tail
          exact ⟨rfl, hS⟩
        · replace hr := iteF hc55 hr
          refine W.seq ?_
          refine W.region ?_
          refine WL.vS hS hE (runs_plain rfl) (Gives.p hE rfl) rfl ?_; clear hE a; intro a hE
          refine WL.vS hS hE (runs_plain rfl) (Gives.p hE rfl) rfl ?_; clear hE a; intro a hE
          refine WL.nil ?_
          refine W.cond hE rfl (fun hc56 => ?_) (fun hc56 => ?_)
          · replace hr := iteT hc56 hr
            refine W.seq ?_
            refine W.region ?_
            refine WL.vS hS hE (runs_plain rfl) (Gives.fld hE rfl fl28_2) rfl ?_; clear hE a; intro a hE
            refine WL.vS hS hE (runs_plain rfl) (Gives.loadB hE 0 rfl rfl rfl ty3) rfl ?_; clear hE a; intro a hE
            refine WL.vS hS hE (runs_plain rfl) (Gives.fld hE rfl fl41_1) rfl ?_; clear hE a; intro a hE
            refine WL.vS hS hE (runs_plain rfl) (Gives.loadB hE 1 rfl rfl rfl ty3) rfl ?_; clear hE a; intro a hE
            refine WL.vS hS hE (runs_plain rfl) (Gives.fld hE rfl fl41_2) rfl ?_; clear hE a; intro a hE
            refine WL.vS hS hE (runs_plain rfl) (Gives.loadB hE 1 rfl rfl rfl ty3) rfl ?_; clear hE a; intro a hE
            refine WL.fnq hE (Fishref2within_ok hS  rfl) (runs_plain rfl) bd41 rfl rfl rfl ?_
            clear hE hS; rintro e w ⟨rfl, hS⟩; refine ⟨_, rfl, ?_⟩; clear a; intro a hE
            refine WL.vS hS hE (runs_plain rfl) (Gives.p hE rfl) rfl ?_; clear hE a; intro a hE
            refine WL.nil ?_
            refine W.ret ?_
            refine finG (fn := Try.f21) (rs := [.tmp 4]) (vs := [_]) hE rfl ⟨rfl, trivial⟩ ?_
            obtain rfl := Option.some.inj hr
            replace hS := hS.tail
            replace hS := hS.tail
            exact ⟨rfl, hS⟩
          · replace hr := iteF hc56 hr
            refine W.seq ?_
            refine W.region ?_
            refine WL.vS hS hE (runs_plain rfl) (Gives.p hE rfl) rfl ?_; clear hE a; intro a hE
            refine WL.vS hS hE (runs_plain rfl) (Gives.p hE rfl) rfl ?_; clear hE a; intro a hE
            refine WL.nil ?_
            refine W.cond hE rfl (fun hc57 => ?_) (fun hc57 => ?_)
            · replace hr := iteT hc57 hr
              refine W.seq ?_
              refine W.region ?_
              refine WL.vS hS hE (runs_plain rfl) (Gives.fld hE rfl fl28_5) rfl ?_; clear hE a; intro a hE
              refine WL.vS hS hE (runs_plain rfl) (Gives.loadB hE 0 rfl rfl rfl ty26) rfl ?_; clear hE a; intro a hE
              refine WL.vS hS hE (runs_plain rfl) (Gives.len hE rfl sl26) rfl ?_; clear hE a; intro a hE
              refine WL.vS hS hE (runs_plain rfl) (Gives.fld hE rfl fl41_1) rfl ?_; clear hE a; intro a hE
              refine WL.vS hS hE (runs_plain rfl) (Gives.loadB hE 1 rfl rfl rfl ty3) rfl ?_; clear hE a; intro a hE
              refine WL.vS hS hE (runs_plain rfl) (Gives.fld hE rfl fl41_2) rfl ?_; clear hE a; intro a hE
              refine WL.vS hS hE (runs_plain rfl) (Gives.loadB hE 1 rfl rfl rfl ty3) rfl ?_; clear hE a; intro a hE
              refine WL.fnq hE (Fishref2within_ok hS  rfl) (runs_plain rfl) bd41 rfl rfl rfl ?_
              clear hE hS; rintro e w ⟨rfl, hS⟩; refine ⟨_, rfl, ?_⟩; clear a; intro a hE
              refine WL.vS hS hE (runs_plain rfl) (Gives.p hE rfl) rfl ?_; clear hE a; intro a hE
              refine WL.nil ?_
              refine W.ret ?_
              refine finG (fn := Try.f21) (rs := [.tmp 4]) (vs := [_]) hE rfl ⟨rfl, trivial⟩ ?_
              obtain rfl := Option.some.inj hr
              replace hS := hS.tail
              replace hS := hS.tail
              exact ⟨rfl, hS⟩
            · replace hr := iteF hc57 hr
              refine W.seq ?_
              refine W.region ?_
              refine WL.vS hS hE (runs_plain rfl) (Gives.p hE rfl) rfl ?_; clear hE a; intro a hE
              refine WL.vS hS hE (runs_plain rfl) (Gives.p hE rfl) rfl ?_; clear hE a; intro a hE
              refine WL.nil ?_
              refine W.cond hE rfl (fun hc58 => ?_) (fun hc58 => ?_)
              · replace hr := iteT hc58 hr
                refine W.seq ?_
                refine W.region ?_
                refine WL.vS hS hE (runs_plain rfl) (Gives.fld hE rfl fl28_5) rfl ?_; clear hE a; intro a hE
                refine WL.vS hS hE (runs_plain rfl) (Gives.loadB hE 0 rfl rfl rfl ty26) rfl ?_; clear hE a; intro a hE
                refine WL.vS hS hE (runs_plain rfl) (Gives.fld hE rfl fl41_1) rfl ?_; clear hE a; intro a hE
                refine WL.vS hS hE (runs_plain rfl) (Gives.loadB hE 1 rfl rfl rfl ty3) rfl ?_; clear hE a; intro a hE
                refine WL.fnq hE (SlicesContainsLint_ok hS h1_0 rfl) (runs_plain rfl) bd47 rfl rfl rfl ?_
                clear hE hS; rintro e w ⟨rfl, hS⟩; refine ⟨_, rfl, ?_⟩; clear a; intro a hE
                refine WL.vS hS hE (runs_plain rfl) (Gives.p hE rfl) rfl ?_; clear hE a; intro a hE
                refine WL.nil ?_
                refine W.ret ?_
                refine finG (fn := Try.f21) (rs := [.tmp 4]) (vs := [_]) hE rfl ⟨rfl, trivial⟩ ?_
                obtain rfl := Option.some.inj hr
                replace hS := hS.tail
                replace hS := hS.tail
                exact ⟨rfl, hS⟩
              · replace hr := iteF hc58 hr
                refine W.seq ?_
                refine W.region ?_
                refine WL.vS hS hE (runs_plain rfl) (Gives.p hE rfl) rfl ?_; clear hE a; intro a hE
                refine WL.vS hS hE (runs_plain rfl) (Gives.p hE rfl) rfl ?_; clear hE a; intro a hE
                refine WL.nil ?_
                refine W.cond hE rfl (fun hc59 => ?_) (fun hc59 => ?_)
                · replace hr := iteT hc59 hr
                  refine W.seq ?_
                  refine W.regionQ (C := fun w => St w s (pt b52 (.cells #[.int .i64 x1.Day, .int .i64 x1.At, .int .i64 x1.Km, .int .i64 x1.Age, .bool x1.Card, .slice a1_0 x1.Zones.length c1_0] 28 (0, 0)) :: pt b51 (.cells #[.int .i64 x0.Kind, .int .i64 x0.A, .int .i64 x0.B, .slice a0_0 x0.Kids.length c0_0] 41 (0, 0)) :: R)) mixed (by kernel_rfl) hS.drew ?_
                  refine QL.v hE (runs_plain rfl) (Gives.fld hE rfl fl28_5) rfl ?_; clear hE a; intro a hE
                  refine QL.v hE (runs_plain rfl) (Gives.loadB hE 0 rfl rfl rfl ty26) rfl ?_; clear hE a; intro a hE
                  obtain ⟨x60, hx61, hr⟩ := bindS hr
                  obtain ⟨hi62, hlt63, hy64⟩ := gx_some hx61
                  obtain ⟨cs65, hl66, hR67, hat68⟩ := h1_0.at hy64
                  subst hR67
                  refine QL.v hE (runs_plain rfl) (Gives.idx hE ((0 : Int)).toNat rfl rfl sl26 hi62 hlt63 (h1_0.aok hlt63)) rfl ?_; clear hE a; intro a hE
                  refine QL.v hE (runs_plain rfl) (Gives.load1 hE rfl (fun w h => hat68 w _ h) ty3) rfl ?_; clear hE a; intro a hE
                  refine QL.v hE (runs_plain rfl) (Gives.fld hE rfl fl41_1) rfl ?_; clear hE a; intro a hE
                  refine QL.v hE (runs_plain rfl) (Gives.loadB hE 1 rfl rfl rfl ty3) rfl ?_; clear hE a; intro a hE
                  refine QL.v hE (runs_plain rfl) (Gives.p hE rfl) rfl ?_; clear hE a; intro a hE
                  refine QL.v hE (runs_plain rfl) (Gives.p hE rfl) rfl ?_; clear hE a; intro a hE
                  refine QL.nil ?_; clear hS w; intro w hS
                  refine W.ret ?_
                  refine finG (fn := Try.f21) (rs := [.tmp 4]) (vs := [_]) hE rfl ⟨rfl, trivial⟩ ?_
                  obtain rfl := Option.some.inj hr
                  replace hS := hS.tail
                  replace hS := hS.tail
                  exact ⟨rfl, hS⟩
                · replace hr := iteF hc59 hr
                  refine W.seq ?_
                  refine W.region ?_
                  refine WL.vS hS hE (runs_plain rfl) (Gives.p hE rfl) rfl ?_; clear hE a; intro a hE
                  refine WL.vS hS hE (runs_plain rfl) (Gives.p hE rfl) rfl ?_; clear hE a; intro a hE
                  refine WL.nil ?_
                  refine W.cond hE rfl (fun hc69 => ?_) (fun hc69 => ?_)
                  · replace hr := iteT hc69 hr
                    refine W.seq ?_
                    refine W.regionQ (C := fun w => St w s (pt b52 (.cells #[.int .i64 x1.Day, .int .i64 x1.At, .int .i64 x1.Km, .int .i64 x1.Age, .bool x1.Card, .slice a1_0 x1.Zones.length c1_0] 28 (0, 0)) :: pt b51 (.cells #[.int .i64 x0.Kind, .int .i64 x0.A, .int .i64 x0.B, .slice a0_0 x0.Kids.length c0_0] 41 (0, 0)) :: R)) mixed (by kernel_rfl) hS.drew ?_
                    refine QL.v hE (runs_plain rfl) (Gives.fld hE rfl fl28_5) rfl ?_; clear hE a; intro a hE
                    refine QL.v hE (runs_plain rfl) (Gives.loadB hE 0 rfl rfl rfl ty26) rfl ?_; clear hE a; intro a hE
                    refine QL.v hE (runs_plain rfl) (Gives.fld hE rfl fl28_5) rfl ?_; clear hE a; intro a hE
                    refine QL.v hE (runs_plain rfl) (Gives.loadB hE 0 rfl rfl rfl ty26) rfl ?_; clear hE a; intro a hE
                    refine QL.v hE (runs_plain rfl) (Gives.len hE rfl sl26) rfl ?_; clear hE a; intro a hE
                    refine QL.v hE (runs_plain rfl) (Gives.p hE rfl) rfl ?_; clear hE a; intro a hE
                    obtain ⟨x70, hx71, hr⟩ := bindS hr
                    obtain ⟨hi72, hlt73, hy74⟩ := gx_some hx71
                    obtain ⟨cs75, hl76, hR77, hat78⟩ := h1_0.at hy74
                    subst hR77
                    refine QL.v hE (runs_plain rfl) (Gives.idx hE (w64 (((x1.Zones).length : Int) - 1)).toNat rfl rfl sl26 hi72 hlt73 (h1_0.aok hlt73)) rfl ?_; clear hE a; intro a hE
                    refine QL.v hE (runs_plain rfl) (Gives.load1 hE rfl (fun w h => hat78 w _ h) ty3) rfl ?_; clear hE a; intro a hE
                    refine QL.v hE (runs_plain rfl) (Gives.fld hE rfl fl41_1) rfl ?_; clear hE a; intro a hE
                    refine QL.v hE (runs_plain rfl) (Gives.loadB hE 1 rfl rfl rfl ty3) rfl ?_; clear hE a; intro a hE
                    refine QL.v hE (runs_plain rfl) (Gives.p hE rfl) rfl ?_; clear hE a; intro a hE
                    refine QL.v hE (runs_plain rfl) (Gives.p hE rfl) rfl ?_; clear hE a; intro a hE
                    refine QL.nil ?_; clear hS w; intro w hS
                    refine W.ret ?_
                    refine finG (fn := Try.f21) (rs := [.tmp 4]) (vs := [_]) hE rfl ⟨rfl, trivial⟩ ?_
                    obtain rfl := Option.some.inj hr
                    replace hS := hS.tail
                    replace hS := hS.tail
                    exact ⟨rfl, hS⟩
                  · replace hr := iteF hc69 hr
                    refine W.seq ?_
                    refine W.region ?_
                    refine WL.vS hS hE (runs_plain rfl) (Gives.p hE rfl) rfl ?_; clear hE a; intro a hE
                    refine WL.vS hS hE (runs_plain rfl) (Gives.p hE rfl) rfl ?_; clear hE a; intro a hE
                    refine WL.nil ?_
                    refine W.cond hE rfl (fun hc79 => ?_) (fun hc79 => ?_)
                    · replace hr := iteT hc79 hr
                      refine W.seq ?_
                      refine W.regionQ (C := fun w => St w s (pt b52 (.cells #[.int .i64 x1.Day, .int .i64 x1.At, .int .i64 x1.Km, .int .i64 x1.Age, .bool x1.Card, .slice a1_0 x1.Zones.length c1_0] 28 (0, 0)) :: pt b51 (.cells #[.int .i64 x0.Kind, .int .i64 x0.A, .int .i64 x0.B, .slice a0_0 x0.Kids.length c0_0] 41 (0, 0)) :: R)) mixed (by kernel_rfl) hS.drew ?_
                      refine QL.v hE (runs_plain rfl) (Gives.fld hE rfl fl41_3) rfl ?_; clear hE a; intro a hE
                      refine QL.v hE (runs_plain rfl) (Gives.loadB hE 1 rfl rfl rfl ty39) rfl ?_; clear hE a; intro a hE
                      obtain ⟨x80, hx81, hr⟩ := bindS hr
                      obtain ⟨hi82, hlt83, hy84⟩ := gx_some hx81
                      obtain ⟨cs85, hl86, hR87, hat88⟩ := h0_0.at hy84
                      obtain ⟨a89, c90, rfl, h91⟩ := hR87.unf
                      refine QL.v hE (runs_plain rfl) (Gives.idx hE ((0 : Int)).toNat rfl rfl sl39 hi82 hlt83 (h0_0.aok hlt83)) rfl ?_; clear hE a; intro a hE
                      refine QL.v hE (runs_plain rfl) (Gives.loadA hE rfl (fun w h => hat88 w _ h) ty41) rfl ?_; clear hE a; intro a hE
                      refine QL.v hE (runs_plain rfl) (Gives.loadBA hE 0 rfl rfl ty28) rfl ?_; clear hE a; intro a hE
                      obtain ⟨q92, hq93, hr⟩ := bindS hr
                      refine QL.fnq hE (fun w hS => ih_Fishref2HoldsOf hS h91 h1_0 hq93) (runs_plain rfl) bd21 rfl rfl rfl ?_; clear hE a; intro a hE
                      refine QL.v hE (runs_plain rfl) (Gives.p hE rfl) rfl ?_; clear hE a; intro a hE
                      refine QL.v hE (runs_plain rfl) (Gives.p hE rfl) rfl ?_; clear hE a; intro a hE
                      refine QL.nil ?_; clear hS w; intro w hS
                      refine W.ret ?_
                      refine finG (fn := Try.f21) (rs := [.tmp 4]) (vs := [_]) hE rfl ⟨rfl, trivial⟩ ?_
                      obtain rfl := Option.some.inj hr
                      replace hS := hS.tail
                      replace hS := hS.tail
                      exact ⟨rfl, hS⟩
                    · replace hr := iteF hc79 hr
                      refine W.seq ?_
                      refine W.region ?_
                      refine WL.vS hS hE (runs_plain rfl) (Gives.p hE rfl) rfl ?_; clear hE a; intro a hE
                      refine WL.vS hS hE (runs_plain rfl) (Gives.p hE rfl) rfl ?_; clear hE a; intro a hE
                      refine WL.nil ?_
                      refine W.cond hE rfl (fun hc94 => ?_) (fun hc94 => ?_)
                      · replace hr := iteT hc94 hr
                        refine W.seq ?_
                        refine W.region ?_
                        refine WL.vS hS hE (runs_plain rfl) (Gives.p hE rfl) rfl ?_; clear hE a; intro a hE
                        refine WL.nil ?_
                        refine W.seq ?_
                        refine W.seq ?_
                        refine W.region ?_
                        refine WL.vS hS hE (runs_plain rfl) (Gives.fld hE rfl fl41_3) rfl ?_; clear hE a; intro a hE
                        refine WL.vS hS hE (runs_plain rfl) (Gives.loadB hE 1 rfl rfl rfl ty39) rfl ?_; clear hE a; intro a hE
                        refine WL.vS hS hE (runs_plain rfl) (Gives.len hE rfl sl39) rfl ?_; clear hE a; intro a hE
                        refine WL.vS hS hE (runs_plain rfl) (Gives.p hE rfl) rfl ?_; clear hE a; intro a hE
                        refine WL.nil ?_
                        obtain ⟨q96, hq95, hr⟩ := bindS hr
                        refine W.cut (fun a w => ∃ (q106 : Int), q106 = q96 ∧ Rep a 124 [(2, .pointer (some ⟨b51, 0, none⟩)), (5, .int .i64 q106)] ∧ St w s (pt b52 (.cells #[.int .i64 x1.Day, .int .i64 x1.At, .int .i64 x1.Km, .int .i64 x1.Age, .bool x1.Card, .slice a1_0 x1.Zones.length c1_0] 28 (0, 0)) :: pt b51 (.cells #[.int .i64 x0.Kind, .int .i64 x0.A, .int .i64 x0.B, .slice a0_0 x0.Kids.length c0_0] 41 (0, 0)) :: R)) ?_ ?_
                        · refine W.block ?_
                          refine W.loop (fun m a w => ∃ (rest99 : List FareCond) (k97 : Nat), ∃ (q106 : Int), rest99.length = m ∧ x0.Kids.drop k97 = rest99 ∧ Fishref2HoldsOf.loop1 x1 self_Fishref2HoldsOf rest99 q106 = some q96 ∧ Rep a 124 [(2, .pointer (some ⟨b51, 0, none⟩)), (3, .pointer (some ⟨b52, 0, none⟩)), (5, .int .i64 q106), (94, .slice a0_0 x0.Kids.length c0_0), (95, .int .i64 ((x0.Kids).length : Int)), (96, .int .i64 ((k97 : Nat) : Int))] ∧ St w s (pt b52 (.cells #[.int .i64 x1.Day, .int .i64 x1.At, .int .i64 x1.Km, .int .i64 x1.Age, .bool x1.Card, .slice a1_0 x1.Zones.length c1_0] 28 (0, 0)) :: pt b51 (.cells #[.int .i64 x0.Kind, .int .i64 x0.A, .int .i64 x0.B, .slice a0_0 x0.Kids.length c0_0] 41 (0, 0)) :: R)) (m := x0.Kids.length) ⟨x0.Kids, 0, 0, rfl, rfl, hq95, hE.pick _ ⟨rfl, rfl, rfl, rfl, rfl, rfl, trivial⟩, hS⟩ ?_
                          clear hE hS a w hq95; rintro m103 a w ⟨rest99, k97, q106, rfl, hd100, hq95, hE, hS⟩
                          refine W.gen fun K107 hK107 => ?_
                          rcases rest99 with _ | ⟨x98, rest99⟩
                          · have hlt101 := drop_nil hd100
                            refine W.seq ?_
                            refine W.region ?_
                            refine WL.vS hS hE (runs_plain rfl) (Gives.p hE rfl) rfl ?_; clear hE a; intro a hE
                            refine WL.nil ?_
                            refine W.seq ?_
                            refine W.condF hE rfl (decide_eq_false (by omega)) ?_
                            subst hK107
                            refine W.exit rfl ?_
                            exact ⟨q106, Option.some.inj hq95, hE.pick _ ⟨rfl, rfl, trivial⟩, hS⟩
                          · obtain ⟨hlt101, hx102, hd100⟩ := drop_cons hd100
                            rw [Fishref2HoldsOf.loop1] at hq95
                            refine W.seq ?_
                            refine W.region ?_
                            refine WL.vS hS hE (runs_plain rfl) (Gives.p hE rfl) rfl ?_; clear hE a; intro a hE
                            refine WL.nil ?_
                            refine W.seq ?_
                            refine W.condT hE rfl (decide_eq_true (by omega)) ?_
                            refine W.skip ?_
                            refine W.seq ?_
                            refine W.block ?_
                            refine W.seq ?_
                            refine W.region ?_
                            obtain ⟨cs108, hl109, hR110, hat111⟩ := h0_0.at hx102
                            obtain ⟨a112, c113, rfl, h114⟩ := hR110.unf
                            refine WL.vS hS hE (runs_plain rfl) (Gives.idx hE k97 rfl rfl sl39 rfl hlt101 (h0_0.aok hlt101)) rfl ?_; clear hE a; intro a hE
                            refine WL.vS hS hE (runs_plain rfl) (Gives.loadA hE rfl (fun w h => hat111 w _ h) ty41) rfl ?_; clear hE a; intro a hE
                            refine WL.alloc hE hS (runs_plain rfl) zr41 rfl ?_; clear hE hS a w; intro b115 a w hE hS
                            refine WL.storeI hE hS 0 rfl [.int .i64 x98.Kind, .int .i64 x98.A, .int .i64 x98.B, .slice a112 x98.Kids.length c113] (runs_plain rfl) rfl rfl rfl ty41 rfl rfl rfl rfl ?_; clear hE hS a w; intro a w hE hS
                            refine WL.nil ?_
                            refine W.seq ?_
                            refine W.region ?_
                            refine WL.vS hS hE (runs_plain rfl) (Gives.loadBA hE 0 rfl rfl ty41) rfl ?_; clear hE a; intro a hE
                            refine WL.vS hS hE (runs_plain rfl) (Gives.loadBA hE 1 rfl rfl ty28) rfl ?_; clear hE a; intro a hE
                            obtain ⟨q116, hq117, hq95⟩ := bindS hq95
                            have hc_ := ih_Fishref2HoldsOf hS h114 h1_0 hq117
                            refine WL.fnq hE (hc_) (runs_plain rfl) bd21 rfl rfl rfl ?_
                            clear hE hS hc_; rintro e w ⟨rfl, hS⟩; refine ⟨_, rfl, ?_⟩; clear a; intro a hE
                            refine WL.nil ?_
                            obtain ⟨q119, hq118, hq95⟩ := bndS hq95
                            refine W.cut (fun a w => ∃ (q122 : Int), q122 = q119 ∧ Rep a 124 [(2, .pointer (some ⟨b51, 0, none⟩)), (3, .pointer (some ⟨b52, 0, none⟩)), (5, .int .i64 q122), (94, .slice a0_0 x0.Kids.length c0_0), (95, .int .i64 ((x0.Kids).length : Int)), (96, .int .i64 ((k97 : Nat) : Int))] ∧ St w s (pt b115 (.cells #[.int .i64 x98.Kind, .int .i64 x98.A, .int .i64 x98.B, .slice a112 x98.Kids.length c113] 41 (0, 0)) :: pt b52 (.cells #[.int .i64 x1.Day, .int .i64 x1.At, .int .i64 x1.Km, .int .i64 x1.Age, .bool x1.Card, .slice a1_0 x1.Zones.length c1_0] 28 (0, 0)) :: pt b51 (.cells #[.int .i64 x0.Kind, .int .i64 x0.A, .int .i64 x0.B, .slice a0_0 x0.Kids.length c0_0] 41 (0, 0)) :: R)) ?_ ?_
                            · refine W.gen fun K123 hK123 => ?_
                              refine W.cond hE rfl (fun hc124 => ?_) (fun hc124 => ?_)
                              · replace hq118 := iteT hc124 hq118
                                refine W.region ?_
                                refine WL.vS hS hE (runs_plain rfl) (Gives.p hE rfl) rfl ?_; clear hE a; intro a hE
                                refine WL.vS hS hE (runs_plain rfl) (Gives.p hE rfl) rfl ?_; clear hE a; intro a hE
                                refine WL.vS hS hE (runs_plain rfl) (Gives.p hE rfl) rfl ?_; clear hE a; intro a hE
                                refine WL.nil ?_
                                subst hK123
                                exact ⟨w64 (q106 + 1), hq118, hE.pick _ ⟨rfl, rfl, rfl, rfl, rfl, rfl, trivial⟩, hS⟩
                              · replace hq118 := iteF hc124 hq118
                                refine W.skip ?_
                                subst hK123
                                exact ⟨q106, hq118, hE.pick _ ⟨rfl, rfl, rfl, rfl, rfl, rfl, trivial⟩, hS⟩
                            · clear hE hS a w; rintro a w ⟨q122, rfl, hE, hS⟩
                              refine W.region ?_
                              refine WL.vS hS hE (runs_plain rfl) (Gives.inc hE rfl (by have := h0_0.small; omega)) rfl ?_; clear hE a; intro a hE
                              refine WL.vS hS hE (runs_plain rfl) (Gives.p hE rfl) rfl ?_; clear hE a; intro a hE
                              refine WL.nil ?_
                              replace hS := hS.tail
                              subst hK107
                              exact ⟨rest99.length, Nat.lt_succ_self _, rest99, k97 + 1, q122, rfl, hd100, hq95, hE.pick _ ⟨rfl, rfl, rfl, rfl, rfl, rfl, trivial⟩, hS⟩
                        · clear hE hS a w; rintro a w ⟨q106, rfl, hE, hS⟩
                          refine W.seq ?_
                          refine W.region ?_
                          refine WL.vS hS hE (runs_plain rfl) (Gives.p hE rfl) rfl ?_; clear hE a; intro a hE
                          refine WL.vS hS hE (runs_plain rfl) (Gives.fld hE rfl fl41_3) rfl ?_; clear hE a; intro a hE
                          refine WL.vS hS hE (runs_plain rfl) (Gives.loadB hE 1 rfl rfl rfl ty39) rfl ?_; clear hE a; intro a hE
                          refine WL.vS hS hE (runs_plain rfl) (Gives.len hE rfl sl39) rfl ?_; clear hE a; intro a hE
                          refine WL.vS hS hE (runs_plain rfl) (Gives.p hE rfl) rfl ?_; clear hE a; intro a hE
                          refine WL.vS hS hE (runs_plain rfl) (Gives.p hE rfl) rfl ?_; clear hE a; intro a hE
                          refine WL.nil ?_
                          refine W.ret ?_
                          refine finG (fn := Try.f21) (rs := [.tmp 4]) (vs := [_]) hE rfl ⟨rfl, trivial⟩ ?_
                          obtain rfl := Option.some.inj hr
                          replace hS := hS.tail
                          replace hS := hS.tail
                          exact ⟨rfl, hS⟩
                      · replace hr := iteF hc94 hr
                        refine W.seq ?_
                        refine W.region ?_
                        refine WL.vS hS hE (runs_plain rfl) (Gives.p hE rfl) rfl ?_; clear hE a; intro a hE
                        refine WL.vS hS hE (runs_plain rfl) (Gives.p hE rfl) rfl ?_; clear hE a; intro a hE
                        refine WL.nil ?_
                        refine W.cond hE rfl (fun hc125 => ?_) (fun hc125 => ?_)
                        · replace hr := iteT hc125 hr
                          refine W.seq ?_
                          refine W.seq ?_
                          refine W.region ?_
                          refine WL.vS hS hE (runs_plain rfl) (Gives.fld hE rfl fl41_3) rfl ?_; clear hE a; intro a hE
                          refine WL.vS hS hE (runs_plain rfl) (Gives.loadB hE 1 rfl rfl rfl ty39) rfl ?_; clear hE a; intro a hE
                          refine WL.vS hS hE (runs_plain rfl) (Gives.len hE rfl sl39) rfl ?_; clear hE a; intro a hE
                          refine WL.vS hS hE (runs_plain rfl) (Gives.p hE rfl) rfl ?_; clear hE a; intro a hE
                          refine WL.nil ?_
                          obtain ⟨q127, hq126, hr⟩ := bindS hr
                          refine W.cut (fun a w => (.next ()) = q127 ∧ Rep a 124 [] ∧ St w s (pt b52 (.cells #[.int .i64 x1.Day, .int .i64 x1.At, .int .i64 x1.Km, .int .i64 x1.Age, .bool x1.Card, .slice a1_0 x1.Zones.length c1_0] 28 (0, 0)) :: pt b51 (.cells #[.int .i64 x0.Kind, .int .i64 x0.A, .int .i64 x0.B, .slice a0_0 x0.Kids.length c0_0] 41 (0, 0)) :: R)) ?_ ?_
                          · refine W.block ?_
                            refine W.loop (fun m a w => ∃ (rest130 : List FareCond) (k128 : Nat), rest130.length = m ∧ x0.Kids.drop k128 = rest130 ∧ Fishref2HoldsOf.loop2 x1 self_Fishref2HoldsOf rest130 = some q127 ∧ Rep a 124 [(3, .pointer (some ⟨b52, 0, none⟩)), (114, .slice a0_0 x0.Kids.length c0_0), (115, .int .i64 ((x0.Kids).length : Int)), (116, .int .i64 ((k128 : Nat) : Int))] ∧ St w s (pt b52 (.cells #[.int .i64 x1.Day, .int .i64 x1.At, .int .i64 x1.Km, .int .i64 x1.Age, .bool x1.Card, .slice a1_0 x1.Zones.length c1_0] 28 (0, 0)) :: pt b51 (.cells #[.int .i64 x0.Kind, .int .i64 x0.A, .int .i64 x0.B, .slice a0_0 x0.Kids.length c0_0] 41 (0, 0)) :: R)) (m := x0.Kids.length) ⟨x0.Kids, 0, rfl, rfl, hq126, hE.pick _ ⟨rfl, rfl, rfl, rfl, trivial⟩, hS⟩ ?_
                            clear hE hS a w hq126; rintro m134 a w ⟨rest130, k128, rfl, hd131, hq126, hE, hS⟩
                            refine W.gen fun K137 hK137 => ?_
                            rcases rest130 with _ | ⟨x129, rest130⟩
                            · have hlt132 := drop_nil hd131
                              refine W.seq ?_
                              refine W.region ?_
                              refine WL.vS hS hE (runs_plain rfl) (Gives.p hE rfl) rfl ?_; clear hE a; intro a hE
                              refine WL.nil ?_
                              refine W.seq ?_
                              refine W.condF hE rfl (decide_eq_false (by omega)) ?_
                              subst hK137
                              refine W.exit rfl ?_
                              exact ⟨Option.some.inj hq126, hE.pick _ trivial, hS⟩
                            · obtain ⟨hlt132, hx133, hd131⟩ := drop_cons hd131
                              rw [Fishref2HoldsOf.loop2] at hq126
                              refine W.seq ?_
                              refine W.region ?_
                              refine WL.vS hS hE (runs_plain rfl) (Gives.p hE rfl) rfl ?_; clear hE a; intro a hE
                              refine WL.nil ?_
                              refine W.seq ?_
                              refine W.condT hE rfl (decide_eq_true (by omega)) ?_
                              refine W.skip ?_
                              refine W.seq ?_
                              refine W.block ?_
                              refine W.seq ?_
                              refine W.region ?_
                              obtain ⟨cs138, hl139, hR140, hat141⟩ := h0_0.at hx133
                              obtain ⟨a142, c143, rfl, h144⟩ := hR140.unf
                              refine WL.vS hS hE (runs_plain rfl) (Gives.idx hE k128 rfl rfl sl39 rfl hlt132 (h0_0.aok hlt132)) rfl ?_; clear hE a; intro a hE
                              refine WL.vS hS hE (runs_plain rfl) (Gives.loadA hE rfl (fun w h => hat141 w _ h) ty41) rfl ?_; clear hE a; intro a hE
                              refine WL.alloc hE hS (runs_plain rfl) zr41 rfl ?_; clear hE hS a w; intro b145 a w hE hS
                              refine WL.storeI hE hS 0 rfl [.int .i64 x129.Kind, .int .i64 x129.A, .int .i64 x129.B, .slice a142 x129.Kids.length c143] (runs_plain rfl) rfl rfl rfl ty41 rfl rfl rfl rfl ?_; clear hE hS a w; intro a w hE hS
                              refine WL.nil ?_
                              refine W.seq ?_
                              refine W.region ?_
                              refine WL.vS hS hE (runs_plain rfl) (Gives.loadBA hE 0 rfl rfl ty41) rfl ?_; clear hE a; intro a hE
                              refine WL.vS hS hE (runs_plain rfl) (Gives.loadBA hE 1 rfl rfl ty28) rfl ?_; clear hE a; intro a hE
                              obtain ⟨q146, hq147, hq126⟩ := bindS hq126
                              have hc_ := ih_Fishref2HoldsOf hS h144 h1_0 hq147
                              refine WL.fnq hE (hc_) (runs_plain rfl) bd21 rfl rfl rfl ?_
                              clear hE hS hc_; rintro e w ⟨rfl, hS⟩; refine ⟨_, rfl, ?_⟩; clear a; intro a hE
                              refine WL.nil ?_
                              refine W.cond hE rfl (fun hc148 => ?_) (fun hc148 => ?_)
                              · replace hq126 := iteT hc148 hq126
                                refine W.seq ?_
                                refine W.region ?_
                                refine WL.vS hS hE (runs_plain rfl) (Gives.p hE rfl) rfl ?_; clear hE a; intro a hE
                                refine WL.nil ?_
                                refine W.ret ?_
                                subst hK137
                                rw [← Option.some.inj hq126] at hr
                                dsimp only at hr
                                refine finG (fn := Try.f21) (rs := [.tmp 4]) (vs := [_]) hE rfl ⟨rfl, trivial⟩ ?_
                                obtain rfl := Option.some.inj hr
                                replace hS := hS.tail
                                replace hS := hS.tail
                                replace hS := hS.tail
                                exact ⟨rfl, hS⟩
                              · replace hq126 := iteF hc148 hq126
                                refine W.skip ?_
                                refine W.region ?_
                                refine WL.vS hS hE (runs_plain rfl) (Gives.inc hE rfl (by have := h0_0.small; omega)) rfl ?_; clear hE a; intro a hE
                                refine WL.vS hS hE (runs_plain rfl) (Gives.p hE rfl) rfl ?_; clear hE a; intro a hE
                                refine WL.nil ?_
                                replace hS := hS.tail
                                subst hK137
                                exact ⟨rest130.length, Nat.lt_succ_self _, rest130, k128 + 1, rfl, hd131, hq126, hE.pick _ ⟨rfl, rfl, rfl, rfl, trivial⟩, hS⟩
                          · clear hE hS a w; rintro a w ⟨rfl, hE, hS⟩
                            dsimp only at hr
                            refine W.seq ?_
                            refine W.region ?_
                            refine WL.vS hS hE (runs_plain rfl) (Gives.p hE rfl) rfl ?_; clear hE a; intro a hE
                            refine WL.nil ?_
                            refine W.ret ?_
                            refine finG (fn := Try.f21) (rs := [.tmp 4]) (vs := [_]) hE rfl ⟨rfl, trivial⟩ ?_
                            obtain rfl := Option.some.inj hr
                            replace hS := hS.tail
                            replace hS := hS.tail
                            exact ⟨rfl, hS⟩
                        · replace hr := iteF hc125 hr
                          refine W.skip ?_
                          refine W.seq ?_
                          refine W.region ?_
                          refine WL.vS hS hE (runs_plain rfl) (Gives.p hE rfl) rfl ?_; clear hE a; intro a hE
                          refine WL.nil ?_
                          refine W.ret ?_
                          refine finG (fn := Try.f21) (rs := [.tmp 4]) (vs := [_]) hE rfl ⟨rfl, trivial⟩ ?_
                          obtain rfl := Option.some.inj hr
                          replace hS := hS.tail
                          replace hS := hS.tail
                          exact ⟨rfl, hS⟩
set_option maxHeartbeats 8000000 in
theorem Fishref2PriceOf_ok {fu : Nat}  {w : World} {s : Sg} {R : List HP} {x0 : FareTariff} {a0_0 : Option Addr} {c0_0 : Nat} {a0_1 : Option Addr} {c0_1 : Nat} {x1 : FareTrip} {a1_0 : Option Addr} {c1_0 : Nat} (hS : St w s (R)) (h0_0 : Sl 2 RFareBand s a0_0 c0_0 x0.Bands) (h0_1 : Sl 7 RFareRule s a0_1 c0_1 x0.Rules) (h1_0 : Sl 1 (RI .i64) s a1_0 c1_0 x1.Zones) {r : Int × (List Int)} (hr : Fishref2PriceOf fu x0 x1 = some r) :
    Calls Try.prog 17 [.agg [.bool x0.ByKm, .slice a0_0 x0.Bands.length c0_0, .int .i64 x0.Round, .slice a0_1 x0.Rules.length c0_1].toArray, .agg [.int .i64 x1.Day, .int .i64 x1.At, .int .i64 x1.Km, .int .i64 x1.Age, .bool x1.Card, .slice a1_0 x1.Zones.length c1_0].toArray].toArray w (fun e w => ∃ (a1 : Option Addr) (c1 n1 : Nat) (cs1 : List Value), e = .returned (.tuple #[.int .i64 r.1, .slice a1 n1 c1]) ∧ Ev 1 (RI .i64) s cs1 r.2 ∧ r.2.length = n1 ∧ St w s (vecC 3 1 a1 c1 n1 cs1 :: R)) := by
  refine enter Try.func17 rfl rfl rfl fun a hE => ?_
  rw [Fishref2PriceOf] at hr
  refine W.seq ?_
  refine W.region ?_
  refine WL.box hE hS (runs_plain rfl) rfl rfl rfl ?_; clear hE hS a w; intro b51 a w hE hS
  refine WL.box hE hS (runs_plain rfl) rfl rfl rfl ?_; clear hE hS a w; intro b52 a w hE hS
  refine WL.vS hS hE (runs_plain rfl) (Gives.p hE rfl) rfl ?_; clear hE a; intro a hE
  refine WL.vS hS hE (runs_plain rfl) (Gives.p hE rfl) rfl ?_; clear hE a; intro a hE
  refine WL.nil ?_
  refine W.seq ?_
  refine W.region ?_
  refine WL.vS hS hE (runs_plain rfl) (Gives.fld hE rfl fl28_5) rfl ?_; clear hE a; intro a hE
  refine WL.vS hS hE (runs_plain rfl) (Gives.loadB hE 0 rfl rfl rfl ty26) rfl ?_; clear hE a; intro a hE
  refine WL.vS hS hE (runs_plain rfl) (Gives.len hE rfl sl26) rfl ?_; clear hE a; intro a hE
  refine WL.vS hS hE (runs_plain rfl) (Gives.p hE rfl) rfl ?_; clear hE a; intro a hE
  refine WL.nil ?_
  refine W.seq ?_
  refine W.seq ?_
  refine W.region ?_
  refine WL.vS hS hE (runs_plain rfl) (Gives.fld hE rfl fl25_0) rfl ?_; clear hE a; intro a hE
  refine WL.vS hS hE (runs_plain rfl) (Gives.loadB hE 1 rfl rfl rfl ty4) rfl ?_; clear hE a; intro a hE
  refine WL.nil ?_
  obtain ⟨q54, hq53, hr⟩ := bndS hr
  refine W.cut (fun a w => ∃ (q57 : Int), q57 = q54 ∧ Rep a 119 [(2, .pointer (some ⟨b51, 0, none⟩)), (3, .pointer (some ⟨b52, 0, none⟩)), (6, .int .i64 q57)] ∧ St w s (pt b52 (.cells #[.int .i64 x1.Day, .int .i64 x1.At, .int .i64 x1.Km, .int .i64 x1.Age, .bool x1.Card, .slice a1_0 x1.Zones.length c1_0] 28 (0, 0)) :: pt b51 (.cells #[.bool x0.ByKm, .slice a0_0 x0.Bands.length c0_0, .int .i64 x0.Round, .slice a0_1 x0.Rules.length c0_1] 25 (0, 0)) :: R)) ?_ ?_
  · refine W.gen fun K58 hK58 => ?_
    refine W.cond hE rfl (fun hc59 => ?_) (fun hc59 => ?_)
    · replace hq53 := iteT hc59 hq53
      refine W.region ?_
      refine WL.vS hS hE (runs_plain rfl) (Gives.fld hE rfl fl28_2) rfl ?_; clear hE a; intro a hE
      refine WL.vS hS hE (runs_plain rfl) (Gives.loadB hE 0 rfl rfl rfl ty3) rfl ?_; clear hE a; intro a hE
      refine WL.vS hS hE (runs_plain rfl) (Gives.p hE rfl) rfl ?_; clear hE a; intro a hE
      refine WL.nil ?_
      subst hK58
      exact ⟨x1.Km, hq53, hE.pick _ ⟨rfl, rfl, rfl, trivial⟩, hS⟩
    · replace hq53 := iteF hc59 hq53
      refine W.skip ?_
      subst hK58
      exact ⟨((x1.Zones).length : Int), hq53, hE.pick _ ⟨rfl, rfl, rfl, trivial⟩, hS⟩
  · clear hE hS a w; rintro a w ⟨q57, rfl, hE, hS⟩
    refine W.seq ?_
    refine W.region ?_
    refine WL.vS hS hE (runs_plain rfl) (Gives.fld hE rfl fl25_1) rfl ?_; clear hE a; intro a hE
    refine WL.vS hS hE (runs_plain rfl) (Gives.loadB hE 1 rfl rfl rfl ty22) rfl ?_; clear hE a; intro a hE
    refine WL.vS hS hE (runs_plain rfl) (Gives.fld hE rfl fl25_1) rfl ?_; clear hE a; intro a hE
    refine WL.vS hS hE (runs_plain rfl) (Gives.loadB hE 1 rfl rfl rfl ty22) rfl ?_; clear hE a; intro a hE
    refine WL.vS hS hE (runs_plain rfl) (Gives.len hE rfl sl22) rfl ?_; clear hE a; intro a hE
    refine WL.vS hS hE (runs_plain rfl) (Gives.p hE rfl) rfl ?_; clear hE a; intro a hE
    obtain ⟨x60, hx61, hr⟩ := bindS hr
    obtain ⟨hi62, hlt63, hy64⟩ := gx_some hx61
    obtain ⟨cs65, hl66, hR67, hat68⟩ := h0_0.at hy64
    subst hR67
    refine WL.vS hS hE (runs_plain rfl) (Gives.idx hE (w64 (((x0.Bands).length : Int) - 1)).toNat rfl rfl sl22 hi62 hlt63 (h0_0.aok hlt63)) rfl ?_; clear hE a; intro a hE
    refine WL.vS hS hE (runs_plain rfl) (Gives.fld hE rfl fl75_1) rfl ?_; clear hE a; intro a hE
    refine WL.vS hS hE (runs_plain rfl) (Gives.load1 hE rfl (fun w h => (hat68 w _ h).one rfl) ty3) rfl ?_; clear hE a; intro a hE
    refine WL.vS hS hE (runs_plain rfl) (Gives.p hE rfl) rfl ?_; clear hE a; intro a hE
    refine WL.nil ?_
    refine W.seq ?_
    refine W.seq ?_
    refine W.region ?_
    refine WL.vS hS hE (runs_plain rfl) (Gives.fld hE rfl fl25_1) rfl ?_; clear hE a; intro a hE
    refine WL.vS hS hE (runs_plain rfl) (Gives.loadB hE 1 rfl rfl rfl ty22) rfl ?_; clear hE a; intro a hE
    refine WL.vS hS hE (runs_plain rfl) (Gives.len hE rfl sl22) rfl ?_; clear hE a; intro a hE
    refine WL.vS hS hE (runs_plain rfl) (Gives.p hE rfl) rfl ?_; clear hE a; intro a hE
    refine WL.vS hS hE (runs_plain rfl) (Gives.p hE rfl) rfl ?_; clear hE a; intro a hE
    refine WL.nil ?_
    obtain ⟨q70, hq69, hr⟩ := bindS hr
    refine W.cut (fun a w => ∃ (q75 : Int), ∃ (q76 : Int), (q75, q76) = q70 ∧ Rep a 119 [(2, .pointer (some ⟨b51, 0, none⟩)), (3, .pointer (some ⟨b52, 0, none⟩)), (7, .int .i64 q75)] ∧ St w s (pt b52 (.cells #[.int .i64 x1.Day, .int .i64 x1.At, .int .i64 x1.Km, .int .i64 x1.Age, .bool x1.Card, .slice a1_0 x1.Zones.length c1_0] 28 (0, 0)) :: pt b51 (.cells #[.bool x0.ByKm, .slice a0_0 x0.Bands.length c0_0, .int .i64 x0.Round, .slice a0_1 x0.Rules.length c0_1] 25 (0, 0)) :: R)) ?_ ?_
    · refine W.block ?_
      refine W.loop (fun m a w => ∃ (n71 : Nat), ∃ (q75 : Int), ∃ (q76 : Int), n71 = m ∧ Fishref2PriceOf.loop1 x0 q57 n71 q75 q76 = some q70 ∧ Rep a 119 [(2, .pointer (some ⟨b51, 0, none⟩)), (3, .pointer (some ⟨b52, 0, none⟩)), (6, .int .i64 q57), (7, .int .i64 q75), (8, .int .i64 q76)] ∧ St w s (pt b52 (.cells #[.int .i64 x1.Day, .int .i64 x1.At, .int .i64 x1.Km, .int .i64 x1.Age, .bool x1.Card, .slice a1_0 x1.Zones.length c1_0] 28 (0, 0)) :: pt b51 (.cells #[.bool x0.ByKm, .slice a0_0 x0.Bands.length c0_0, .int .i64 x0.Round, .slice a0_1 x0.Rules.length c0_1] 25 (0, 0)) :: R)) (m := fu) ⟨fu, x60.Price, (w64 (((x0.Bands).length : Int) - 1)), rfl, hq69, hE.pick _ ⟨rfl, rfl, rfl, rfl, rfl, trivial⟩, hS⟩ ?_
      clear hE hS a w hq69; rintro m72 a w ⟨n71, q75, q76, rfl, hq69, hE, hS⟩
      refine W.gen fun K77 hK77 => ?_
      rcases n71 with _ | n71
      · rw [Fishref2PriceOf.loop1] at hq69; exact absurd hq69 (by simp)
      rw [Fishref2PriceOf.loop1] at hq69
      refine W.seq ?_
      refine W.seq ?_
      refine W.region ?_
      refine WL.vS hS hE (runs_plain rfl) (Gives.p hE rfl) rfl ?_; clear hE a; intro a hE
      refine WL.vS hS hE (runs_plain rfl) (Gives.p hE rfl) rfl ?_; clear hE a; intro a hE
      refine WL.nil ?_
      refine W.cond hE rfl (fun hc78 => ?_) (fun hc78 => ?_)
      · replace hq69 := iteT hc78 hq69
        refine W.skip ?_
        refine W.seq ?_
        refine W.block ?_
        refine W.seq ?_
        refine W.region ?_
        refine WL.vS hS hE (runs_plain rfl) (Gives.p hE rfl) rfl ?_; clear hE a; intro a hE
        refine WL.vS hS hE (runs_plain rfl) (Gives.fld hE rfl fl25_1) rfl ?_; clear hE a; intro a hE
        refine WL.vS hS hE (runs_plain rfl) (Gives.loadB hE 1 rfl rfl rfl ty22) rfl ?_; clear hE a; intro a hE
        refine WL.vS hS hE (runs_plain rfl) (Gives.p hE rfl) rfl ?_; clear hE a; intro a hE
        obtain ⟨x79, hx80, hq69⟩ := bindS hq69
        obtain ⟨hi81, hlt82, hy83⟩ := gx_some hx80
        obtain ⟨cs84, hl85, hR86, hat87⟩ := h0_0.at hy83
        subst hR86
        refine WL.vS hS hE (runs_plain rfl) (Gives.idx hE (q76).toNat rfl rfl sl22 hi81 hlt82 (h0_0.aok hlt82)) rfl ?_; clear hE a; intro a hE
        refine WL.vS hS hE (runs_plain rfl) (Gives.fld hE rfl fl75_0) rfl ?_; clear hE a; intro a hE
        refine WL.vS hS hE (runs_plain rfl) (Gives.load1 hE rfl (fun w h => (hat87 w _ h).one rfl) ty3) rfl ?_; clear hE a; intro a hE
        refine WL.vS hS hE (runs_plain rfl) (Gives.p hE rfl) rfl ?_; clear hE a; intro a hE
        refine WL.nil ?_
        obtain ⟨q89, hq88, hq69⟩ := bindS hq69
        refine W.cut (fun a w => ∃ (q92 : Int), q92 = q89 ∧ Rep a 119 [(2, .pointer (some ⟨b51, 0, none⟩)), (3, .pointer (some ⟨b52, 0, none⟩)), (6, .int .i64 q57), (7, .int .i64 q92), (8, .int .i64 q76)] ∧ St w s (pt b52 (.cells #[.int .i64 x1.Day, .int .i64 x1.At, .int .i64 x1.Km, .int .i64 x1.Age, .bool x1.Card, .slice a1_0 x1.Zones.length c1_0] 28 (0, 0)) :: pt b51 (.cells #[.bool x0.ByKm, .slice a0_0 x0.Bands.length c0_0, .int .i64 x0.Round, .slice a0_1 x0.Rules.length c0_1] 25 (0, 0)) :: R)) ?_ ?_
        · refine W.gen fun K93 hK93 => ?_
          refine W.cond hE rfl (fun hc94 => ?_) (fun hc94 => ?_)
          · replace hq88 := iteT hc94 hq88
            refine W.region ?_
            refine WL.vS hS hE (runs_plain rfl) (Gives.fld hE rfl fl25_1) rfl ?_; clear hE a; intro a hE
            refine WL.vS hS hE (runs_plain rfl) (Gives.loadB hE 1 rfl rfl rfl ty22) rfl ?_; clear hE a; intro a hE
            refine WL.vS hS hE (runs_plain rfl) (Gives.p hE rfl) rfl ?_; clear hE a; intro a hE
            obtain ⟨x95, hx96, hq88⟩ := bindS hq88
            obtain ⟨hi97, hlt98, hy99⟩ := gx_some hx96
            obtain ⟨cs100, hl101, hR102, hat103⟩ := h0_0.at hy99
            subst hR102
            refine WL.vS hS hE (runs_plain rfl) (Gives.idx hE (q76).toNat rfl rfl sl22 hi97 hlt98 (h0_0.aok hlt98)) rfl ?_; clear hE a; intro a hE
            refine WL.vS hS hE (runs_plain rfl) (Gives.fld hE rfl fl75_1) rfl ?_; clear hE a; intro a hE
            refine WL.vS hS hE (runs_plain rfl) (Gives.load1 hE rfl (fun w h => (hat103 w _ h).one rfl) ty3) rfl ?_; clear hE a; intro a hE
            refine WL.vS hS hE (runs_plain rfl) (Gives.p hE rfl) rfl ?_; clear hE a; intro a hE
            refine WL.nil ?_
            subst hK93
            exact ⟨x95.Price, Option.some.inj hq88, hE.pick _ ⟨rfl, rfl, rfl, rfl, rfl, trivial⟩, hS⟩
          · replace hq88 := iteF hc94 hq88
            refine W.skip ?_
            subst hK93
            exact ⟨q75, Option.some.inj hq88, hE.pick _ ⟨rfl, rfl, rfl, rfl, rfl, trivial⟩, hS⟩
        · clear hE hS a w; rintro a w ⟨q92, rfl, hE, hS⟩
          refine W.region ?_
          refine WL.vS hS hE (runs_plain rfl) (Gives.p hE rfl) rfl ?_; clear hE a; intro a hE
          refine WL.vS hS hE (runs_plain rfl) (Gives.p hE rfl) rfl ?_; clear hE a; intro a hE
          refine WL.vS hS hE (runs_plain rfl) (Gives.p hE rfl) rfl ?_; clear hE a; intro a hE
          refine WL.nil ?_
          subst hK77
          exact ⟨n71, Nat.lt_succ_self _, n71, q92, (w64 (q76 - 1)), rfl, hq69, hE.pick _ ⟨rfl, rfl, rfl, rfl, rfl, trivial⟩, hS⟩
      · replace hq69 := iteF hc78 hq69
        subst hK77
        refine W.exit rfl ?_
        exact ⟨q75, q76, Option.some.inj hq69, hE.pick _ ⟨rfl, rfl, rfl, trivial⟩, hS⟩
    · clear hE hS a w; rintro a w ⟨q75, q76, rfl, hE, hS⟩
      dsimp only at hr
      refine W.seq ?_
      refine W.region ?_
      replace hS := hS.vecNil 3 1
      refine WL.vS hS hE (runs_plain rfl) (Gives.p hE rfl) rfl ?_; clear hE a; intro a hE
      refine WL.nil ?_
      refine W.seq ?_
      refine W.seq ?_
      refine W.region ?_
      refine WL.vS hS hE (runs_plain rfl) (Gives.fld hE rfl fl25_3) rfl ?_; clear hE a; intro a hE
      refine WL.vS hS hE (runs_plain rfl) (Gives.loadB hE 2 rfl rfl rfl ty23) rfl ?_; clear hE a; intro a hE
      refine WL.vS hS hE (runs_plain rfl) (Gives.len hE rfl sl23) rfl ?_; clear hE a; intro a hE
      refine WL.vS hS hE (runs_plain rfl) (Gives.p hE rfl) rfl ?_; clear hE a; intro a hE
      refine WL.nil ?_
      obtain ⟨q106, hq105, hr⟩ := bindS hr
      refine W.cut (fun a w => ∃ (q116 : Int), ∃ (q117 : List Int), ∃ (a118 : Option Addr), ∃ (c119 : Nat), ∃ (n121 : Nat), ∃ (cs122 : List Value), (q116, q117) = q106 ∧ Ev 1 (RI .i64) s cs122 q117 ∧ q117.length = n121 ∧ Rep a 119 [(2, .pointer (some ⟨b51, 0, none⟩)), (7, .int .i64 q116), (9, .slice a118 n121 c119)] ∧ St w s (vecC 3 1 a118 c119 n121 cs122 :: pt b52 (.cells #[.int .i64 x1.Day, .int .i64 x1.At, .int .i64 x1.Km, .int .i64 x1.Age, .bool x1.Card, .slice a1_0 x1.Zones.length c1_0] 28 (0, 0)) :: pt b51 (.cells #[.bool x0.ByKm, .slice a0_0 x0.Bands.length c0_0, .int .i64 x0.Round, .slice a0_1 x0.Rules.length c0_1] 25 (0, 0)) :: R)) ?_ ?_
      · refine W.block ?_
        refine W.loop (fun m a w => ∃ (rest109 : List FareRule) (k107 : Nat), ∃ (q116 : Int), ∃ (q117 : List Int), ∃ (a118 : Option Addr), ∃ (c119 : Nat), ∃ (n121 : Nat), ∃ (cs122 : List Value), rest109.length = m ∧ x0.Rules.drop k107 = rest109 ∧ Fishref2PriceOf.loop2 x1 fu rest109 k107 q116 q117 = some q106 ∧ Ev 1 (RI .i64) s cs122 q117 ∧ q117.length = n121 ∧ Rep a 119 [(2, .pointer (some ⟨b51, 0, none⟩)), (3, .pointer (some ⟨b52, 0, none⟩)), (7, .int .i64 q116), (9, .slice a118 n121 c119), (51, .slice a0_1 x0.Rules.length c0_1), (52, .int .i64 ((x0.Rules).length : Int)), (53, .int .i64 ((k107 : Nat) : Int))] ∧ St w s (vecC 3 1 a118 c119 n121 cs122 :: pt b52 (.cells #[.int .i64 x1.Day, .int .i64 x1.At, .int .i64 x1.Km, .int .i64 x1.Age, .bool x1.Card, .slice a1_0 x1.Zones.length c1_0] 28 (0, 0)) :: pt b51 (.cells #[.bool x0.ByKm, .slice a0_0 x0.Bands.length c0_0, .int .i64 x0.Round, .slice a0_1 x0.Rules.length c0_1] 25 (0, 0)) :: R)) (m := x0.Rules.length) ⟨x0.Rules, 0, q75, [], none, 0, 0, [], rfl, rfl, hq105, (Ev.nil), (rfl), hE.pick _ ⟨rfl, rfl, rfl, rfl, rfl, rfl, rfl, trivial⟩, hS⟩ ?_
        clear hE hS a w hq105; rintro m113 a w ⟨rest109, k107, q116, q117, a118, c119, n121, cs122, rfl, hd110, hq105, h120, rfl, hE, hS⟩
        refine W.gen fun K124 hK124 => ?_
        rcases rest109 with _ | ⟨x108, rest109⟩
        · have hlt111 := drop_nil hd110
          refine W.seq ?_
          refine W.region ?_
          refine WL.vS hS hE (runs_plain rfl) (Gives.p hE rfl) rfl ?_; clear hE a; intro a hE
          refine WL.nil ?_
          refine W.seq ?_
          refine W.condF hE rfl (decide_eq_false (by omega)) ?_
          subst hK124
          refine W.exit rfl ?_
          exact ⟨q116, q117, a118, c119, q117.length, cs122, Option.some.inj hq105, h120, rfl, hE.pick _ ⟨rfl, rfl, rfl, trivial⟩, hS⟩
        · obtain ⟨hlt111, hx112, hd110⟩ := drop_cons hd110
          rw [Fishref2PriceOf.loop2] at hq105
          refine W.seq ?_
          refine W.region ?_
          refine WL.vS hS hE (runs_plain rfl) (Gives.p hE rfl) rfl ?_; clear hE a; intro a hE
          refine WL.nil ?_
          refine W.seq ?_
          refine W.condT hE rfl (decide_eq_true (by omega)) ?_
          refine W.skip ?_
          refine W.seq ?_
          refine W.block ?_
          refine W.seq ?_
          refine W.region ?_
          refine WL.vS hS hE (runs_plain rfl) (Gives.p hE rfl) rfl ?_; clear hE a; intro a hE
          obtain ⟨cs125, hl126, hR127, hat128⟩ := h0_1.at hx112
          obtain ⟨a129, c130, rfl, h131⟩ := hR127
          refine WL.vS hS hE (runs_plain rfl) (Gives.idx hE k107 rfl rfl sl23 rfl hlt111 (h0_1.aok hlt111)) rfl ?_; clear hE a; intro a hE
          refine WL.vS hS hE (runs_plain rfl) (Gives.loadA hE rfl (fun w h => hat128 w _ h) ty77) rfl ?_; clear hE a; intro a hE
          refine WL.alloc hE hS (runs_plain rfl) zr77 rfl ?_; clear hE hS a w; intro b132 a w hE hS
          refine WL.vS hS hE (runs_plain rfl) (Gives.p hE rfl) rfl ?_; clear hE a; intro a hE
          refine WL.storeI hE hS 0 rfl [.int .i64 x108.If.Kind, .int .i64 x108.If.A, .int .i64 x108.If.B, .slice a129 x108.If.Kids.length c130, .int .i64 x108.Do, .int .i64 x108.N, .bool x108.Stop] (runs_plain rfl) rfl rfl rfl ty77 rfl rfl rfl rfl ?_; clear hE hS a w; intro a w hE hS
          refine WL.nil ?_
          refine W.seq ?_
          refine W.seq ?_
          refine W.region ?_
          refine WL.vS hS hE (runs_plain rfl) (Gives.fld hE rfl fl77_0) rfl ?_; clear hE a; intro a hE
          refine WL.vS hS hE (runs_plain rfl) (Gives.loadA (cs := [.int .i64 x108.If.Kind, .int .i64 x108.If.A, .int .i64 x108.If.B, .slice a129 x108.If.Kids.length c130]) hE rfl (fun w h => (St.seesAt h 0 rfl).part 0 4) ty41) rfl ?_; clear hE a; intro a hE
          refine WL.vS hS hE (runs_plain rfl) (Gives.loadBA hE 2 rfl rfl ty28) rfl ?_; clear hE a; intro a hE
          obtain ⟨q133, hq134, hq105⟩ := bindS hq105
          have hc_ := Fishref2HoldsOf_ok hS h131 h1_0 hq134
          refine WL.fnq hE (hc_) (runs_plain rfl) bd21 rfl rfl rfl ?_
          clear hE hS hc_; rintro e w ⟨rfl, hS⟩; refine ⟨_, rfl, ?_⟩; clear a; intro a hE
          refine WL.vS hS hE (runs_plain rfl) (Gives.p hE rfl) rfl ?_; clear hE a; intro a hE
          refine WL.nil ?_
          refine W.cond hE rfl (fun hc135 => ?_) (fun hc135 => ?_)
          · replace hq105 := iteT hc135 hq105
            refine W.exit rfl ?_
            refine W.region ?_
            refine WL.vS hS hE (runs_plain rfl) (Gives.inc hE rfl (by have := h0_1.small; omega)) rfl ?_; clear hE a; intro a hE
            refine WL.vS hS hE (runs_plain rfl) (Gives.p hE rfl) rfl ?_; clear hE a; intro a hE
            refine WL.nil ?_
            replace hS := hS.tail
            subst hK124
            exact ⟨rest109.length, Nat.lt_succ_self _, rest109, k107 + 1, q116, q117, a118, c119, q117.length, cs122, rfl, hd110, hq105, h120, rfl, hE.pick _ ⟨rfl, rfl, rfl, rfl, rfl, rfl, rfl, trivial⟩, hS⟩
          · replace hq105 := iteF hc135 hq105
            refine W.skip ?_
            refine W.seq ?_
            refine W.region ?_
            refine WL.vS hS hE (runs_plain rfl) (Gives.p hE rfl) rfl ?_; clear hE a; intro a hE
            refine WL.vS hS hE (runs_plain rfl) (Gives.p hE rfl) rfl ?_; clear hE a; intro a hE
            refine WL.lit hE hS (e := 3) (es := 1) (vs := [(0, .int .i64 ((k107 : Nat) : Int))]) (cs := [.int .i64 ((k107 : Nat) : Int)]) (runs_plain rfl) rfl (by kernel_rfl) rfl ?_; clear hE hS a w; intro b136 a w hE hS
            obtain ⟨x137, hx138, hq105⟩ := bindS hq105
            refine WL.appD hE hS 1 (m := 1) (runs_plain rfl) rfl rfl rfl ap26 rfl h120 rfl (xs := [((k107 : Nat) : Int)]) (Ev.cons (c1 := [.int .i64 ((k107 : Nat) : Int)]) rfl rfl (Ev.nil)) rfl rfl hx138 rfl ?_; clear hE hS a w; intro a139 c140 cs141 a w h142 hE hS
            refine WL.vS hS hE (runs_plain rfl) (Gives.p hE rfl) rfl ?_; clear hE a; intro a hE
            refine WL.nil ?_
            refine W.seq ?_
            refine W.seq ?_
            refine W.region ?_
            refine WL.vS hS hE (runs_plain rfl) (Gives.fld hE rfl fl77_1) rfl ?_; clear hE a; intro a hE
            refine WL.vS hS hE (runs_plain rfl) (Gives.loadB hE 0 rfl rfl rfl ty3) rfl ?_; clear hE a; intro a hE
            refine WL.nil ?_
            refine W.block ?_
            refine W.seq ?_
            refine W.region ?_
            refine WL.vS hS hE (runs_plain rfl) (Gives.p hE rfl) rfl ?_; clear hE a; intro a hE
            refine WL.vS hS hE (runs_plain rfl) (Gives.p hE rfl) rfl ?_; clear hE a; intro a hE
            refine WL.nil ?_
            obtain ⟨q144, hq143, hq105⟩ := bndS hq105
            refine W.cut (fun a w => ∃ (q147 : Int), q147 = q144 ∧ Rep a 119 [(2, .pointer (some ⟨b51, 0, none⟩)), (3, .pointer (some ⟨b52, 0, none⟩)), (7, .int .i64 q147), (9, .slice a139 x137.length c140), (11, .pointer (some ⟨b132, 0, none⟩)), (51, .slice a0_1 x0.Rules.length c0_1), (52, .int .i64 ((x0.Rules).length : Int)), (53, .int .i64 ((k107 : Nat) : Int))] ∧ St w s (pt b132 (.cells #[.int .i64 x108.If.Kind, .int .i64 x108.If.A, .int .i64 x108.If.B, .slice a129 x108.If.Kids.length c130, .int .i64 x108.Do, .int .i64 x108.N, .bool x108.Stop] 77 (0, 0)) :: vecC 3 1 a139 c140 x137.length cs141 :: pt b52 (.cells #[.int .i64 x1.Day, .int .i64 x1.At, .int .i64 x1.Km, .int .i64 x1.Age, .bool x1.Card, .slice a1_0 x1.Zones.length c1_0] 28 (0, 0)) :: pt b51 (.cells #[.bool x0.ByKm, .slice a0_0 x0.Bands.length c0_0, .int .i64 x0.Round, .slice a0_1 x0.Rules.length c0_1] 25 (0, 0)) :: R)) ?_ ?_
            · refine W.gen fun K148 hK148 => ?_
              refine W.cond hE rfl (fun hc149 => ?_) (fun hc149 => ?_)
              · replace hq143 := iteT hc149 hq143
                refine W.region ?_
                refine WL.vS hS hE (runs_plain rfl) (Gives.p hE rfl) rfl ?_; clear hE a; intro a hE
                refine WL.vS hS hE (runs_plain rfl) (Gives.fld hE rfl fl77_2) rfl ?_; clear hE a; intro a hE
                refine WL.vS hS hE (runs_plain rfl) (Gives.loadB hE 0 rfl rfl rfl ty3) rfl ?_; clear hE a; intro a hE
                refine WL.vS hS hE (runs_plain rfl) (Gives.p hE rfl) rfl ?_; clear hE a; intro a hE
                refine WL.vS hS hE (runs_plain rfl) (Gives.p hE rfl) rfl ?_; clear hE a; intro a hE
                refine WL.vS hS hE (runs_plain rfl) (Gives.min2 hE rfl rfl) rfl ?_; clear hE a; intro a hE
                refine WL.vS hS hE (runs_plain rfl) (Gives.p hE rfl) rfl ?_; clear hE a; intro a hE
                refine WL.nil ?_
                subst hK148
                exact ⟨mn (w64 (Int.tdiv (w64 (q116 * x108.N)) 100)) 100000, hq143, hE.pick _ ⟨rfl, rfl, rfl, rfl, rfl, rfl, rfl, rfl, trivial⟩, hS⟩
              · replace hq143 := iteF hc149 hq143
                refine W.seq ?_
                refine W.region ?_
                refine WL.vS hS hE (runs_plain rfl) (Gives.p hE rfl) rfl ?_; clear hE a; intro a hE
                refine WL.vS hS hE (runs_plain rfl) (Gives.p hE rfl) rfl ?_; clear hE a; intro a hE
                refine WL.nil ?_
                obtain ⟨q151, hq150, hq143⟩ := bndS hq143
                refine W.cut (fun a w => ∃ (q154 : Int), q154 = q151 ∧ Rep a 119 [(2, .pointer (some ⟨b51, 0, none⟩)), (3, .pointer (some ⟨b52, 0, none⟩)), (7, .int .i64 q154), (9, .slice a139 x137.length c140), (11, .pointer (some ⟨b132, 0, none⟩)), (51, .slice a0_1 x0.Rules.length c0_1), (52, .int .i64 ((x0.Rules).length : Int)), (53, .int .i64 ((k107 : Nat) : Int))] ∧ St w s (pt b132 (.cells #[.int .i64 x108.If.Kind, .int .i64 x108.If.A, .int .i64 x108.If.B, .slice a129 x108.If.Kids.length c130, .int .i64 x108.Do, .int .i64 x108.N, .bool x108.Stop] 77 (0, 0)) :: vecC 3 1 a139 c140 x137.length cs141 :: pt b52 (.cells #[.int .i64 x1.Day, .int .i64 x1.At, .int .i64 x1.Km, .int .i64 x1.Age, .bool x1.Card, .slice a1_0 x1.Zones.length c1_0] 28 (0, 0)) :: pt b51 (.cells #[.bool x0.ByKm, .slice a0_0 x0.Bands.length c0_0, .int .i64 x0.Round, .slice a0_1 x0.Rules.length c0_1] 25 (0, 0)) :: R)) ?_ ?_
                · refine W.gen fun K155 hK155 => ?_
                  refine W.cond hE rfl (fun hc156 => ?_) (fun hc156 => ?_)
                  · replace hq150 := iteT hc156 hq150
                    refine W.region ?_
                    refine WL.vS hS hE (runs_plain rfl) (Gives.p hE rfl) rfl ?_; clear hE a; intro a hE
                    refine WL.vS hS hE (runs_plain rfl) (Gives.fld hE rfl fl77_2) rfl ?_; clear hE a; intro a hE
                    refine WL.vS hS hE (runs_plain rfl) (Gives.loadB hE 0 rfl rfl rfl ty3) rfl ?_; clear hE a; intro a hE
                    refine WL.vS hS hE (runs_plain rfl) (Gives.p hE rfl) rfl ?_; clear hE a; intro a hE
                    refine WL.vS hS hE (runs_plain rfl) (Gives.max2 hE rfl rfl) rfl ?_; clear hE a; intro a hE
                    refine WL.vS hS hE (runs_plain rfl) (Gives.p hE rfl) rfl ?_; clear hE a; intro a hE
                    refine WL.nil ?_
                    subst hK155
                    exact ⟨mx (w64 (q116 - x108.N)) 0, hq150, hE.pick _ ⟨rfl, rfl, rfl, rfl, rfl, rfl, rfl, rfl, trivial⟩, hS⟩
                  · replace hq150 := iteF hc156 hq150
                    refine W.seq ?_
                    refine W.region ?_
                    refine WL.vS hS hE (runs_plain rfl) (Gives.p hE rfl) rfl ?_; clear hE a; intro a hE
                    refine WL.vS hS hE (runs_plain rfl) (Gives.p hE rfl) rfl ?_; clear hE a; intro a hE
                    refine WL.nil ?_
                    obtain ⟨q158, hq157, hq150⟩ := bndS hq150
                    refine W.cut (fun a w => ∃ (q161 : Int), q161 = q158 ∧ Rep a 119 [(2, .pointer (some ⟨b51, 0, none⟩)), (3, .pointer (some ⟨b52, 0, none⟩)), (7, .int .i64 q161), (9, .slice a139 x137.length c140), (11, .pointer (some ⟨b132, 0, none⟩)), (51, .slice a0_1 x0.Rules.length c0_1), (52, .int .i64 ((x0.Rules).length : Int)), (53, .int .i64 ((k107 : Nat) : Int))] ∧ St w s (pt b132 (.cells #[.int .i64 x108.If.Kind, .int .i64 x108.If.A, .int .i64 x108.If.B, .slice a129 x108.If.Kids.length c130, .int .i64 x108.Do, .int .i64 x108.N, .bool x108.Stop] 77 (0, 0)) :: vecC 3 1 a139 c140 x137.length cs141 :: pt b52 (.cells #[.int .i64 x1.Day, .int .i64 x1.At, .int .i64 x1.Km, .int .i64 x1.Age, .bool x1.Card, .slice a1_0 x1.Zones.length c1_0] 28 (0, 0)) :: pt b51 (.cells #[.bool x0.ByKm, .slice a0_0 x0.Bands.length c0_0, .int .i64 x0.Round, .slice a0_1 x0.Rules.length c0_1] 25 (0, 0)) :: R)) ?_ ?_
                    · refine W.gen fun K162 hK162 => ?_
                      refine W.cond hE rfl (fun hc163 => ?_) (fun hc163 => ?_)
                      · replace hq157 := iteT hc163 hq157
                        refine W.region ?_
                        refine WL.vS hS hE (runs_plain rfl) (Gives.p hE rfl) rfl ?_; clear hE a; intro a hE
                        refine WL.vS hS hE (runs_plain rfl) (Gives.fld hE rfl fl77_2) rfl ?_; clear hE a; intro a hE
                        refine WL.vS hS hE (runs_plain rfl) (Gives.loadB hE 0 rfl rfl rfl ty3) rfl ?_; clear hE a; intro a hE
                        refine WL.vS hS hE (runs_plain rfl) (Gives.p hE rfl) rfl ?_; clear hE a; intro a hE
                        refine WL.vS hS hE (runs_plain rfl) (Gives.min2 hE rfl rfl) rfl ?_; clear hE a; intro a hE
                        refine WL.vS hS hE (runs_plain rfl) (Gives.p hE rfl) rfl ?_; clear hE a; intro a hE
                        refine WL.nil ?_
                        subst hK162
                        exact ⟨mn (w64 (q116 + x108.N)) 100000, hq157, hE.pick _ ⟨rfl, rfl, rfl, rfl, rfl, rfl, rfl, rfl, trivial⟩, hS⟩
                      · replace hq157 := iteF hc163 hq157
                        refine W.seq ?_
                        refine W.region ?_
                        refine WL.vS hS hE (runs_plain rfl) (Gives.p hE rfl) rfl ?_; clear hE a; intro a hE
                        refine WL.vS hS hE (runs_plain rfl) (Gives.p hE rfl) rfl ?_; clear hE a; intro a hE
                        refine WL.nil ?_
                        obtain ⟨q165, hq164, hq157⟩ := bndS hq157
                        refine W.cut (fun a w => ∃ (q168 : Int), q168 = q165 ∧ Rep a 119 [(2, .pointer (some ⟨b51, 0, none⟩)), (3, .pointer (some ⟨b52, 0, none⟩)), (7, .int .i64 q168), (9, .slice a139 x137.length c140), (11, .pointer (some ⟨b132, 0, none⟩)), (51, .slice a0_1 x0.Rules.length c0_1), (52, .int .i64 ((x0.Rules).length : Int)), (53, .int .i64 ((k107 : Nat) : Int))] ∧ St w s (pt b132 (.cells #[.int .i64 x108.If.Kind, .int .i64 x108.If.A, .int .i64 x108.If.B, .slice a129 x108.If.Kids.length c130, .int .i64 x108.Do, .int .i64 x108.N, .bool x108.Stop] 77 (0, 0)) :: vecC 3 1 a139 c140 x137.length cs141 :: pt b52 (.cells #[.int .i64 x1.Day, .int .i64 x1.At, .int .i64 x1.Km, .int .i64 x1.Age, .bool x1.Card, .slice a1_0 x1.Zones.length c1_0] 28 (0, 0)) :: pt b51 (.cells #[.bool x0.ByKm, .slice a0_0 x0.Bands.length c0_0, .int .i64 x0.Round, .slice a0_1 x0.Rules.length c0_1] 25 (0, 0)) :: R)) ?_ ?_
                        · refine W.gen fun K169 hK169 => ?_
                          refine W.cond hE rfl (fun hc170 => ?_) (fun hc170 => ?_)
                          · replace hq164 := iteT hc170 hq164
                            refine W.region ?_
                            refine WL.vS hS hE (runs_plain rfl) (Gives.fld hE rfl fl77_2) rfl ?_; clear hE a; intro a hE
                            refine WL.vS hS hE (runs_plain rfl) (Gives.loadB hE 0 rfl rfl rfl ty3) rfl ?_; clear hE a; intro a hE
                            refine WL.vS hS hE (runs_plain rfl) (Gives.p hE rfl) rfl ?_; clear hE a; intro a hE
                            refine WL.nil ?_
                            subst hK169
                            exact ⟨x108.N, hq164, hE.pick _ ⟨rfl, rfl, rfl, rfl, rfl, rfl, rfl, rfl, trivial⟩, hS⟩
                          · replace hq164 := iteF hc170 hq164
                            refine W.seq ?_
                            refine W.region ?_
                            refine WL.vS hS hE (runs_plain rfl) (Gives.p hE rfl) rfl ?_; clear hE a; intro a hE
                            refine WL.vS hS hE (runs_plain rfl) (Gives.p hE rfl) rfl ?_; clear hE a; intro a hE
                            refine WL.nil ?_
                            obtain ⟨q172, hq171, hq164⟩ := bndS hq164
                            refine W.cut (fun a w => ∃ (q175 : Int), q175 = q172 ∧ Rep a 119 [(2, .pointer (some ⟨b51, 0, none⟩)), (3, .pointer (some ⟨b52, 0, none⟩)), (7, .int .i64 q175), (9, .slice a139 x137.length c140), (11, .pointer (some ⟨b132, 0, none⟩)), (51, .slice a0_1 x0.Rules.length c0_1), (52, .int .i64 ((x0.Rules).length : Int)), (53, .int .i64 ((k107 : Nat) : Int))] ∧ St w s (pt b132 (.cells #[.int .i64 x108.If.Kind, .int .i64 x108.If.A, .int .i64 x108.If.B, .slice a129 x108.If.Kids.length c130, .int .i64 x108.Do, .int .i64 x108.N, .bool x108.Stop] 77 (0, 0)) :: vecC 3 1 a139 c140 x137.length cs141 :: pt b52 (.cells #[.int .i64 x1.Day, .int .i64 x1.At, .int .i64 x1.Km, .int .i64 x1.Age, .bool x1.Card, .slice a1_0 x1.Zones.length c1_0] 28 (0, 0)) :: pt b51 (.cells #[.bool x0.ByKm, .slice a0_0 x0.Bands.length c0_0, .int .i64 x0.Round, .slice a0_1 x0.Rules.length c0_1] 25 (0, 0)) :: R)) ?_ ?_
                            · refine W.gen fun K176 hK176 => ?_
                              refine W.cond hE rfl (fun hc177 => ?_) (fun hc177 => ?_)
                              · replace hq171 := iteT hc177 hq171
                                refine W.region ?_
                                refine WL.vS hS hE (runs_plain rfl) (Gives.p hE rfl) rfl ?_; clear hE a; intro a hE
                                refine WL.vS hS hE (runs_plain rfl) (Gives.fld hE rfl fl77_2) rfl ?_; clear hE a; intro a hE
                                refine WL.vS hS hE (runs_plain rfl) (Gives.loadB hE 0 rfl rfl rfl ty3) rfl ?_; clear hE a; intro a hE
                                refine WL.vS hS hE (runs_plain rfl) (Gives.min2 hE rfl rfl) rfl ?_; clear hE a; intro a hE
                                refine WL.vS hS hE (runs_plain rfl) (Gives.p hE rfl) rfl ?_; clear hE a; intro a hE
                                refine WL.nil ?_
                                subst hK176
                                exact ⟨mn q116 x108.N, hq171, hE.pick _ ⟨rfl, rfl, rfl, rfl, rfl, rfl, rfl, rfl, trivial⟩, hS⟩
                              · replace hq171 := iteF hc177 hq171
                                refine W.seq ?_
                                refine W.region ?_
                                refine WL.vS hS hE (runs_plain rfl) (Gives.p hE rfl) rfl ?_; clear hE a; intro a hE
                                refine WL.vS hS hE (runs_plain rfl) (Gives.p hE rfl) rfl ?_; clear hE a; intro a hE
                                refine WL.nil ?_
                                obtain ⟨q179, hq178, hq171⟩ := bndS hq171
                                refine W.cut (fun a w => ∃ (q182 : Int), q182 = q179 ∧ Rep a 119 [(2, .pointer (some ⟨b51, 0, none⟩)), (3, .pointer (some ⟨b52, 0, none⟩)), (7, .int .i64 q182), (9, .slice a139 x137.length c140), (11, .pointer (some ⟨b132, 0, none⟩)), (51, .slice a0_1 x0.Rules.length c0_1), (52, .int .i64 ((x0.Rules).length : Int)), (53, .int .i64 ((k107 : Nat) : Int))] ∧ St w s (pt b132 (.cells #[.int .i64 x108.If.Kind, .int .i64 x108.If.A, .int .i64 x108.If.B, .slice a129 x108.If.Kids.length c130, .int .i64 x108.Do, .int .i64 x108.N, .bool x108.Stop] 77 (0, 0)) :: vecC 3 1 a139 c140 x137.length cs141 :: pt b52 (.cells #[.int .i64 x1.Day, .int .i64 x1.At, .int .i64 x1.Km, .int .i64 x1.Age, .bool x1.Card, .slice a1_0 x1.Zones.length c1_0] 28 (0, 0)) :: pt b51 (.cells #[.bool x0.ByKm, .slice a0_0 x0.Bands.length c0_0, .int .i64 x0.Round, .slice a0_1 x0.Rules.length c0_1] 25 (0, 0)) :: R)) ?_ ?_
                                · refine W.gen fun K183 hK183 => ?_
                                  refine W.cond hE rfl (fun hc184 => ?_) (fun hc184 => ?_)
                                  · replace hq178 := iteT hc184 hq178
                                    refine W.region ?_
                                    refine WL.vS hS hE (runs_plain rfl) (Gives.p hE rfl) rfl ?_; clear hE a; intro a hE
                                    refine WL.vS hS hE (runs_plain rfl) (Gives.fld hE rfl fl77_2) rfl ?_; clear hE a; intro a hE
                                    refine WL.vS hS hE (runs_plain rfl) (Gives.loadB hE 0 rfl rfl rfl ty3) rfl ?_; clear hE a; intro a hE
                                    refine WL.vS hS hE (runs_plain rfl) (Gives.max2 hE rfl rfl) rfl ?_; clear hE a; intro a hE
                                    refine WL.vS hS hE (runs_plain rfl) (Gives.p hE rfl) rfl ?_; clear hE a; intro a hE
                                    refine WL.nil ?_
                                    subst hK183
                                    exact ⟨mx q116 x108.N, hq178, hE.pick _ ⟨rfl, rfl, rfl, rfl, rfl, rfl, rfl, rfl, trivial⟩, hS⟩
                                  · replace hq178 := iteF hc184 hq178
                                    refine W.skip ?_
                                    subst hK183
                                    exact ⟨q116, hq178, hE.pick _ ⟨rfl, rfl, rfl, rfl, rfl, rfl, rfl, rfl, trivial⟩, hS⟩
                                · clear hE hS a w; rintro a w ⟨q182, rfl, hE, hS⟩
                                  subst hK176
                                  exact ⟨q182, hq171, hE.pick _ ⟨rfl, rfl, rfl, rfl, rfl, rfl, rfl, rfl, trivial⟩, hS⟩
                            · clear hE hS a w; rintro a w ⟨q175, rfl, hE, hS⟩
                              subst hK169
                              exact ⟨q175, hq164, hE.pick _ ⟨rfl, rfl, rfl, rfl, rfl, rfl, rfl, rfl, trivial⟩, hS⟩
                        · clear hE hS a w; rintro a w ⟨q168, rfl, hE, hS⟩
                          subst hK162
                          exact ⟨q168, hq157, hE.pick _ ⟨rfl, rfl, rfl, rfl, rfl, rfl, rfl, rfl, trivial⟩, hS⟩
                    · clear hE hS a w; rintro a w ⟨q161, rfl, hE, hS⟩
                      subst hK155
                      exact ⟨q161, hq150, hE.pick _ ⟨rfl, rfl, rfl, rfl, rfl, rfl, rfl, rfl, trivial⟩, hS⟩
                · clear hE hS a w; rintro a w ⟨q154, rfl, hE, hS⟩
                  subst hK148
                  exact ⟨q154, hq143, hE.pick _ ⟨rfl, rfl, rfl, rfl, rfl, rfl, rfl, rfl, trivial⟩, hS⟩
            · clear hE hS a w; rintro a w ⟨q147, rfl, hE, hS⟩
              refine W.seq ?_
              refine W.region ?_
              refine WL.vS hS hE (runs_plain rfl) (Gives.fld hE rfl fl77_3) rfl ?_; clear hE a; intro a hE
              refine WL.vS hS hE (runs_plain rfl) (Gives.loadB hE 0 rfl rfl rfl ty4) rfl ?_; clear hE a; intro a hE
              refine WL.nil ?_
              refine W.cond hE rfl (fun hc185 => ?_) (fun hc185 => ?_)
              · replace hq105 := iteT hc185 hq105
                subst hK124
                refine W.exit rfl ?_
                replace hS := hS.tail
                exact ⟨q147, x137, a139, c140, x137.length, cs141, Option.some.inj hq105, h142, (rfl), hE.pick _ ⟨rfl, rfl, rfl, trivial⟩, hS⟩
              · replace hq105 := iteF hc185 hq105
                refine W.skip ?_
                refine W.region ?_
                refine WL.vS hS hE (runs_plain rfl) (Gives.inc hE rfl (by have := h0_1.small; omega)) rfl ?_; clear hE a; intro a hE
                refine WL.vS hS hE (runs_plain rfl) (Gives.p hE rfl) rfl ?_; clear hE a; intro a hE
                refine WL.nil ?_
                replace hS := hS.tail
                subst hK124
                exact ⟨rest109.length, Nat.lt_succ_self _, rest109, k107 + 1, q147, x137, a139, c140, x137.length, cs141, rfl, hd110, hq105, h142, (rfl), hE.pick _ ⟨rfl, rfl, rfl, rfl, rfl, rfl, rfl, trivial⟩, hS⟩
      · clear hE hS a w; rintro a w ⟨q116, q117, a118, c119, n121, cs122, rfl, h120, rfl, hE, hS⟩
        dsimp only at hr
        refine W.seq ?_
        obtain ⟨q187, hq186, hr⟩ := bindS hr
        refine W.cut (fun a w => ∃ (q192 : Int), q192 = q187 ∧ Rep a 119 [(7, .int .i64 q192), (9, .slice a118 q117.length c119)] ∧ St w s (vecC 3 1 a118 c119 q117.length cs122 :: pt b52 (.cells #[.int .i64 x1.Day, .int .i64 x1.At, .int .i64 x1.Km, .int .i64 x1.Age, .bool x1.Card, .slice a1_0 x1.Zones.length c1_0] 28 (0, 0)) :: pt b51 (.cells #[.bool x0.ByKm, .slice a0_0 x0.Bands.length c0_0, .int .i64 x0.Round, .slice a0_1 x0.Rules.length c0_1] 25 (0, 0)) :: R)) ?_ ?_
        · refine W.block ?_
          refine W.loop (fun m a w => ∃ (n188 : Nat), ∃ (q192 : Int), n188 = m ∧ Fishref2PriceOf.loop3 x0 n188 q192 = some q187 ∧ Rep a 119 [(2, .pointer (some ⟨b51, 0, none⟩)), (7, .int .i64 q192), (9, .slice a118 q117.length c119)] ∧ St w s (vecC 3 1 a118 c119 q117.length cs122 :: pt b52 (.cells #[.int .i64 x1.Day, .int .i64 x1.At, .int .i64 x1.Km, .int .i64 x1.Age, .bool x1.Card, .slice a1_0 x1.Zones.length c1_0] 28 (0, 0)) :: pt b51 (.cells #[.bool x0.ByKm, .slice a0_0 x0.Bands.length c0_0, .int .i64 x0.Round, .slice a0_1 x0.Rules.length c0_1] 25 (0, 0)) :: R)) (m := fu) ⟨fu, q116, rfl, hq186, hE.pick _ ⟨rfl, rfl, rfl, trivial⟩, hS⟩ ?_
          clear hE hS a w hq186; rintro m189 a w ⟨n188, q192, rfl, hq186, hE, hS⟩
          refine W.gen fun K193 hK193 => ?_
          rcases n188 with _ | n188
          · rw [Fishref2PriceOf.loop3] at hq186; exact absurd hq186 (by simp)
          rw [Fishref2PriceOf.loop3] at hq186
          refine W.seq ?_
          refine W.seq ?_
          refine W.region ?_
          refine WL.vS hS hE (runs_plain rfl) (Gives.p hE rfl) rfl ?_; clear hE a; intro a hE
          refine WL.vS hS hE (runs_plain rfl) (Gives.fld hE rfl fl25_2) rfl ?_; clear hE a; intro a hE
          refine WL.vS hS hE (runs_plain rfl) (Gives.loadB hE 2 rfl rfl rfl ty3) rfl ?_; clear hE a; intro a hE
          obtain ⟨x194, hx195, hq186⟩ := bindS hq186
          refine WL.vS hS hE (runs_plain rfl) (Gives.rm hE rfl rfl hx195) rfl ?_; clear hE a; intro a hE
          refine WL.vS hS hE (runs_plain rfl) (Gives.p hE rfl) rfl ?_; clear hE a; intro a hE
          refine WL.nil ?_
          refine W.cond hE rfl (fun hc196 => ?_) (fun hc196 => ?_)
          · replace hq186 := iteT hc196 hq186
            refine W.skip ?_
            refine W.block ?_
            refine W.region ?_
            refine WL.vS hS hE (runs_plain rfl) (Gives.p hE rfl) rfl ?_; clear hE a; intro a hE
            refine WL.vS hS hE (runs_plain rfl) (Gives.p hE rfl) rfl ?_; clear hE a; intro a hE
            refine WL.vS hS hE (runs_plain rfl) (Gives.p hE rfl) rfl ?_; clear hE a; intro a hE
            refine WL.nil ?_
            subst hK193
            exact ⟨n188, Nat.lt_succ_self _, n188, (w64 (q192 + 1)), rfl, hq186, hE.pick _ ⟨rfl, rfl, rfl, trivial⟩, hS⟩
          · replace hq186 := iteF hc196 hq186
            subst hK193
            refine W.exit rfl ?_
            exact ⟨q192, Option.some.inj hq186, hE.pick _ ⟨rfl, rfl, trivial⟩, hS⟩
        · clear hE hS a w; rintro a w ⟨q192, rfl, hE, hS⟩
          refine W.seq ?_
          refine W.region ?_
          refine WL.vS hS hE (runs_plain rfl) (Gives.p hE rfl) rfl ?_; clear hE a; intro a hE
          refine WL.vS hS hE (runs_plain rfl) (Gives.p hE rfl) rfl ?_; clear hE a; intro a hE
          refine WL.vS hS hE (runs_plain rfl) (Gives.p hE rfl) rfl ?_; clear hE a; intro a hE
          refine WL.vS hS hE (runs_plain rfl) (Gives.p hE rfl) rfl ?_; clear hE a; intro a hE
          refine WL.nil ?_
          refine W.ret ?_
          refine finG (fn := Try.f17) (rs := [.tmp 4, .tmp 5]) (vs := [_, _]) hE rfl ⟨rfl, rfl, trivial⟩ ?_
          obtain rfl := Option.some.inj hr
          replace hS := hS.dropAt 1
          replace hS := hS.dropAt 1
          exact ⟨a118, c119, q117.length, cs122, rfl, h120, rfl, hS⟩
set_option maxHeartbeats 8000000 in
theorem Fishlaw2FarePrices_ok {fu : Nat}  {w : World} {s : Sg} {R : List HP} {x0 : FareTariff} {a0_0 : Option Addr} {c0_0 : Nat} {a0_1 : Option Addr} {c0_1 : Nat} {x1 : FareTrip} {a1_0 : Option Addr} {c1_0 : Nat} (hS : St w s (R)) (h0_0 : Sl 2 RFareBand s a0_0 c0_0 x0.Bands) (h0_1 : Sl 7 RFareRule s a0_1 c0_1 x0.Rules) (h1_0 : Sl 1 (RI .i64) s a1_0 c1_0 x1.Zones) {r : Bool} (hr : Fishlaw2FarePrices fu x0 x1 = some r) :
    Calls Try.prog 4 [.agg [.bool x0.ByKm, .slice a0_0 x0.Bands.length c0_0, .int .i64 x0.Round, .slice a0_1 x0.Rules.length c0_1].toArray, .agg [.int .i64 x1.Day, .int .i64 x1.At, .int .i64 x1.Km, .int .i64 x1.Age, .bool x1.Card, .slice a1_0 x1.Zones.length c1_0].toArray].toArray w (fun e w => e = .returned (.bool r) ∧ St w s (R)) := by
  refine enter Try.func4 rfl rfl rfl fun a hE => ?_
  rw [Fishlaw2FarePrices] at hr
  refine W.seq ?_
  refine W.region ?_
  refine WL.box hE hS (runs_plain rfl) rfl rfl rfl ?_; clear hE hS a w; intro b51 a w hE hS
  refine WL.box hE hS (runs_plain rfl) rfl rfl rfl ?_; clear hE hS a w; intro b52 a w hE hS
  refine WL.vS hS hE (runs_plain rfl) (Gives.p hE rfl) rfl ?_; clear hE a; intro a hE
  refine WL.nil ?_
  refine W.seq ?_
  refine W.region ?_
  refine WL.vS hS hE (runs_plain rfl) (Gives.loadBA hE 1 rfl rfl ty25) rfl ?_; clear hE a; intro a hE
  refine WL.vS hS hE (runs_plain rfl) (Gives.loadBA hE 0 rfl rfl ty28) rfl ?_; clear hE a; intro a hE
  obtain ⟨q53, hq54, hr⟩ := bindS hr
  have hc_ := FarePrice_ok hS h0_0 h0_1 h1_0 hq54
  refine WL.fnq hE (hc_) (runs_plain rfl) bd16 rfl rfl rfl ?_
  clear hE hS hc_; rintro e w ⟨a55, c56, n57, cs58, rfl, h59, rfl, hS⟩; refine ⟨_, rfl, ?_⟩; clear a; intro a hE
  refine WL.vS hS hE (runs_plain rfl) (Gives.p hE rfl) rfl ?_; clear hE a; intro a hE
  refine WL.vS hS hE (runs_plain rfl) (Gives.p hE rfl) rfl ?_; clear hE a; intro a hE
  refine WL.vS hS hE (runs_plain rfl) (Gives.p hE rfl) rfl ?_; clear hE a; intro a hE
  refine WL.vS hS hE (runs_plain rfl) (Gives.p hE rfl) rfl ?_; clear hE a; intro a hE
  refine WL.vS hS hE (runs_plain rfl) (Gives.p hE rfl) rfl ?_; clear hE a; intro a hE
  refine WL.vS hS hE (runs_plain rfl) (Gives.p hE rfl) rfl ?_; clear hE a; intro a hE
  refine WL.vS hS hE (runs_plain rfl) (Gives.p hE rfl) rfl ?_; clear hE a; intro a hE
  refine WL.nil ?_
  refine W.seq ?_
  refine W.region ?_
  refine WL.vS hS hE (runs_plain rfl) (Gives.loadBA hE 2 rfl rfl ty25) rfl ?_; clear hE a; intro a hE
  obtain ⟨q61, hq62, hr⟩ := bindS hr
  have hc_ := Fishref2TariffFault_ok hS h0_0 h0_1 hq62
  refine WL.fnq hE (hc_) (runs_plain rfl) bd13 rfl rfl rfl ?_
  clear hE hS hc_; rintro e w ⟨rfl, hS⟩; refine ⟨_, rfl, ?_⟩; clear a; intro a hE
  refine WL.vS hS hE (runs_plain rfl) (Gives.p hE rfl) rfl ?_; clear hE a; intro a hE
  refine WL.nil ?_
  refine W.seq ?_
  refine W.seq ?_
  refine W.region ?_
  refine WL.vS hS hE (runs_plain rfl) (Gives.p hE rfl) rfl ?_; clear hE a; intro a hE
  refine WL.vS hS hE (runs_plain rfl) (Gives.p hE rfl) rfl ?_; clear hE a; intro a hE
  refine WL.nil ?_
  obtain ⟨q64, hq63, hr⟩ := bindS hr
  refine W.cut (fun a w => ∃ (q67 : Int), q67 = q64 ∧ Rep a 62 [(2, .pointer (some ⟨b51, 0, none⟩)), (3, .pointer (some ⟨b52, 0, none⟩)), (5, .int .i64 q53.1), (6, .slice a55 q53.2.1.length c56), (7, .int .i64 q53.2.2), (8, .int .i64 q67)] ∧ St w s (vecC 3 1 a55 c56 q53.2.1.length cs58 :: pt b52 (.cells #[.int .i64 x1.Day, .int .i64 x1.At, .int .i64 x1.Km, .int .i64 x1.Age, .bool x1.Card, .slice a1_0 x1.Zones.length c1_0] 28 (0, 0)) :: pt b51 (.cells #[.bool x0.ByKm, .slice a0_0 x0.Bands.length c0_0, .int .i64 x0.Round, .slice a0_1 x0.Rules.length c0_1] 25 (0, 0)) :: R)) ?_ ?_
  · refine W.gen fun K68 hK68 => ?_
    refine W.cond hE rfl (fun hc69 => ?_) (fun hc69 => ?_)
    · replace hq63 := iteT hc69 hq63
      refine W.region ?_
      refine WL.vS hS hE (runs_plain rfl) (Gives.loadBA hE 1 rfl rfl ty28) rfl ?_; clear hE a; intro a hE
      obtain ⟨q70, hq71, hq63⟩ := bindS hq63
      have hc_ := Fishref2TripFault_ok hS h1_0 hq71
      refine WL.fnq hE (hc_) (runs_plain rfl) bd15 rfl rfl rfl ?_
      clear hE hS hc_; rintro e w ⟨rfl, hS⟩; refine ⟨_, rfl, ?_⟩; clear a; intro a hE
      refine WL.vS hS hE (runs_plain rfl) (Gives.p hE rfl) rfl ?_; clear hE a; intro a hE
      refine WL.nil ?_
      subst hK68
      exact ⟨q70, Option.some.inj hq63, hE.pick _ ⟨rfl, rfl, rfl, rfl, rfl, rfl, trivial⟩, hS⟩
    · replace hq63 := iteF hc69 hq63
      refine W.skip ?_
      subst hK68
      exact ⟨q61, Option.some.inj hq63, hE.pick _ ⟨rfl, rfl, rfl, rfl, rfl, rfl, trivial⟩, hS⟩
  · clear hE hS a w; rintro a w ⟨q67, rfl, hE, hS⟩
    refine W.seq ?_
    refine W.seq ?_
    refine W.region ?_
    refine WL.vS hS hE (runs_plain rfl) (Gives.p hE rfl) rfl ?_; clear hE a; intro a hE
    refine WL.vS hS hE (runs_plain rfl) (Gives.p hE rfl) rfl ?_; clear hE a; intro a hE
    refine WL.nil ?_
    refine W.cond hE rfl (fun hc72 => ?_) (fun hc72 => ?_)
    · replace hr := iteT hc72 hr
      refine W.seq ?_
      obtain ⟨q74, hq73, hr⟩ := bindS hr
      refine W.cut (fun a w => ∃ (q77 : Bool), q77 = q74 ∧ Rep a 62 [(4, .bool q77)] ∧ St w s (vecC 3 1 a55 c56 q53.2.1.length cs58 :: pt b52 (.cells #[.int .i64 x1.Day, .int .i64 x1.At, .int .i64 x1.Km, .int .i64 x1.Age, .bool x1.Card, .slice a1_0 x1.Zones.length c1_0] 28 (0, 0)) :: pt b51 (.cells #[.bool x0.ByKm, .slice a0_0 x0.Bands.length c0_0, .int .i64 x0.Round, .slice a0_1 x0.Rules.length c0_1] 25 (0, 0)) :: R)) ?_ ?_
      · refine W.gen fun K78 hK78 => ?_
        refine W.region ?_
        obtain ⟨q79, hq80, hq73⟩ := bindS hq73
        have hc_ := Fishlaw2fares_ok hS  hq80
        refine WL.fnq hE (hc_) (runs_plain rfl) bd11 rfl rfl rfl ?_
        clear hE hS hc_; rintro e w ⟨rfl, hS⟩; refine ⟨_, rfl, ?_⟩; clear a; intro a hE
        refine WL.vS hS hE (runs_plain rfl) (Gives.p hE rfl) rfl ?_; clear hE a; intro a hE
        rcases Bool.eq_false_or_eq_true q79 with hg81 | hg81
        · replace hq73 := iteT hg81 hq73
          refine WL.vS hS hE (runs_if hE rfl rfl rfl hg81) (Gives.p hE rfl) rfl ?_; clear hE a; intro a hE
          refine WL.vS hS hE (runs_if hE rfl rfl rfl hg81) (Gives.p hE rfl) rfl ?_; clear hE a; intro a hE
          refine WL.vS hS hE (runs_if hE rfl rfl rfl hg81) (Gives.p hE rfl) rfl ?_; clear hE a; intro a hE
          refine WL.vS hS hE (runs_plain rfl) (Gives.pickT hE rfl hg81 rfl) rfl ?_; clear hE a; intro a hE
          refine WL.vS hS hE (runs_plain rfl) (Gives.p hE rfl) rfl ?_; clear hE a; intro a hE
          rcases Bool.eq_false_or_eq_true (q53.2.2 == q67) with hg82 | hg82
          · replace hq73 := iteT hg82 hq73
            refine WL.vS hS hE (runs_if hE rfl rfl rfl hg82) (Gives.p hE rfl) rfl ?_; clear hE a; intro a hE
            refine WL.vS hS hE (runs_if hE rfl rfl rfl hg82) (Gives.p hE rfl) rfl ?_; clear hE a; intro a hE
            refine WL.vS hS hE (runs_plain rfl) (Gives.pickT hE rfl hg82 rfl) rfl ?_; clear hE a; intro a hE
            refine WL.vS hS hE (runs_plain rfl) (Gives.p hE rfl) rfl ?_; clear hE a; intro a hE
            rcases Bool.eq_false_or_eq_true (q53.1 == 0) with hg83 | hg83
            · replace hq73 := iteT hg83 hq73
              refine WL.vS hS hE (runs_if hE rfl rfl rfl hg83) (Gives.p hE rfl) rfl ?_; clear hE a; intro a hE
              refine WL.vS hS hE (runs_if hE rfl rfl rfl hg83) (Gives.len hE rfl sl26) rfl ?_; clear hE a; intro a hE
              refine WL.vS hS hE (runs_if hE rfl rfl rfl hg83) (Gives.p hE rfl) rfl ?_; clear hE a; intro a hE
              refine WL.vS hS hE (runs_plain rfl) (Gives.pickT hE rfl hg83 rfl) rfl ?_; clear hE a; intro a hE
              refine WL.vS hS hE (runs_plain rfl) (Gives.p hE rfl) rfl ?_; clear hE a; intro a hE
              refine WL.nil ?_
              subst hK78
              exact ⟨(((q53.2.1.length : Nat) : Int) == 0), Option.some.inj hq73, hE.pick _ ⟨rfl, trivial⟩, hS⟩
            · replace hq73 := iteF hg83 hq73
              refine WL.no hE (runs_not hE rfl rfl rfl (by rw [hg83]; decide)) rfl ?_; clear hE a; intro a hE
              refine WL.no hE (runs_not hE rfl rfl rfl (by rw [hg83]; decide)) rfl ?_; clear hE a; intro a hE
              refine WL.no hE (runs_not hE rfl rfl rfl (by rw [hg83]; decide)) rfl ?_; clear hE a; intro a hE
              refine WL.vS hS hE (runs_plain rfl) (Gives.pickF hE rfl hg83 rfl) rfl ?_; clear hE a; intro a hE
              refine WL.vS hS hE (runs_plain rfl) (Gives.p hE rfl) rfl ?_; clear hE a; intro a hE
              refine WL.nil ?_
              subst hK78
              exact ⟨false, Option.some.inj hq73, hE.pick _ ⟨rfl, trivial⟩, hS⟩
          · replace hq73 := iteF hg82 hq73
            refine WL.no hE (runs_not hE rfl rfl rfl (by rw [hg82]; decide)) rfl ?_; clear hE a; intro a hE
            refine WL.no hE (runs_not hE rfl rfl rfl (by rw [hg82]; decide)) rfl ?_; clear hE a; intro a hE
            refine WL.vS hS hE (runs_plain rfl) (Gives.pickF hE rfl hg82 rfl) rfl ?_; clear hE a; intro a hE
            refine WL.vS hS hE (runs_plain rfl) (Gives.p hE rfl) rfl ?_; clear hE a; intro a hE
            refine WL.no hE (runs_not hE rfl rfl rfl (by decide)) rfl ?_; clear hE a; intro a hE
            refine WL.no hE (runs_not hE rfl rfl rfl (by decide)) rfl ?_; clear hE a; intro a hE
            refine WL.no hE (runs_not hE rfl rfl rfl (by decide)) rfl ?_; clear hE a; intro a hE
            refine WL.vS hS hE (runs_plain rfl) (Gives.pickF hE rfl rfl rfl) rfl ?_; clear hE a; intro a hE
            refine WL.vS hS hE (runs_plain rfl) (Gives.p hE rfl) rfl ?_; clear hE a; intro a hE
            refine WL.nil ?_
            subst hK78
            exact ⟨false, Option.some.inj hq73, hE.pick _ ⟨rfl, trivial⟩, hS⟩
        · replace hq73 := iteF hg81 hq73
          refine WL.no hE (runs_not hE rfl rfl rfl (by rw [hg81]; decide)) rfl ?_; clear hE a; intro a hE
          refine WL.no hE (runs_not hE rfl rfl rfl (by rw [hg81]; decide)) rfl ?_; clear hE a; intro a hE
          refine WL.no hE (runs_not hE rfl rfl rfl (by rw [hg81]; decide)) rfl ?_; clear hE a; intro a hE
          refine WL.vS hS hE (runs_plain rfl) (Gives.pickF hE rfl hg81 rfl) rfl ?_; clear hE a; intro a hE
          refine WL.vS hS hE (runs_plain rfl) (Gives.p hE rfl) rfl ?_; clear hE a; intro a hE
          refine WL.no hE (runs_not hE rfl rfl rfl (by decide)) rfl ?_; clear hE a; intro a hE
          refine WL.no hE (runs_not hE rfl rfl rfl (by decide)) rfl ?_; clear hE a; intro a hE
          refine WL.vS hS hE (runs_plain rfl) (Gives.pickF hE rfl rfl rfl) rfl ?_; clear hE a; intro a hE
          refine WL.vS hS hE (runs_plain rfl) (Gives.p hE rfl) rfl ?_; clear hE a; intro a hE
          refine WL.no hE (runs_not hE rfl rfl rfl (by decide)) rfl ?_; clear hE a; intro a hE
          refine WL.no hE (runs_not hE rfl rfl rfl (by decide)) rfl ?_; clear hE a; intro a hE
          refine WL.no hE (runs_not hE rfl rfl rfl (by decide)) rfl ?_; clear hE a; intro a hE
          refine WL.vS hS hE (runs_plain rfl) (Gives.pickF hE rfl rfl rfl) rfl ?_; clear hE a; intro a hE
          refine WL.vS hS hE (runs_plain rfl) (Gives.p hE rfl) rfl ?_; clear hE a; intro a hE
          refine WL.nil ?_
          subst hK78
          exact ⟨false, Option.some.inj hq73, hE.pick _ ⟨rfl, trivial⟩, hS⟩
      · clear hE hS a w; rintro a w ⟨q77, rfl, hE, hS⟩
        refine W.ret ?_
        refine finG (fn := Try.f4) (rs := [.tmp 4]) (vs := [_]) hE rfl ⟨rfl, trivial⟩ ?_
        obtain rfl := Option.some.inj hr
        replace hS := hS.tail
        replace hS := hS.tail
        replace hS := hS.tail
        exact ⟨rfl, hS⟩
    · replace hr := iteF hc72 hr
      refine W.skip ?_
      refine W.seq ?_
      refine W.region ?_
      refine WL.vS hS hE (runs_plain rfl) (Gives.loadBA hE 2 rfl rfl ty25) rfl ?_; clear hE a; intro a hE
      refine WL.vS hS hE (runs_plain rfl) (Gives.loadBA hE 1 rfl rfl ty28) rfl ?_; clear hE a; intro a hE
      obtain ⟨q84, hq85, hr⟩ := bindS hr
      have hc_ := Fishref2PriceOf_ok hS h0_0 h0_1 h1_0 hq85
      refine WL.fnq hE (hc_) (runs_plain rfl) bd17 rfl rfl rfl ?_
      clear hE hS hc_; rintro e w ⟨a86, c87, n88, cs89, rfl, h90, rfl, hS⟩; refine ⟨_, rfl, ?_⟩; clear a; intro a hE
      refine WL.vS hS hE (runs_plain rfl) (Gives.p hE rfl) rfl ?_; clear hE a; intro a hE
      refine WL.vS hS hE (runs_plain rfl) (Gives.p hE rfl) rfl ?_; clear hE a; intro a hE
      refine WL.vS hS hE (runs_plain rfl) (Gives.p hE rfl) rfl ?_; clear hE a; intro a hE
      refine WL.vS hS hE (runs_plain rfl) (Gives.p hE rfl) rfl ?_; clear hE a; intro a hE
      refine WL.vS hS hE (runs_plain rfl) (Gives.p hE rfl) rfl ?_; clear hE a; intro a hE
      refine WL.nil ?_
      refine W.seq ?_
      obtain ⟨q93, hq92, hr⟩ := bindS hr
      refine W.cut (fun a w => ∃ (q96 : Bool), q96 = q93 ∧ Rep a 62 [(4, .bool q96)] ∧ St w s (vecC 3 1 a86 c87 q84.2.length cs89 :: vecC 3 1 a55 c56 q53.2.1.length cs58 :: pt b52 (.cells #[.int .i64 x1.Day, .int .i64 x1.At, .int .i64 x1.Km, .int .i64 x1.Age, .bool x1.Card, .slice a1_0 x1.Zones.length c1_0] 28 (0, 0)) :: pt b51 (.cells #[.bool x0.ByKm, .slice a0_0 x0.Bands.length c0_0, .int .i64 x0.Round, .slice a0_1 x0.Rules.length c0_1] 25 (0, 0)) :: R)) ?_ ?_
      · refine W.gen fun K97 hK97 => ?_
        refine W.region ?_
        obtain ⟨q98, hq99, hq92⟩ := bindS hq92
        have hc_ := Fishlaw2fares_ok hS  hq99
        refine WL.fnq hE (hc_) (runs_plain rfl) bd11 rfl rfl rfl ?_
        clear hE hS hc_; rintro e w ⟨rfl, hS⟩; refine ⟨_, rfl, ?_⟩; clear a; intro a hE
        refine WL.vS hS hE (runs_plain rfl) (Gives.p hE rfl) rfl ?_; clear hE a; intro a hE
        rcases Bool.eq_false_or_eq_true q98 with hg100 | hg100
        · replace hq92 := iteT hg100 hq92
          refine WL.vS hS hE (runs_if hE rfl rfl rfl hg100) (Gives.p hE rfl) rfl ?_; clear hE a; intro a hE
          refine WL.vS hS hE (runs_if hE rfl rfl rfl hg100) (Gives.p hE rfl) rfl ?_; clear hE a; intro a hE
          refine WL.vS hS hE (runs_plain rfl) (Gives.pickT hE rfl hg100 rfl) rfl ?_; clear hE a; intro a hE
          refine WL.vS hS hE (runs_plain rfl) (Gives.p hE rfl) rfl ?_; clear hE a; intro a hE
          rcases Bool.eq_false_or_eq_true (q53.2.2 == 0) with hg101 | hg101
          · replace hq92 := iteT hg101 hq92
            refine WL.vS hS hE (runs_if hE rfl rfl rfl hg101) (Gives.p hE rfl) rfl ?_; clear hE a; intro a hE
            refine WL.vS hS hE (runs_if hE rfl rfl rfl hg101) (Gives.p hE rfl) rfl ?_; clear hE a; intro a hE
            refine WL.vS hS hE (runs_if hE rfl rfl rfl hg101) (Gives.p hE rfl) rfl ?_; clear hE a; intro a hE
            refine WL.vS hS hE (runs_plain rfl) (Gives.pickT hE rfl hg101 rfl) rfl ?_; clear hE a; intro a hE
            refine WL.vS hS hE (runs_plain rfl) (Gives.p hE rfl) rfl ?_; clear hE a; intro a hE
            rcases Bool.eq_false_or_eq_true (q53.1 == q84.1) with hg102 | hg102
            · replace hq92 := iteT hg102 hq92
              refine WL.vS hS hE (runs_if hE rfl rfl rfl hg102) (Gives.p hE rfl) rfl ?_; clear hE a; intro a hE
              refine WL.vS hS hE (runs_if hE rfl rfl rfl hg102) (Gives.p hE rfl) rfl ?_; clear hE a; intro a hE
              obtain ⟨q103, hq104, hq92⟩ := bindS hq92
              have hF := hS.lendV RI.mono 1 rfl h59 rfl; clear hS; obtain ⟨t105, hle106, hS, hs107, bk108⟩ := hF
              have hF := hS.lendV RI.mono 0 rfl (Ev.mono RI.mono hle106 h90) rfl; clear hS; obtain ⟨t109, hle110, hS, hs111, bk112⟩ := hF
              have hc_ := SlicesEqualLint_ok hS (Sl.mono RI.mono hle110 hs107) hs111 hq104
              refine WL.fnq hE (hc_) (runs_if hE rfl rfl rfl hg102) bd18 rfl rfl rfl ?_
              clear hE hS hc_; rintro e w ⟨rfl, hS⟩; refine ⟨_, rfl, ?_⟩; clear a; intro a hE
              replace hS := bk112 _ _ hS
              replace hS := bk108 _ _ hS
              refine WL.vS hS hE (runs_plain rfl) (Gives.pickT hE rfl hg102 rfl) rfl ?_; clear hE a; intro a hE
              refine WL.vS hS hE (runs_plain rfl) (Gives.p hE rfl) rfl ?_; clear hE a; intro a hE
              refine WL.nil ?_
              replace hS := hS.front 3 rfl
              replace hS := hS.front 3 rfl
              replace hS := hS.front 2 rfl
              replace hS := hS.front 3 rfl
              subst hK97
              exact ⟨q103, Option.some.inj hq92, hE.pick _ ⟨rfl, trivial⟩, hS⟩
            · replace hq92 := iteF hg102 hq92
              refine WL.no hE (runs_not hE rfl rfl rfl (by rw [hg102]; decide)) rfl ?_; clear hE a; intro a hE
              refine WL.no hE (runs_not hE rfl rfl rfl (by rw [hg102]; decide)) rfl ?_; clear hE a; intro a hE
              refine WL.no hE (runs_not hE rfl rfl rfl (by rw [hg102]; decide)) rfl ?_; clear hE a; intro a hE
              refine WL.vS hS hE (runs_plain rfl) (Gives.pickF hE rfl hg102 rfl) rfl ?_; clear hE a; intro a hE
              refine WL.vS hS hE (runs_plain rfl) (Gives.p hE rfl) rfl ?_; clear hE a; intro a hE
              refine WL.nil ?_
              subst hK97
              exact ⟨false, Option.some.inj hq92, hE.pick _ ⟨rfl, trivial⟩, hS⟩
          · replace hq92 := iteF hg101 hq92
            refine WL.no hE (runs_not hE rfl rfl rfl (by rw [hg101]; decide)) rfl ?_; clear hE a; intro a hE
            refine WL.no hE (runs_not hE rfl rfl rfl (by rw [hg101]; decide)) rfl ?_; clear hE a; intro a hE
            refine WL.no hE (runs_not hE rfl rfl rfl (by rw [hg101]; decide)) rfl ?_; clear hE a; intro a hE
            refine WL.vS hS hE (runs_plain rfl) (Gives.pickF hE rfl hg101 rfl) rfl ?_; clear hE a; intro a hE
            refine WL.vS hS hE (runs_plain rfl) (Gives.p hE rfl) rfl ?_; clear hE a; intro a hE
            refine WL.no hE (runs_not hE rfl rfl rfl (by decide)) rfl ?_; clear hE a; intro a hE
            refine WL.no hE (runs_not hE rfl rfl rfl (by decide)) rfl ?_; clear hE a; intro a hE
            refine WL.no hE (runs_not hE rfl rfl rfl (by decide)) rfl ?_; clear hE a; intro a hE
            refine WL.vS hS hE (runs_plain rfl) (Gives.pickF hE rfl rfl rfl) rfl ?_; clear hE a; intro a hE
            refine WL.vS hS hE (runs_plain rfl) (Gives.p hE rfl) rfl ?_; clear hE a; intro a hE
            refine WL.nil ?_
            subst hK97
            exact ⟨false, Option.some.inj hq92, hE.pick _ ⟨rfl, trivial⟩, hS⟩
        · replace hq92 := iteF hg100 hq92
          refine WL.no hE (runs_not hE rfl rfl rfl (by rw [hg100]; decide)) rfl ?_; clear hE a; intro a hE
          refine WL.no hE (runs_not hE rfl rfl rfl (by rw [hg100]; decide)) rfl ?_; clear hE a; intro a hE
          refine WL.vS hS hE (runs_plain rfl) (Gives.pickF hE rfl hg100 rfl) rfl ?_; clear hE a; intro a hE
          refine WL.vS hS hE (runs_plain rfl) (Gives.p hE rfl) rfl ?_; clear hE a; intro a hE
          refine WL.no hE (runs_not hE rfl rfl rfl (by decide)) rfl ?_; clear hE a; intro a hE
          refine WL.no hE (runs_not hE rfl rfl rfl (by decide)) rfl ?_; clear hE a; intro a hE
          refine WL.no hE (runs_not hE rfl rfl rfl (by decide)) rfl ?_; clear hE a; intro a hE
          refine WL.vS hS hE (runs_plain rfl) (Gives.pickF hE rfl rfl rfl) rfl ?_; clear hE a; intro a hE
          refine WL.vS hS hE (runs_plain rfl) (Gives.p hE rfl) rfl ?_; clear hE a; intro a hE
          refine WL.no hE (runs_not hE rfl rfl rfl (by decide)) rfl ?_; clear hE a; intro a hE
          refine WL.no hE (runs_not hE rfl rfl rfl (by decide)) rfl ?_; clear hE a; intro a hE
          refine WL.no hE (runs_not hE rfl rfl rfl (by decide)) rfl ?_; clear hE a; intro a hE
          refine WL.vS hS hE (runs_plain rfl) (Gives.pickF hE rfl rfl rfl) rfl ?_; clear hE a; intro a hE
          refine WL.vS hS hE (runs_plain rfl) (Gives.p hE rfl) rfl ?_; clear hE a; intro a hE
          refine WL.nil ?_
          subst hK97
          exact ⟨false, Option.some.inj hq92, hE.pick _ ⟨rfl, trivial⟩, hS⟩
      · clear hE hS a w; rintro a w ⟨q96, rfl, hE, hS⟩
        refine W.ret ?_
        refine finG (fn := Try.f4) (rs := [.tmp 4]) (vs := [_]) hE rfl ⟨rfl, trivial⟩ ?_
        obtain rfl := Option.some.inj hr
        replace hS := hS.tail
        replace hS := hS.tail
        replace hS := hS.tail
        replace hS := hS.tail
        exact ⟨rfl, hS⟩
end Go.Proofs.Ytmgdigencbganaa
