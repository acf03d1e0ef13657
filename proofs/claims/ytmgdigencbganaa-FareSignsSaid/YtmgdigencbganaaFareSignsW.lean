/- The walks of the functions that FareSigns reaches: each call comes to what its mirror says. The conditions are those of each contract. -/
import Derived.Test.YtmgdigencbganaaProg
import Derived.Test.YtmgdigencbganaaFareSignsM
import Derived.Test.YtmgdigencbganaaFpMore
import Derived.Test.YtmgdigencbganaaFareSignsW1
namespace Go.Proofs.Ytmgdigencbganaa
open Go Go.Fp
set_option maxHeartbeats 8000000 in
theorem Fishref2DigestOf_ok  {w : World} {s : Sg} {R : List HP} {x0 : ByteArray} (hS : St w s (R))  {r : Int} (hr : Fishref2DigestOf x0 = some r) :
    Calls Try.prog 30 [.string x0].toArray w (fun e w => e = .returned (.int .i64 r) ∧ St w s (R)) := by
  refine enter Try.func30 rfl rfl rfl fun a hE => ?_
  rw [Fishref2DigestOf] at hr
  refine W.seq ?_
  refine W.region ?_
  refine WL.vS hS hE (runs_plain rfl) (Gives.p hE rfl) rfl ?_; clear hE a; intro a hE
  refine WL.nil ?_
  refine W.seq ?_
  refine W.region ?_
  refine WL.vS hS hE (runs_plain rfl) (Gives.p hE rfl) rfl ?_; clear hE a; intro a hE
  refine WL.nil ?_
  refine W.seq ?_
  refine W.seq ?_
  refine W.region ?_
  refine WL.vS hS hE (runs_plain rfl) (Gives.p hE rfl) rfl ?_; clear hE a; intro a hE
  refine WL.vS hS hE (runs_plain rfl) (Gives.lenS hE rfl st9) rfl ?_; clear hE a; intro a hE
  refine WL.vS hS hE (runs_plain rfl) (Gives.p hE rfl) rfl ?_; clear hE a; intro a hE
  refine WL.nil ?_
  obtain ⟨_, hx62, hr⟩ := bindS hr
  have hb63 := szok_some hx62
  obtain ⟨q52, hq51, hr⟩ := bindS hr
  refine W.cut (fun a w => ∃ (q64 : Int), q64 = q52 ∧ Rep a 21 [(3, .int .i64 q64)] ∧ St w s (R)) ?_ ?_
  · refine W.block ?_
    refine W.loop (fun m a w => ∃ (rest55 : Nat) (k53 : Nat), ∃ (q64 : Int), rest55 = m ∧ k53 + rest55 = x0.size ∧ Fishref2DigestOf.loop1 x0 rest55 k53 q64 = some q52 ∧ Rep a 21 [(0, .string x0), (3, .int .i64 q64), (6, .int .i64 ((x0.size : Nat) : Int)), (7, .int .i64 ((k53 : Nat) : Int))] ∧ St w s (R)) (m := x0.size) ⟨x0.size, 0, 1, rfl, by omega, hq51, hE.pick _ ⟨rfl, rfl, rfl, rfl, trivial⟩, hS⟩ ?_
    clear hE hS a w hq51; rintro m59 a w ⟨rest55, k53, q64, rfl, hd56, hq51, hE, hS⟩
    refine W.gen fun K65 hK65 => ?_
    rcases rest55 with _ | rest55
    · skip
      refine W.seq ?_
      refine W.region ?_
      refine WL.vS hS hE (runs_plain rfl) (Gives.p hE rfl) rfl ?_; clear hE a; intro a hE
      refine WL.nil ?_
      refine W.seq ?_
      refine W.condF hE rfl (decide_eq_false (by omega)) ?_
      subst hK65
      refine W.exit rfl ?_
      exact ⟨q64, Option.some.inj hq51, hE.pick _ ⟨rfl, trivial⟩, hS⟩
    · have hlt57 : k53 < x0.size := by omega
      rw [Fishref2DigestOf.loop1] at hq51
      refine W.seq ?_
      refine W.region ?_
      refine WL.vS hS hE (runs_plain rfl) (Gives.p hE rfl) rfl ?_; clear hE a; intro a hE
      refine WL.nil ?_
      refine W.seq ?_
      refine W.condT hE rfl (decide_eq_true (by omega)) ?_
      refine W.skip ?_
      refine W.seq ?_
      refine W.block ?_
      refine W.seq ?_
      refine W.region ?_
      refine WL.vS hS hE (runs_plain rfl) (Gives.p hE rfl) rfl ?_; clear hE a; intro a hE
      refine WL.vS hS hE (runs_plain rfl) (Gives.p hE rfl) rfl ?_; clear hE a; intro a hE
      refine WL.nil ?_
      refine W.region ?_
      refine WL.vS hS hE (runs_plain rfl) (Gives.p hE rfl) rfl ?_; clear hE a; intro a hE
      refine WL.vS hS hE (runs_plain rfl) (Gives.p hE rfl) rfl ?_; clear hE a; intro a hE
      refine WL.vS hS hE (runs_plain rfl) (Gives.p hE rfl) rfl ?_; clear hE a; intro a hE
      refine WL.vS hS hE (runs_plain rfl) (Gives.p hE rfl) rfl ?_; clear hE a; intro a hE
      obtain ⟨x66, hx67, hq51⟩ := bindS hq51
      refine WL.vS hS hE (runs_plain rfl) (Gives.idxS hE st9 rfl rfl hx67) rfl ?_; clear hE a; intro a hE
      refine WL.vS hS hE (runs_plain rfl) (Gives.conv hE rfl hu5 ui3) rfl ?_; clear hE a; intro a hE
      refine WL.vS hS hE (runs_plain rfl) (Gives.p hE rfl) rfl ?_; clear hE a; intro a hE
      refine WL.vS hS hE (runs_plain rfl) (Gives.p hE rfl) rfl ?_; clear hE a; intro a hE
      refine WL.vS hS hE (runs_plain rfl) (Gives.p hE rfl) rfl ?_; clear hE a; intro a hE
      refine WL.vS hS hE (runs_plain rfl) (Gives.p hE rfl) rfl ?_; clear hE a; intro a hE
      refine WL.nil ?_
      refine W.region ?_
      refine WL.vS hS hE (runs_plain rfl) (Gives.inc hE rfl (by omega)) rfl ?_; clear hE a; intro a hE
      refine WL.vS hS hE (runs_plain rfl) (Gives.p hE rfl) rfl ?_; clear hE a; intro a hE
      refine WL.nil ?_
      subst hK65
      exact ⟨rest55, Nat.lt_succ_self _, rest55, k53 + 1, (Int.tmod (w64 ((w64 ((w64 (q64 * 257)) + (w64 x66))) + 1)) 999983), rfl, (by omega), hq51, hE.pick _ ⟨rfl, rfl, rfl, rfl, trivial⟩, hS⟩
  · clear hE hS a w; rintro a w ⟨q64, rfl, hE, hS⟩
    refine W.seq ?_
    refine W.region ?_
    refine WL.vS hS hE (runs_plain rfl) (Gives.p hE rfl) rfl ?_; clear hE a; intro a hE
    refine WL.vS hS hE (runs_plain rfl) (Gives.p hE rfl) rfl ?_; clear hE a; intro a hE
    refine WL.nil ?_
    refine W.ret ?_
    refine finG (fn := Try.f30) (rs := [.tmp 2]) (vs := [_]) hE rfl ⟨rfl, trivial⟩ ?_
    obtain rfl := Option.some.inj hr
    exact ⟨rfl, hS⟩
set_option maxHeartbeats 8000000 in
theorem FareKeycheck_ok  {w : World} {s : Sg} {R : List HP} {x0 : FareKey} {x1 : Bool} (hS : St w s (R))  {r : Int} (hr : FareKeycheck x0 x1 = r) :
    Calls Try.prog 57 [.agg (FareKey.cells x0).toArray, .bool x1].toArray w (fun e w => e = .returned (.int .i64 r) ∧ St w s (R)) := by
  refine enter Try.func57 rfl rfl rfl fun a hE => ?_
  rw [FareKeycheck] at hr
  refine W.seq ?_
  refine W.region ?_
  refine WL.box hE hS (runs_plain rfl) rfl rfl rfl ?_; clear hE hS a w; intro b51 a w hE hS
  refine WL.vS hS hE (runs_plain rfl) (Gives.p hE rfl) rfl ?_; clear hE a; intro a hE
  refine WL.nil ?_
  refine W.seq ?_
  refine W.seq ?_
  obtain ⟨q53, hq52, hr⟩ := bndS hr
  refine W.cut (fun a w => ∃ (q56 : Bool), q56 = q53 ∧ Rep a 27 [(26, .bool q56)] ∧ St w s (pt b51 (.cells (FareKey.cells x0).toArray 59 (0, 0)) :: R)) ?_ ?_
  · refine W.gen fun K57 hK57 => ?_
    refine W.region ?_
    refine WL.vS hS hE (runs_plain rfl) (Gives.fld hE rfl fl59_0) rfl ?_; clear hE a; intro a hE
    refine WL.vS hS hE (runs_plain rfl) (Gives.loadB hE 0 rfl rfl rfl ty3) rfl ?_; clear hE a; intro a hE
    refine WL.fnq hE (Farewithin_ok hS  rfl) (runs_plain rfl) bd39 rfl rfl rfl ?_
    clear hE hS; rintro e w ⟨rfl, hS⟩; refine ⟨_, rfl, ?_⟩; clear a; intro a hE
    refine WL.vS hS hE (runs_plain rfl) (Gives.p hE rfl) rfl ?_; clear hE a; intro a hE
    refine WL.vS hS hE (runs_plain rfl) (Gives.p hE rfl) rfl ?_; clear hE a; intro a hE
    rcases Bool.eq_false_or_eq_true (!(Farewithin x0.N 1018081 1072497001)) with hg58 | hg58
    · replace hq52 := iteT hg58 hq52
      refine WL.no hE (runs_not hE rfl rfl rfl (by rw [hg58]; decide)) rfl ?_; clear hE a; intro a hE
      refine WL.no hE (runs_not hE rfl rfl rfl (by rw [hg58]; decide)) rfl ?_; clear hE a; intro a hE
      refine WL.no hE (runs_not hE rfl rfl rfl (by rw [hg58]; decide)) rfl ?_; clear hE a; intro a hE
      refine WL.no hE (runs_not hE rfl rfl rfl (by rw [hg58]; decide)) rfl ?_; clear hE a; intro a hE
      refine WL.vS hS hE (runs_plain rfl) (Gives.pickT hE rfl hg58 rfl) rfl ?_; clear hE a; intro a hE
      refine WL.vS hS hE (runs_plain rfl) (Gives.p hE rfl) rfl ?_; clear hE a; intro a hE
      refine WL.no hE (runs_not hE rfl rfl rfl (by decide)) rfl ?_; clear hE a; intro a hE
      refine WL.no hE (runs_not hE rfl rfl rfl (by decide)) rfl ?_; clear hE a; intro a hE
      refine WL.no hE (runs_undef hE rfl rfl rfl) rfl ?_; clear hE a; intro a hE
      refine WL.no hE (runs_undef hE rfl rfl rfl) rfl ?_; clear hE a; intro a hE
      refine WL.no hE (runs_undef hE rfl rfl rfl) rfl ?_; clear hE a; intro a hE
      refine WL.no hE (runs_undef hE rfl rfl rfl) rfl ?_; clear hE a; intro a hE
      refine WL.no hE (runs_undef hE rfl rfl rfl) rfl ?_; clear hE a; intro a hE
      refine WL.no hE (runs_undef hE rfl rfl rfl) rfl ?_; clear hE a; intro a hE
      refine WL.no hE (runs_undef hE rfl rfl rfl) rfl ?_; clear hE a; intro a hE
      refine WL.no hE (runs_not hE rfl rfl rfl (by decide)) rfl ?_; clear hE a; intro a hE
      refine WL.vS hS hE (runs_plain rfl) (Gives.pickT hE rfl rfl rfl) rfl ?_; clear hE a; intro a hE
      refine WL.nil ?_
      subst hK57
      exact ⟨true, hq52, hE.pick _ ⟨rfl, trivial⟩, hS⟩
    · replace hq52 := iteF hg58 hq52
      refine WL.vS hS hE (runs_if hE rfl rfl rfl hg58) (Gives.fld hE rfl fl59_1) rfl ?_; clear hE a; intro a hE
      refine WL.vS hS hE (runs_if hE rfl rfl rfl hg58) (Gives.loadB hE 0 rfl rfl rfl ty3) rfl ?_; clear hE a; intro a hE
      refine WL.fnq hE (Farewithin_ok hS  rfl) (runs_if hE rfl rfl rfl hg58) bd39 rfl rfl rfl ?_
      clear hE hS; rintro e w ⟨rfl, hS⟩; refine ⟨_, rfl, ?_⟩; clear a; intro a hE
      refine WL.vS hS hE (runs_if hE rfl rfl rfl hg58) (Gives.p hE rfl) rfl ?_; clear hE a; intro a hE
      refine WL.vS hS hE (runs_plain rfl) (Gives.pickF hE rfl hg58 rfl) rfl ?_; clear hE a; intro a hE
      refine WL.vS hS hE (runs_plain rfl) (Gives.p hE rfl) rfl ?_; clear hE a; intro a hE
      rcases Bool.eq_false_or_eq_true (!(Farewithin x0.E 3 32749)) with hg59 | hg59
      · replace hq52 := iteT hg59 hq52
        refine WL.no hE (runs_not hE rfl rfl rfl (by rw [hg59]; decide)) rfl ?_; clear hE a; intro a hE
        refine WL.no hE (runs_not hE rfl rfl rfl (by rw [hg59]; decide)) rfl ?_; clear hE a; intro a hE
        refine WL.no hE (runs_undef hE rfl rfl rfl) rfl ?_; clear hE a; intro a hE
        refine WL.no hE (runs_undef hE rfl rfl rfl) rfl ?_; clear hE a; intro a hE
        refine WL.no hE (runs_undef hE rfl rfl rfl) rfl ?_; clear hE a; intro a hE
        refine WL.no hE (runs_undef hE rfl rfl rfl) rfl ?_; clear hE a; intro a hE
        refine WL.no hE (runs_undef hE rfl rfl rfl) rfl ?_; clear hE a; intro a hE
        refine WL.no hE (runs_undef hE rfl rfl rfl) rfl ?_; clear hE a; intro a hE
        refine WL.no hE (runs_undef hE rfl rfl rfl) rfl ?_; clear hE a; intro a hE
        refine WL.no hE (runs_not hE rfl rfl rfl (by rw [hg59]; decide)) rfl ?_; clear hE a; intro a hE
        refine WL.vS hS hE (runs_plain rfl) (Gives.pickT hE rfl hg59 rfl) rfl ?_; clear hE a; intro a hE
        refine WL.nil ?_
        subst hK57
        exact ⟨true, hq52, hE.pick _ ⟨rfl, trivial⟩, hS⟩
      · replace hq52 := iteF hg59 hq52
        refine WL.vS hS hE (runs_if hE rfl rfl rfl hg59) (Gives.p hE rfl) rfl ?_; clear hE a; intro a hE
        refine WL.vS hS hE (runs_if hE rfl rfl rfl hg59) (Gives.p hE rfl) rfl ?_; clear hE a; intro a hE
        rcases Bool.eq_false_or_eq_true x1 with hg60 | hg60
        · replace hq52 := iteT hg60 hq52
          refine WL.vS hS hE (runs_if hE rfl rfl rfl hg60) (Gives.fld hE rfl fl59_2) rfl ?_; clear hE a; intro a hE
          refine WL.vS hS hE (runs_if hE rfl rfl rfl hg60) (Gives.loadB hE 0 rfl rfl rfl ty3) rfl ?_; clear hE a; intro a hE
          refine WL.vS hS hE (runs_if hE rfl rfl rfl hg60) (Gives.fld hE rfl fl59_0) rfl ?_; clear hE a; intro a hE
          refine WL.vS hS hE (runs_if hE rfl rfl rfl hg60) (Gives.loadB hE 0 rfl rfl rfl ty3) rfl ?_; clear hE a; intro a hE
          refine WL.vS hS hE (runs_if hE rfl rfl rfl hg60) (Gives.p hE rfl) rfl ?_; clear hE a; intro a hE
          refine WL.fnq hE (Farewithin_ok hS  rfl) (runs_if hE rfl rfl rfl hg60) bd39 rfl rfl rfl ?_
          clear hE hS; rintro e w ⟨rfl, hS⟩; refine ⟨_, rfl, ?_⟩; clear a; intro a hE
          refine WL.vS hS hE (runs_if hE rfl rfl rfl hg60) (Gives.p hE rfl) rfl ?_; clear hE a; intro a hE
          refine WL.vS hS hE (runs_if hE rfl rfl rfl hg59) (Gives.pickT hE rfl hg60 rfl) rfl ?_; clear hE a; intro a hE
          refine WL.vS hS hE (runs_plain rfl) (Gives.pickF hE rfl hg59 rfl) rfl ?_; clear hE a; intro a hE
          refine WL.nil ?_
          subst hK57
          exact ⟨!(Farewithin x0.D 1 (w64 (x0.N - 1))), hq52, hE.pick _ ⟨rfl, trivial⟩, hS⟩
        · replace hq52 := iteF hg60 hq52
          refine WL.no hE (runs_not hE rfl rfl rfl (by rw [hg60]; decide)) rfl ?_; clear hE a; intro a hE
          refine WL.no hE (runs_not hE rfl rfl rfl (by rw [hg60]; decide)) rfl ?_; clear hE a; intro a hE
          refine WL.no hE (runs_not hE rfl rfl rfl (by rw [hg60]; decide)) rfl ?_; clear hE a; intro a hE
          refine WL.no hE (runs_not hE rfl rfl rfl (by rw [hg60]; decide)) rfl ?_; clear hE a; intro a hE
          refine WL.no hE (runs_not hE rfl rfl rfl (by rw [hg60]; decide)) rfl ?_; clear hE a; intro a hE
          refine WL.no hE (runs_not hE rfl rfl rfl (by rw [hg60]; decide)) rfl ?_; clear hE a; intro a hE
          refine WL.no hE (runs_not hE rfl rfl rfl (by rw [hg60]; decide)) rfl ?_; clear hE a; intro a hE
          refine WL.vS hS hE (runs_if hE rfl rfl rfl hg59) (Gives.pickF hE rfl hg60 rfl) rfl ?_; clear hE a; intro a hE
          refine WL.vS hS hE (runs_plain rfl) (Gives.pickF hE rfl hg59 rfl) rfl ?_; clear hE a; intro a hE
          refine WL.nil ?_
          subst hK57
          exact ⟨false, hq52, hE.pick _ ⟨rfl, trivial⟩, hS⟩
  · clear hE hS a w; rintro a w ⟨q56, rfl, hE, hS⟩
    refine W.cond hE rfl (fun hc61 => ?_) (fun hc61 => ?_)
    · replace hr := iteT hc61 hr
      refine W.seq ?_
      refine W.region ?_
      refine WL.vS hS hE (runs_plain rfl) (Gives.p hE rfl) rfl ?_; clear hE a; intro a hE
      refine WL.nil ?_
      refine W.ret ?_
      refine finG (fn := Try.f57) (rs := [.tmp 4]) (vs := [_]) hE rfl ⟨rfl, trivial⟩ ?_
      subst hr
      replace hS := hS.tail
      exact ⟨rfl, hS⟩
    · replace hr := iteF hc61 hr
      refine W.skip ?_
      refine W.seq ?_
      refine W.region ?_
      refine WL.vS hS hE (runs_plain rfl) (Gives.p hE rfl) rfl ?_; clear hE a; intro a hE
      refine WL.nil ?_
      refine W.ret ?_
      refine finG (fn := Try.f57) (rs := [.tmp 4]) (vs := [_]) hE rfl ⟨rfl, trivial⟩ ?_
      subst hr
      replace hS := hS.tail
      exact ⟨rfl, hS⟩
set_option maxHeartbeats 8000000 in
theorem Farepower_ok {fu : Nat}  {w : World} {s : Sg} {R : List HP} {x0 : Int} {x1 : Int} {x2 : Int} (hS : St w s (R))  {r : Int} (hr : Farepower fu x0 x1 x2 = some r) :
    Calls Try.prog 58 [.int .i64 x0, .int .i64 x1, .int .i64 x2].toArray w (fun e w => e = .returned (.int .i64 r) ∧ St w s (R)) := by
  refine enter Try.func58 rfl rfl rfl fun a hE => ?_
  rw [Farepower] at hr
  refine W.seq ?_
  refine W.region ?_
  refine WL.vS hS hE (runs_plain rfl) (Gives.p hE rfl) rfl ?_; clear hE a; intro a hE
  refine WL.nil ?_
  refine W.seq ?_
  refine W.region ?_
  refine WL.vS hS hE (runs_plain rfl) (Gives.p hE rfl) rfl ?_; clear hE a; intro a hE
  obtain ⟨x51, hx52, hr⟩ := bindS hr
  refine WL.vS hS hE (runs_plain rfl) (Gives.rm hE rfl rfl hx52) rfl ?_; clear hE a; intro a hE
  refine WL.vS hS hE (runs_plain rfl) (Gives.p hE rfl) rfl ?_; clear hE a; intro a hE
  refine WL.nil ?_
  refine W.seq ?_
  refine W.seq ?_
  refine W.region ?_
  refine WL.vS hS hE (runs_plain rfl) (Gives.p hE rfl) rfl ?_; clear hE a; intro a hE
  refine WL.vS hS hE (runs_plain rfl) (Gives.p hE rfl) rfl ?_; clear hE a; intro a hE
  obtain ⟨x53, hx54, hr⟩ := bindS hr
  refine WL.vS hS hE (runs_plain rfl) (Gives.rm hE rfl rfl hx54) rfl ?_; clear hE a; intro a hE
  refine WL.vS hS hE (runs_plain rfl) (Gives.p hE rfl) rfl ?_; clear hE a; intro a hE
  refine WL.nil ?_
  obtain ⟨q56, hq55, hr⟩ := bindS hr
  refine W.cut (fun a w => ∃ (q61 : Int), ∃ (q62 : Int), ∃ (q63 : Int), (q61, q62, q63) = q56 ∧ Rep a 31 [(7, .int .i64 q63)] ∧ St w s (R)) ?_ ?_
  · refine W.block ?_
    refine W.loop (fun m a w => ∃ (n57 : Nat), ∃ (q61 : Int), ∃ (q62 : Int), ∃ (q63 : Int), n57 = m ∧ Farepower.loop1 x2 n57 q61 q62 q63 = some q56 ∧ Rep a 31 [(0, .int .i64 q61), (1, .int .i64 q62), (2, .int .i64 x2), (7, .int .i64 q63)] ∧ St w s (R)) (m := fu) ⟨fu, x53, x1, x51, rfl, hq55, hE.pick _ ⟨rfl, rfl, rfl, rfl, trivial⟩, hS⟩ ?_
    clear hE hS a w hq55; rintro m58 a w ⟨n57, q61, q62, q63, rfl, hq55, hE, hS⟩
    refine W.gen fun K64 hK64 => ?_
    rcases n57 with _ | n57
    · rw [Farepower.loop1] at hq55; exact absurd hq55 (by simp)
    rw [Farepower.loop1] at hq55
    refine W.seq ?_
    refine W.seq ?_
    refine W.region ?_
    refine WL.vS hS hE (runs_plain rfl) (Gives.p hE rfl) rfl ?_; clear hE a; intro a hE
    refine WL.vS hS hE (runs_plain rfl) (Gives.p hE rfl) rfl ?_; clear hE a; intro a hE
    refine WL.nil ?_
    refine W.cond hE rfl (fun hc65 => ?_) (fun hc65 => ?_)
    · replace hq55 := iteT hc65 hq55
      refine W.skip ?_
      refine W.seq ?_
      refine W.block ?_
      refine W.seq ?_
      refine W.seq ?_
      refine W.region ?_
      refine WL.vS hS hE (runs_plain rfl) (Gives.p hE rfl) rfl ?_; clear hE a; intro a hE
      refine WL.vS hS hE (runs_plain rfl) (Gives.p hE rfl) rfl ?_; clear hE a; intro a hE
      refine WL.vS hS hE (runs_plain rfl) (Gives.p hE rfl) rfl ?_; clear hE a; intro a hE
      refine WL.nil ?_
      obtain ⟨q67, hq66, hq55⟩ := bindS hq55
      refine W.cut (fun a w => ∃ (q70 : Int), q70 = q67 ∧ Rep a 31 [(0, .int .i64 q61), (1, .int .i64 q62), (2, .int .i64 x2), (7, .int .i64 q70)] ∧ St w s (R)) ?_ ?_
      · refine W.gen fun K71 hK71 => ?_
        refine W.cond hE rfl (fun hc72 => ?_) (fun hc72 => ?_)
        · replace hq66 := iteT hc72 hq66
          refine W.region ?_
          refine WL.vS hS hE (runs_plain rfl) (Gives.p hE rfl) rfl ?_; clear hE a; intro a hE
          refine WL.vS hS hE (runs_plain rfl) (Gives.p hE rfl) rfl ?_; clear hE a; intro a hE
          refine WL.vS hS hE (runs_plain rfl) (Gives.p hE rfl) rfl ?_; clear hE a; intro a hE
          refine WL.vS hS hE (runs_plain rfl) (Gives.p hE rfl) rfl ?_; clear hE a; intro a hE
          obtain ⟨x73, hx74, hq66⟩ := bindS hq66
          refine WL.vS hS hE (runs_plain rfl) (Gives.rm hE rfl rfl hx74) rfl ?_; clear hE a; intro a hE
          refine WL.vS hS hE (runs_plain rfl) (Gives.p hE rfl) rfl ?_; clear hE a; intro a hE
          refine WL.nil ?_
          subst hK71
          exact ⟨x73, Option.some.inj hq66, hE.pick _ ⟨rfl, rfl, rfl, rfl, trivial⟩, hS⟩
        · replace hq66 := iteF hc72 hq66
          refine W.skip ?_
          subst hK71
          exact ⟨q63, Option.some.inj hq66, hE.pick _ ⟨rfl, rfl, rfl, rfl, trivial⟩, hS⟩
      · clear hE hS a w; rintro a w ⟨q70, rfl, hE, hS⟩
        refine W.region ?_
        refine WL.vS hS hE (runs_plain rfl) (Gives.p hE rfl) rfl ?_; clear hE a; intro a hE
        refine WL.vS hS hE (runs_plain rfl) (Gives.p hE rfl) rfl ?_; clear hE a; intro a hE
        refine WL.vS hS hE (runs_plain rfl) (Gives.p hE rfl) rfl ?_; clear hE a; intro a hE
        refine WL.vS hS hE (runs_plain rfl) (Gives.p hE rfl) rfl ?_; clear hE a; intro a hE
        obtain ⟨x75, hx76, hq55⟩ := bindS hq55
        refine WL.vS hS hE (runs_plain rfl) (Gives.rm hE rfl rfl hx76) rfl ?_; clear hE a; intro a hE
        refine WL.vS hS hE (runs_plain rfl) (Gives.p hE rfl) rfl ?_; clear hE a; intro a hE
        refine WL.nil ?_
        refine W.region ?_
        refine WL.vS hS hE (runs_plain rfl) (Gives.p hE rfl) rfl ?_; clear hE a; intro a hE
        refine WL.vS hS hE (runs_plain rfl) (Gives.shr hE rfl rfl (by decide)) rfl ?_; clear hE a; intro a hE
        refine WL.vS hS hE (runs_plain rfl) (Gives.p hE rfl) rfl ?_; clear hE a; intro a hE
        refine WL.nil ?_
        subst hK64
        exact ⟨n57, Nat.lt_succ_self _, n57, x75, (Int.fdiv q62 (2 ^ (min (Int.toNat 1) (IntKind.bits .i64)))), q70, rfl, hq55, hE.pick _ ⟨rfl, rfl, rfl, rfl, trivial⟩, hS⟩
    · replace hq55 := iteF hc65 hq55
      subst hK64
      refine W.exit rfl ?_
      exact ⟨q61, q62, q63, Option.some.inj hq55, hE.pick _ ⟨rfl, trivial⟩, hS⟩
  · clear hE hS a w; rintro a w ⟨q61, q62, q63, rfl, hE, hS⟩
    dsimp only at hr
    refine W.seq ?_
    refine W.region ?_
    refine WL.vS hS hE (runs_plain rfl) (Gives.p hE rfl) rfl ?_; clear hE a; intro a hE
    refine WL.vS hS hE (runs_plain rfl) (Gives.p hE rfl) rfl ?_; clear hE a; intro a hE
    refine WL.nil ?_
    refine W.ret ?_
    refine finG (fn := Try.f58) (rs := [.tmp 6]) (vs := [_]) hE rfl ⟨rfl, trivial⟩ ?_
    obtain rfl := Option.some.inj hr
    exact ⟨rfl, hS⟩
set_option maxHeartbeats 8000000 in
theorem FareSign_ok {fu : Nat}  {w : World} {s : Sg} {R : List HP} {x0 : FareKey} {x1 : ByteArray} (hS : St w s (R))  {r : Int × Int} (hr : FareSign fu x0 x1 = some r) :
    Calls Try.prog 31 [.agg (FareKey.cells x0).toArray, .string x1].toArray w (fun e w => e = .returned (.tuple #[.int .i64 r.1, .int .i64 r.2]) ∧ St w s (R)) := by
  refine enter Try.func31 rfl rfl rfl fun a hE => ?_
  rw [FareSign] at hr
  refine W.seq ?_
  refine W.region ?_
  refine WL.box hE hS (runs_plain rfl) rfl rfl rfl ?_; clear hE hS a w; intro b51 a w hE hS
  refine WL.vS hS hE (runs_plain rfl) (Gives.p hE rfl) rfl ?_; clear hE a; intro a hE
  refine WL.vS hS hE (runs_plain rfl) (Gives.p hE rfl) rfl ?_; clear hE a; intro a hE
  refine WL.nil ?_
  refine W.seq ?_
  refine W.seq ?_
  refine W.region ?_
  refine WL.vS hS hE (runs_plain rfl) (Gives.loadBA hE 0 rfl rfl ty59) rfl ?_; clear hE a; intro a hE
  refine WL.fnq hE (FareKeycheck_ok hS  rfl) (runs_plain rfl) bd57 rfl rfl rfl ?_
  clear hE hS; rintro e w ⟨rfl, hS⟩; refine ⟨_, rfl, ?_⟩; clear a; intro a hE
  refine WL.vS hS hE (runs_plain rfl) (Gives.p hE rfl) rfl ?_; clear hE a; intro a hE
  refine WL.nil ?_
  refine W.seq ?_
  refine W.region ?_
  refine WL.vS hS hE (runs_plain rfl) (Gives.p hE rfl) rfl ?_; clear hE a; intro a hE
  refine WL.vS hS hE (runs_plain rfl) (Gives.p hE rfl) rfl ?_; clear hE a; intro a hE
  refine WL.nil ?_
  refine W.cond hE rfl (fun hc52 => ?_) (fun hc52 => ?_)
  · replace hr := iteT hc52 hr
    refine W.seq ?_
    refine W.region ?_
    refine WL.vS hS hE (runs_plain rfl) (Gives.p hE rfl) rfl ?_; clear hE a; intro a hE
    refine WL.vS hS hE (runs_plain rfl) (Gives.p hE rfl) rfl ?_; clear hE a; intro a hE
    refine WL.vS hS hE (runs_plain rfl) (Gives.p hE rfl) rfl ?_; clear hE a; intro a hE
    refine WL.nil ?_
    refine W.ret ?_
    refine finG (fn := Try.f31) (rs := [.tmp 4, .tmp 5]) (vs := [_, _]) hE rfl ⟨rfl, rfl, trivial⟩ ?_
    obtain rfl := Option.some.inj hr
    replace hS := hS.tail
    exact ⟨rfl, hS⟩
  · replace hr := iteF hc52 hr
    refine W.skip ?_
    refine W.seq ?_
    refine W.regionQ (C := fun w => St w s (pt b51 (.cells (FareKey.cells x0).toArray 59 (0, 0)) :: R)) mixed (by kernel_rfl) hS.drew ?_
    refine QL.v hE (runs_plain rfl) (Gives.p hE rfl) rfl ?_; clear hE a; intro a hE
    obtain ⟨q53, hq54, hr⟩ := bindS hr
    refine QL.fnq hE (fun w hS => FareDigest_ok hS  hq54) (runs_plain rfl) bd29 rfl rfl rfl ?_; clear hE a; intro a hE
    refine QL.v hE (runs_plain rfl) (Gives.fld hE rfl fl59_2) rfl ?_; clear hE a; intro a hE
    refine QL.v hE (runs_plain rfl) (Gives.loadB hE 0 rfl rfl rfl ty3) rfl ?_; clear hE a; intro a hE
    refine QL.v hE (runs_plain rfl) (Gives.fld hE rfl fl59_0) rfl ?_; clear hE a; intro a hE
    refine QL.v hE (runs_plain rfl) (Gives.loadB hE 0 rfl rfl rfl ty3) rfl ?_; clear hE a; intro a hE
    obtain ⟨q55, hq56, hr⟩ := bindS hr
    refine QL.fnq hE (fun w hS => Farepower_ok hS  hq56) (runs_plain rfl) bd58 rfl rfl rfl ?_; clear hE a; intro a hE
    refine QL.v hE (runs_plain rfl) (Gives.p hE rfl) rfl ?_; clear hE a; intro a hE
    refine QL.v hE (runs_plain rfl) (Gives.p hE rfl) rfl ?_; clear hE a; intro a hE
    refine QL.nil ?_; clear hS w; intro w hS
    refine W.ret ?_
    refine finG (fn := Try.f31) (rs := [.tmp 4, .tmp 5]) (vs := [_, _]) hE rfl ⟨rfl, rfl, trivial⟩ ?_
    obtain rfl := Option.some.inj hr
    replace hS := hS.tail
    exact ⟨rfl, hS⟩
set_option maxHeartbeats 8000000 in
theorem FareVerify_ok {fu : Nat}  {w : World} {s : Sg} {R : List HP} {x0 : FareKey} {x1 : ByteArray} {x2 : Int} (hS : St w s (R))  {r : Bool × Int} (hr : FareVerify fu x0 x1 x2 = some r) :
    Calls Try.prog 32 [.agg (FareKey.cells x0).toArray, .string x1, .int .i64 x2].toArray w (fun e w => e = .returned (.tuple #[.bool r.1, .int .i64 r.2]) ∧ St w s (R)) := by
  refine enter Try.func32 rfl rfl rfl fun a hE => ?_
  rw [FareVerify] at hr
  refine W.seq ?_
  refine W.region ?_
  refine WL.box hE hS (runs_plain rfl) rfl rfl rfl ?_; clear hE hS a w; intro b51 a w hE hS
  refine WL.vS hS hE (runs_plain rfl) (Gives.p hE rfl) rfl ?_; clear hE a; intro a hE
  refine WL.vS hS hE (runs_plain rfl) (Gives.p hE rfl) rfl ?_; clear hE a; intro a hE
  refine WL.nil ?_
  refine W.seq ?_
  refine W.seq ?_
  refine W.region ?_
  refine WL.vS hS hE (runs_plain rfl) (Gives.loadBA hE 0 rfl rfl ty59) rfl ?_; clear hE a; intro a hE
  refine WL.fnq hE (FareKeycheck_ok hS  rfl) (runs_plain rfl) bd57 rfl rfl rfl ?_
  clear hE hS; rintro e w ⟨rfl, hS⟩; refine ⟨_, rfl, ?_⟩; clear a; intro a hE
  refine WL.vS hS hE (runs_plain rfl) (Gives.p hE rfl) rfl ?_; clear hE a; intro a hE
  refine WL.nil ?_
  refine W.seq ?_
  refine W.region ?_
  refine WL.vS hS hE (runs_plain rfl) (Gives.p hE rfl) rfl ?_; clear hE a; intro a hE
  refine WL.vS hS hE (runs_plain rfl) (Gives.p hE rfl) rfl ?_; clear hE a; intro a hE
  refine WL.nil ?_
  refine W.cond hE rfl (fun hc52 => ?_) (fun hc52 => ?_)
  · replace hr := iteT hc52 hr
    refine W.seq ?_
    refine W.region ?_
    refine WL.vS hS hE (runs_plain rfl) (Gives.p hE rfl) rfl ?_; clear hE a; intro a hE
    refine WL.vS hS hE (runs_plain rfl) (Gives.p hE rfl) rfl ?_; clear hE a; intro a hE
    refine WL.vS hS hE (runs_plain rfl) (Gives.p hE rfl) rfl ?_; clear hE a; intro a hE
    refine WL.nil ?_
    refine W.ret ?_
    refine finG (fn := Try.f32) (rs := [.tmp 6, .tmp 7]) (vs := [_, _]) hE rfl ⟨rfl, rfl, trivial⟩ ?_
    obtain rfl := Option.some.inj hr
    replace hS := hS.tail
    exact ⟨rfl, hS⟩
  · replace hr := iteF hc52 hr
    refine W.skip ?_
    refine W.seq ?_
    obtain ⟨q54, hq53, hr⟩ := bindS hr
    refine W.cut (fun a w => ∃ (q57 : Bool), ∃ (q58 : Int), (q57, q58) = q54 ∧ Rep a 30 [(6, .bool q57), (7, .int .i64 q58)] ∧ St w s (pt b51 (.cells (FareKey.cells x0).toArray 59 (0, 0)) :: R)) ?_ ?_
    · refine W.gen fun K59 hK59 => ?_
      refine W.region ?_
      refine WL.vS hS hE (runs_plain rfl) (Gives.p hE rfl) rfl ?_; clear hE a; intro a hE
      refine WL.vS hS hE (runs_plain rfl) (Gives.fld hE rfl fl59_0) rfl ?_; clear hE a; intro a hE
      refine WL.vS hS hE (runs_plain rfl) (Gives.loadB hE 0 rfl rfl rfl ty3) rfl ?_; clear hE a; intro a hE
      refine WL.vS hS hE (runs_plain rfl) (Gives.p hE rfl) rfl ?_; clear hE a; intro a hE
      refine WL.fnq hE (Farewithin_ok hS  rfl) (runs_plain rfl) bd39 rfl rfl rfl ?_
      clear hE hS; rintro e w ⟨rfl, hS⟩; refine ⟨_, rfl, ?_⟩; clear a; intro a hE
      refine WL.vS hS hE (runs_plain rfl) (Gives.p hE rfl) rfl ?_; clear hE a; intro a hE
      rcases Bool.eq_false_or_eq_true (Farewithin x2 0 (w64 (x0.N - 1))) with hg60 | hg60
      · replace hq53 := iteT hg60 hq53
        refine WL.vS hS hE (runs_if hE rfl rfl rfl hg60) (Gives.p hE rfl) rfl ?_; clear hE a; intro a hE
        refine WL.vS hS hE (runs_if hE rfl rfl rfl hg60) (Gives.fld hE rfl fl59_1) rfl ?_; clear hE a; intro a hE
        refine WL.vS hS hE (runs_if hE rfl rfl rfl hg60) (Gives.loadB hE 0 rfl rfl rfl ty3) rfl ?_; clear hE a; intro a hE
        refine WL.vS hS hE (runs_if hE rfl rfl rfl hg60) (Gives.fld hE rfl fl59_0) rfl ?_; clear hE a; intro a hE
        refine WL.vS hS hE (runs_if hE rfl rfl rfl hg60) (Gives.loadB hE 0 rfl rfl rfl ty3) rfl ?_; clear hE a; intro a hE
        obtain ⟨q61, hq62, hq53⟩ := bindS hq53
        have hc_ := Farepower_ok hS  hq62
        refine WL.fnq hE (hc_) (runs_if hE rfl rfl rfl hg60) bd58 rfl rfl rfl ?_
        clear hE hS hc_; rintro e w ⟨rfl, hS⟩; refine ⟨_, rfl, ?_⟩; clear a; intro a hE
        refine WL.vS hS hE (runs_if hE rfl rfl rfl hg60) (Gives.p hE rfl) rfl ?_; clear hE a; intro a hE
        obtain ⟨q63, hq64, hq53⟩ := bindS hq53
        have hc_ := FareDigest_ok hS  hq64
        refine WL.fnq hE (hc_) (runs_if hE rfl rfl rfl hg60) bd29 rfl rfl rfl ?_
        clear hE hS hc_; rintro e w ⟨rfl, hS⟩; refine ⟨_, rfl, ?_⟩; clear a; intro a hE
        refine WL.vS hS hE (runs_if hE rfl rfl rfl hg60) (Gives.p hE rfl) rfl ?_; clear hE a; intro a hE
        refine WL.vS hS hE (runs_plain rfl) (Gives.pickT hE rfl hg60 rfl) rfl ?_; clear hE a; intro a hE
        refine WL.vS hS hE (runs_plain rfl) (Gives.p hE rfl) rfl ?_; clear hE a; intro a hE
        refine WL.vS hS hE (runs_plain rfl) (Gives.p hE rfl) rfl ?_; clear hE a; intro a hE
        refine WL.nil ?_
        subst hK59
        exact ⟨(q61 == q63), 0, Option.some.inj hq53, hE.pick _ ⟨rfl, rfl, trivial⟩, hS⟩
      · replace hq53 := iteF hg60 hq53
        refine WL.no hE (runs_not hE rfl rfl rfl (by rw [hg60]; decide)) rfl ?_; clear hE a; intro a hE
        refine WL.no hE (runs_not hE rfl rfl rfl (by rw [hg60]; decide)) rfl ?_; clear hE a; intro a hE
        refine WL.no hE (runs_not hE rfl rfl rfl (by rw [hg60]; decide)) rfl ?_; clear hE a; intro a hE
        refine WL.no hE (runs_not hE rfl rfl rfl (by rw [hg60]; decide)) rfl ?_; clear hE a; intro a hE
        refine WL.no hE (runs_not hE rfl rfl rfl (by rw [hg60]; decide)) rfl ?_; clear hE a; intro a hE
        refine WL.no hE (runs_not hE rfl rfl rfl (by rw [hg60]; decide)) rfl ?_; clear hE a; intro a hE
        refine WL.no hE (runs_not hE rfl rfl rfl (by rw [hg60]; decide)) rfl ?_; clear hE a; intro a hE
        refine WL.no hE (runs_not hE rfl rfl rfl (by rw [hg60]; decide)) rfl ?_; clear hE a; intro a hE
        refine WL.no hE (runs_not hE rfl rfl rfl (by rw [hg60]; decide)) rfl ?_; clear hE a; intro a hE
        refine WL.vS hS hE (runs_plain rfl) (Gives.pickF hE rfl hg60 rfl) rfl ?_; clear hE a; intro a hE
        refine WL.vS hS hE (runs_plain rfl) (Gives.p hE rfl) rfl ?_; clear hE a; intro a hE
        refine WL.vS hS hE (runs_plain rfl) (Gives.p hE rfl) rfl ?_; clear hE a; intro a hE
        refine WL.nil ?_
        subst hK59
        exact ⟨false, 0, Option.some.inj hq53, hE.pick _ ⟨rfl, rfl, trivial⟩, hS⟩
    · clear hE hS a w; rintro a w ⟨q57, q58, rfl, hE, hS⟩
      dsimp only at hr
      refine W.ret ?_
      refine finG (fn := Try.f32) (rs := [.tmp 6, .tmp 7]) (vs := [_, _]) hE rfl ⟨rfl, rfl, trivial⟩ ?_
      obtain rfl := Option.some.inj hr
      replace hS := hS.tail
      exact ⟨rfl, hS⟩
set_option maxHeartbeats 8000000 in
theorem Fishref2within_ok  {w : World} {s : Sg} {R : List HP} {x0 : Int} {x1 : Int} {x2 : Int} (hS : St w s (R))  {r : Bool} (hr : Fishref2within x0 x1 x2 = r) :
    Calls Try.prog 41 [.int .i64 x0, .int .i64 x1, .int .i64 x2].toArray w (fun e w => e = .returned (.bool r) ∧ St w s (R)) := by
  refine enter Try.func41 rfl rfl rfl fun a hE => ?_
  rw [Fishref2within] at hr
  refine W.seq ?_
  refine W.region ?_
  refine WL.vS hS hE (runs_plain rfl) (Gives.p hE rfl) rfl ?_; clear hE a; intro a hE
  refine WL.nil ?_
  refine W.seq ?_
  obtain ⟨q52, hq51, hr⟩ := bndS hr
  refine W.cut (fun a w => ∃ (q55 : Bool), q55 = q52 ∧ Rep a 15 [(6, .bool q55)] ∧ St w s (R)) ?_ ?_
  · refine W.gen fun K56 hK56 => ?_
    refine W.region ?_
    refine WL.vS hS hE (runs_plain rfl) (Gives.p hE rfl) rfl ?_; clear hE a; intro a hE
    refine WL.vS hS hE (runs_plain rfl) (Gives.p hE rfl) rfl ?_; clear hE a; intro a hE
    refine WL.vS hS hE (runs_plain rfl) (Gives.p hE rfl) rfl ?_; clear hE a; intro a hE
    refine WL.vS hS hE (runs_plain rfl) (Gives.p hE rfl) rfl ?_; clear hE a; intro a hE
    rcases Bool.eq_false_or_eq_true (decide (x0 ≥ x1)) with hg57 | hg57
    · replace hq51 := iteT hg57 hq51
      refine WL.vS hS hE (runs_if hE rfl rfl rfl hg57) (Gives.p hE rfl) rfl ?_; clear hE a; intro a hE
      refine WL.vS hS hE (runs_if hE rfl rfl rfl hg57) (Gives.p hE rfl) rfl ?_; clear hE a; intro a hE
      refine WL.vS hS hE (runs_if hE rfl rfl rfl hg57) (Gives.p hE rfl) rfl ?_; clear hE a; intro a hE
      refine WL.vS hS hE (runs_plain rfl) (Gives.pickT hE rfl hg57 rfl) rfl ?_; clear hE a; intro a hE
      refine WL.vS hS hE (runs_plain rfl) (Gives.p hE rfl) rfl ?_; clear hE a; intro a hE
      refine WL.nil ?_
      subst hK56
      exact ⟨decide (x0 ≤ x2), hq51, hE.pick _ ⟨rfl, trivial⟩, hS⟩
    · replace hq51 := iteF hg57 hq51
      refine WL.no hE (runs_not hE rfl rfl rfl (by rw [hg57]; decide)) rfl ?_; clear hE a; intro a hE
      refine WL.no hE (runs_not hE rfl rfl rfl (by rw [hg57]; decide)) rfl ?_; clear hE a; intro a hE
      refine WL.no hE (runs_not hE rfl rfl rfl (by rw [hg57]; decide)) rfl ?_; clear hE a; intro a hE
      refine WL.vS hS hE (runs_plain rfl) (Gives.pickF hE rfl hg57 rfl) rfl ?_; clear hE a; intro a hE
      refine WL.vS hS hE (runs_plain rfl) (Gives.p hE rfl) rfl ?_; clear hE a; intro a hE
      refine WL.nil ?_
      subst hK56
      exact ⟨false, hq51, hE.pick _ ⟨rfl, trivial⟩, hS⟩
  · clear hE hS a w; rintro a w ⟨q55, rfl, hE, hS⟩
    refine W.ret ?_
    refine finG (fn := Try.f41) (rs := [.tmp 6]) (vs := [_]) hE rfl ⟨rfl, trivial⟩ ?_
    subst hr
    exact ⟨rfl, hS⟩
set_option maxHeartbeats 8000000 in
theorem Fishref2KeyFault_ok  {w : World} {s : Sg} {R : List HP} {x0 : FareKey} {x1 : Bool} (hS : St w s (R))  {r : Int} (hr : Fishref2KeyFault x0 x1 = r) :
    Calls Try.prog 33 [.agg (FareKey.cells x0).toArray, .bool x1].toArray w (fun e w => e = .returned (.int .i64 r) ∧ St w s (R)) := by
  refine enter Try.func33 rfl rfl rfl fun a hE => ?_
  rw [Fishref2KeyFault] at hr
  refine W.seq ?_
  refine W.region ?_
  refine WL.box hE hS (runs_plain rfl) rfl rfl rfl ?_; clear hE hS a w; intro b51 a w hE hS
  refine WL.vS hS hE (runs_plain rfl) (Gives.p hE rfl) rfl ?_; clear hE a; intro a hE
  refine WL.nil ?_
  refine W.seq ?_
  refine W.seq ?_
  obtain ⟨q53, hq52, hr⟩ := bndS hr
  refine W.cut (fun a w => ∃ (q56 : Bool), q56 = q53 ∧ Rep a 27 [(26, .bool q56)] ∧ St w s (pt b51 (.cells (FareKey.cells x0).toArray 59 (0, 0)) :: R)) ?_ ?_
  · refine W.gen fun K57 hK57 => ?_
    refine W.region ?_
    refine WL.vS hS hE (runs_plain rfl) (Gives.fld hE rfl fl59_0) rfl ?_; clear hE a; intro a hE
    refine WL.vS hS hE (runs_plain rfl) (Gives.loadB hE 0 rfl rfl rfl ty3) rfl ?_; clear hE a; intro a hE
    refine WL.fnq hE (Fishref2within_ok hS  rfl) (runs_plain rfl) bd41 rfl rfl rfl ?_
    clear hE hS; rintro e w ⟨rfl, hS⟩; refine ⟨_, rfl, ?_⟩; clear a; intro a hE
    refine WL.vS hS hE (runs_plain rfl) (Gives.p hE rfl) rfl ?_; clear hE a; intro a hE
    refine WL.vS hS hE (runs_plain rfl) (Gives.p hE rfl) rfl ?_; clear hE a; intro a hE
    rcases Bool.eq_false_or_eq_true (!(Fishref2within x0.N 1018081 1072497001)) with hg58 | hg58
    · replace hq52 := iteT hg58 hq52
      refine WL.no hE (runs_not hE rfl rfl rfl (by rw [hg58]; decide)) rfl ?_; clear hE a; intro a hE
      refine WL.no hE (runs_not hE rfl rfl rfl (by rw [hg58]; decide)) rfl ?_; clear hE a; intro a hE
      refine WL.no hE (runs_not hE rfl rfl rfl (by rw [hg58]; decide)) rfl ?_; clear hE a; intro a hE
      refine WL.no hE (runs_not hE rfl rfl rfl (by rw [hg58]; decide)) rfl ?_; clear hE a; intro a hE
      refine WL.vS hS hE (runs_plain rfl) (Gives.pickT hE rfl hg58 rfl) rfl ?_; clear hE a; intro a hE
      refine WL.vS hS hE (runs_plain rfl) (Gives.p hE rfl) rfl ?_; clear hE a; intro a hE
      refine WL.no hE (runs_not hE rfl rfl rfl (by decide)) rfl ?_; clear hE a; intro a hE
      refine WL.no hE (runs_not hE rfl rfl rfl (by decide)) rfl ?_; clear hE a; intro a hE
      refine WL.no hE (runs_undef hE rfl rfl rfl) rfl ?_; clear hE a; intro a hE
      refine WL.no hE (runs_undef hE rfl rfl rfl) rfl ?_; clear hE a; intro a hE
      refine WL.no hE (runs_undef hE rfl rfl rfl) rfl ?_; clear hE a; intro a hE
      refine WL.no hE (runs_undef hE rfl rfl rfl) rfl ?_; clear hE a; intro a hE
      refine WL.no hE (runs_undef hE rfl rfl rfl) rfl ?_; clear hE a; intro a hE
      refine WL.no hE (runs_undef hE rfl rfl rfl) rfl ?_; clear hE a; intro a hE
      refine WL.no hE (runs_undef hE rfl rfl rfl) rfl ?_; clear hE a; intro a hE
      refine WL.no hE (runs_not hE rfl rfl rfl (by decide)) rfl ?_; clear hE a; intro a hE
      refine WL.vS hS hE (runs_plain rfl) (Gives.pickT hE rfl rfl rfl) rfl ?_; clear hE a; intro a hE
      refine WL.nil ?_
      subst hK57
      exact ⟨true, hq52, hE.pick _ ⟨rfl, trivial⟩, hS⟩
    · replace hq52 := iteF hg58 hq52
      refine WL.vS hS hE (runs_if hE rfl rfl rfl hg58) (Gives.fld hE rfl fl59_1) rfl ?_; clear hE a; intro a hE
      refine WL.vS hS hE (runs_if hE rfl rfl rfl hg58) (Gives.loadB hE 0 rfl rfl rfl ty3) rfl ?_; clear hE a; intro a hE
      refine WL.fnq hE (Fishref2within_ok hS  rfl) (runs_if hE rfl rfl rfl hg58) bd41 rfl rfl rfl ?_
      clear hE hS; rintro e w ⟨rfl, hS⟩; refine ⟨_, rfl, ?_⟩; clear a; intro a hE
      refine WL.vS hS hE (runs_if hE rfl rfl rfl hg58) (Gives.p hE rfl) rfl ?_; clear hE a; intro a hE
      refine WL.vS hS hE (runs_plain rfl) (Gives.pickF hE rfl hg58 rfl) rfl ?_; clear hE a; intro a hE
      refine WL.vS hS hE (runs_plain rfl) (Gives.p hE rfl) rfl ?_; clear hE a; intro a hE
      rcases Bool.eq_false_or_eq_true (!(Fishref2within x0.E 3 32749)) with hg59 | hg59
      · replace hq52 := iteT hg59 hq52
        refine WL.no hE (runs_not hE rfl rfl rfl (by rw [hg59]; decide)) rfl ?_; clear hE a; intro a hE
        refine WL.no hE (runs_not hE rfl rfl rfl (by rw [hg59]; decide)) rfl ?_; clear hE a; intro a hE
        refine WL.no hE (runs_undef hE rfl rfl rfl) rfl ?_; clear hE a; intro a hE
        refine WL.no hE (runs_undef hE rfl rfl rfl) rfl ?_; clear hE a; intro a hE
        refine WL.no hE (runs_undef hE rfl rfl rfl) rfl ?_; clear hE a; intro a hE
        refine WL.no hE (runs_undef hE rfl rfl rfl) rfl ?_; clear hE a; intro a hE
        refine WL.no hE (runs_undef hE rfl rfl rfl) rfl ?_; clear hE a; intro a hE
        refine WL.no hE (runs_undef hE rfl rfl rfl) rfl ?_; clear hE a; intro a hE
        refine WL.no hE (runs_undef hE rfl rfl rfl) rfl ?_; clear hE a; intro a hE
        refine WL.no hE (runs_not hE rfl rfl rfl (by rw [hg59]; decide)) rfl ?_; clear hE a; intro a hE
        refine WL.vS hS hE (runs_plain rfl) (Gives.pickT hE rfl hg59 rfl) rfl ?_; clear hE a; intro a hE
        refine WL.nil ?_
        subst hK57
        exact ⟨true, hq52, hE.pick _ ⟨rfl, trivial⟩, hS⟩
      · replace hq52 := iteF hg59 hq52
        refine WL.vS hS hE (runs_if hE rfl rfl rfl hg59) (Gives.p hE rfl) rfl ?_; clear hE a; intro a hE
        refine WL.vS hS hE (runs_if hE rfl rfl rfl hg59) (Gives.p hE rfl) rfl ?_; clear hE a; intro a hE
        rcases Bool.eq_false_or_eq_true x1 with hg60 | hg60
        · replace hq52 := iteT hg60 hq52
          refine WL.vS hS hE (runs_if hE rfl rfl rfl hg60) (Gives.fld hE rfl fl59_2) rfl ?_; clear hE a; intro a hE
          refine WL.vS hS hE (runs_if hE rfl rfl rfl hg60) (Gives.loadB hE 0 rfl rfl rfl ty3) rfl ?_; clear hE a; intro a hE
          refine WL.vS hS hE (runs_if hE rfl rfl rfl hg60) (Gives.fld hE rfl fl59_0) rfl ?_; clear hE a; intro a hE
          refine WL.vS hS hE (runs_if hE rfl rfl rfl hg60) (Gives.loadB hE 0 rfl rfl rfl ty3) rfl ?_; clear hE a; intro a hE
          refine WL.vS hS hE (runs_if hE rfl rfl rfl hg60) (Gives.p hE rfl) rfl ?_; clear hE a; intro a hE
          refine WL.fnq hE (Fishref2within_ok hS  rfl) (runs_if hE rfl rfl rfl hg60) bd41 rfl rfl rfl ?_
          clear hE hS; rintro e w ⟨rfl, hS⟩; refine ⟨_, rfl, ?_⟩; clear a; intro a hE
          refine WL.vS hS hE (runs_if hE rfl rfl rfl hg60) (Gives.p hE rfl) rfl ?_; clear hE a; intro a hE
          refine WL.vS hS hE (runs_if hE rfl rfl rfl hg59) (Gives.pickT hE rfl hg60 rfl) rfl ?_; clear hE a; intro a hE
          refine WL.vS hS hE (runs_plain rfl) (Gives.pickF hE rfl hg59 rfl) rfl ?_; clear hE a; intro a hE
          refine WL.nil ?_
          subst hK57
          exact ⟨!(Fishref2within x0.D 1 (w64 (x0.N - 1))), hq52, hE.pick _ ⟨rfl, trivial⟩, hS⟩
        · replace hq52 := iteF hg60 hq52
          refine WL.no hE (runs_not hE rfl rfl rfl (by rw [hg60]; decide)) rfl ?_; clear hE a; intro a hE
          refine WL.no hE (runs_not hE rfl rfl rfl (by rw [hg60]; decide)) rfl ?_; clear hE a; intro a hE
          refine WL.no hE (runs_not hE rfl rfl rfl (by rw [hg60]; decide)) rfl ?_; clear hE a; intro a hE
          refine WL.no hE (runs_not hE rfl rfl rfl (by rw [hg60]; decide)) rfl ?_; clear hE a; intro a hE
          refine WL.no hE (runs_not hE rfl rfl rfl (by rw [hg60]; decide)) rfl ?_; clear hE a; intro a hE
          refine WL.no hE (runs_not hE rfl rfl rfl (by rw [hg60]; decide)) rfl ?_; clear hE a; intro a hE
          refine WL.no hE (runs_not hE rfl rfl rfl (by rw [hg60]; decide)) rfl ?_; clear hE a; intro a hE
          refine WL.vS hS hE (runs_if hE rfl rfl rfl hg59) (Gives.pickF hE rfl hg60 rfl) rfl ?_; clear hE a; intro a hE
          refine WL.vS hS hE (runs_plain rfl) (Gives.pickF hE rfl hg59 rfl) rfl ?_; clear hE a; intro a hE
          refine WL.nil ?_
          subst hK57
          exact ⟨false, hq52, hE.pick _ ⟨rfl, trivial⟩, hS⟩
  · clear hE hS a w; rintro a w ⟨q56, rfl, hE, hS⟩
    refine W.cond hE rfl (fun hc61 => ?_) (fun hc61 => ?_)
    · replace hr := iteT hc61 hr
      refine W.seq ?_
      refine W.region ?_
      refine WL.vS hS hE (runs_plain rfl) (Gives.p hE rfl) rfl ?_; clear hE a; intro a hE
      refine WL.nil ?_
      refine W.ret ?_
      refine finG (fn := Try.f33) (rs := [.tmp 4]) (vs := [_]) hE rfl ⟨rfl, trivial⟩ ?_
      subst hr
      replace hS := hS.tail
      exact ⟨rfl, hS⟩
    · replace hr := iteF hc61 hr
      refine W.skip ?_
      refine W.seq ?_
      refine W.region ?_
      refine WL.vS hS hE (runs_plain rfl) (Gives.p hE rfl) rfl ?_; clear hE a; intro a hE
      refine WL.nil ?_
      refine W.ret ?_
      refine finG (fn := Try.f33) (rs := [.tmp 4]) (vs := [_]) hE rfl ⟨rfl, trivial⟩ ?_
      subst hr
      replace hS := hS.tail
      exact ⟨rfl, hS⟩
set_option maxHeartbeats 8000000 in
theorem Fishref2powerOf_ok {fu : Nat}  {w : World} {s : Sg} {R : List HP} {x0 : Int} {x1 : Int} {x2 : Int} (hS : St w s (R))  {r : Int} (hr : Fishref2powerOf fu x0 x1 x2 = some r) :
    Calls Try.prog 59 [.int .i64 x0, .int .i64 x1, .int .i64 x2].toArray w (fun e w => e = .returned (.int .i64 r) ∧ St w s (R)) := by
  refine enter Try.func59 rfl rfl rfl fun a hE => ?_
  rw [Fishref2powerOf] at hr
  refine W.seq ?_
  refine W.region ?_
  refine WL.vS hS hE (runs_plain rfl) (Gives.p hE rfl) rfl ?_; clear hE a; intro a hE
  refine WL.nil ?_
  refine W.seq ?_
  refine W.region ?_
  refine WL.vS hS hE (runs_plain rfl) (Gives.p hE rfl) rfl ?_; clear hE a; intro a hE
  refine WL.nil ?_
  refine W.seq ?_
  refine W.seq ?_
  refine W.region ?_
  refine WL.vS hS hE (runs_plain rfl) (Gives.p hE rfl) rfl ?_; clear hE a; intro a hE
  refine WL.nil ?_
  obtain ⟨q52, hq51, hr⟩ := bindS hr
  refine W.cut (fun a w => ∃ (q57 : Int), ∃ (q58 : Int), (q57, q58) = q52 ∧ Rep a 31 [(7, .int .i64 q57)] ∧ St w s (R)) ?_ ?_
  · refine W.block ?_
    refine W.loop (fun m a w => ∃ (n53 : Nat), ∃ (q57 : Int), ∃ (q58 : Int), n53 = m ∧ Fishref2powerOf.loop1 x0 x1 x2 n53 q57 q58 = some q52 ∧ Rep a 31 [(0, .int .i64 x0), (1, .int .i64 x1), (2, .int .i64 x2), (7, .int .i64 q57), (8, .int .i64 q58)] ∧ St w s (R)) (m := fu) ⟨fu, 1, 62, rfl, hq51, hE.pick _ ⟨rfl, rfl, rfl, rfl, rfl, trivial⟩, hS⟩ ?_
    clear hE hS a w hq51; rintro m54 a w ⟨n53, q57, q58, rfl, hq51, hE, hS⟩
    refine W.gen fun K59 hK59 => ?_
    rcases n53 with _ | n53
    · rw [Fishref2powerOf.loop1] at hq51; exact absurd hq51 (by simp)
    rw [Fishref2powerOf.loop1] at hq51
    refine W.seq ?_
    refine W.seq ?_
    refine W.region ?_
    refine WL.vS hS hE (runs_plain rfl) (Gives.p hE rfl) rfl ?_; clear hE a; intro a hE
    refine WL.vS hS hE (runs_plain rfl) (Gives.p hE rfl) rfl ?_; clear hE a; intro a hE
    refine WL.nil ?_
    refine W.cond hE rfl (fun hc60 => ?_) (fun hc60 => ?_)
    · replace hq51 := iteT hc60 hq51
      refine W.skip ?_
      refine W.seq ?_
      refine W.block ?_
      refine W.seq ?_
      refine W.region ?_
      refine WL.vS hS hE (runs_plain rfl) (Gives.p hE rfl) rfl ?_; clear hE a; intro a hE
      refine WL.vS hS hE (runs_plain rfl) (Gives.p hE rfl) rfl ?_; clear hE a; intro a hE
      refine WL.vS hS hE (runs_plain rfl) (Gives.p hE rfl) rfl ?_; clear hE a; intro a hE
      refine WL.vS hS hE (runs_plain rfl) (Gives.p hE rfl) rfl ?_; clear hE a; intro a hE
      obtain ⟨x61, hx62, hq51⟩ := bindS hq51
      refine WL.vS hS hE (runs_plain rfl) (Gives.rm hE rfl rfl hx62) rfl ?_; clear hE a; intro a hE
      refine WL.vS hS hE (runs_plain rfl) (Gives.p hE rfl) rfl ?_; clear hE a; intro a hE
      refine WL.nil ?_
      refine W.seq ?_
      refine W.region ?_
      refine WL.vS hS hE (runs_plain rfl) (Gives.p hE rfl) rfl ?_; clear hE a; intro a hE
      refine WL.vS hS hE (runs_plain rfl) (Gives.p hE rfl) rfl ?_; clear hE a; intro a hE
      obtain ⟨_, hx63, hq51⟩ := bindS hq51
      refine WL.vS hS hE (runs_plain rfl) (Gives.shr hE rfl rfl (nn_some hx63)) rfl ?_; clear hE a; intro a hE
      refine WL.vS hS hE (runs_plain rfl) (Gives.p hE rfl) rfl ?_; clear hE a; intro a hE
      refine WL.vS hS hE (runs_plain rfl) (Gives.p hE rfl) rfl ?_; clear hE a; intro a hE
      refine WL.nil ?_
      obtain ⟨q65, hq64, hq51⟩ := bindS hq51
      refine W.cut (fun a w => ∃ (q68 : Int), q68 = q65 ∧ Rep a 31 [(0, .int .i64 x0), (1, .int .i64 x1), (2, .int .i64 x2), (7, .int .i64 q68), (8, .int .i64 q58)] ∧ St w s (R)) ?_ ?_
      · refine W.gen fun K69 hK69 => ?_
        refine W.cond hE rfl (fun hc70 => ?_) (fun hc70 => ?_)
        · replace hq64 := iteT hc70 hq64
          refine W.region ?_
          refine WL.vS hS hE (runs_plain rfl) (Gives.p hE rfl) rfl ?_; clear hE a; intro a hE
          refine WL.vS hS hE (runs_plain rfl) (Gives.p hE rfl) rfl ?_; clear hE a; intro a hE
          refine WL.vS hS hE (runs_plain rfl) (Gives.p hE rfl) rfl ?_; clear hE a; intro a hE
          obtain ⟨x71, hx72, hq64⟩ := bindS hq64
          refine WL.vS hS hE (runs_plain rfl) (Gives.rm hE rfl rfl hx72) rfl ?_; clear hE a; intro a hE
          refine WL.vS hS hE (runs_plain rfl) (Gives.p hE rfl) rfl ?_; clear hE a; intro a hE
          refine WL.vS hS hE (runs_plain rfl) (Gives.p hE rfl) rfl ?_; clear hE a; intro a hE
          obtain ⟨x73, hx74, hq64⟩ := bindS hq64
          refine WL.vS hS hE (runs_plain rfl) (Gives.rm hE rfl rfl hx74) rfl ?_; clear hE a; intro a hE
          refine WL.vS hS hE (runs_plain rfl) (Gives.p hE rfl) rfl ?_; clear hE a; intro a hE
          refine WL.nil ?_
          subst hK69
          exact ⟨x73, Option.some.inj hq64, hE.pick _ ⟨rfl, rfl, rfl, rfl, rfl, trivial⟩, hS⟩
        · replace hq64 := iteF hc70 hq64
          refine W.skip ?_
          subst hK69
          exact ⟨x61, Option.some.inj hq64, hE.pick _ ⟨rfl, rfl, rfl, rfl, rfl, trivial⟩, hS⟩
      · clear hE hS a w; rintro a w ⟨q68, rfl, hE, hS⟩
        refine W.region ?_
        refine WL.vS hS hE (runs_plain rfl) (Gives.p hE rfl) rfl ?_; clear hE a; intro a hE
        refine WL.vS hS hE (runs_plain rfl) (Gives.p hE rfl) rfl ?_; clear hE a; intro a hE
        refine WL.vS hS hE (runs_plain rfl) (Gives.p hE rfl) rfl ?_; clear hE a; intro a hE
        refine WL.nil ?_
        subst hK59
        exact ⟨n53, Nat.lt_succ_self _, n53, q68, (w64 (q58 - 1)), rfl, hq51, hE.pick _ ⟨rfl, rfl, rfl, rfl, rfl, trivial⟩, hS⟩
    · replace hq51 := iteF hc60 hq51
      subst hK59
      refine W.exit rfl ?_
      exact ⟨q57, q58, Option.some.inj hq51, hE.pick _ ⟨rfl, trivial⟩, hS⟩
  · clear hE hS a w; rintro a w ⟨q57, q58, rfl, hE, hS⟩
    dsimp only at hr
    refine W.seq ?_
    refine W.region ?_
    refine WL.vS hS hE (runs_plain rfl) (Gives.p hE rfl) rfl ?_; clear hE a; intro a hE
    refine WL.vS hS hE (runs_plain rfl) (Gives.p hE rfl) rfl ?_; clear hE a; intro a hE
    refine WL.nil ?_
    refine W.ret ?_
    refine finG (fn := Try.f59) (rs := [.tmp 6]) (vs := [_]) hE rfl ⟨rfl, trivial⟩ ?_
    obtain rfl := Option.some.inj hr
    exact ⟨rfl, hS⟩
set_option maxHeartbeats 8000000 in
theorem Fishref2SignOf_ok {fu : Nat}  {w : World} {s : Sg} {R : List HP} {x0 : FareKey} {x1 : ByteArray} (hS : St w s (R))  {r : Int} (hr : Fishref2SignOf fu x0 x1 = some r) :
    Calls Try.prog 34 [.agg (FareKey.cells x0).toArray, .string x1].toArray w (fun e w => e = .returned (.int .i64 r) ∧ St w s (R)) := by
  refine enter Try.func34 rfl rfl rfl fun a hE => ?_
  rw [Fishref2SignOf] at hr
  refine W.seq ?_
  refine W.region ?_
  refine WL.box hE hS (runs_plain rfl) rfl rfl rfl ?_; clear hE hS a w; intro b51 a w hE hS
  refine WL.vS hS hE (runs_plain rfl) (Gives.p hE rfl) rfl ?_; clear hE a; intro a hE
  refine WL.nil ?_
  refine W.seq ?_
  refine W.regionQ (C := fun w => St w s (pt b51 (.cells (FareKey.cells x0).toArray 59 (0, 0)) :: R)) mixed (by kernel_rfl) hS.drew ?_
  refine QL.v hE (runs_plain rfl) (Gives.p hE rfl) rfl ?_; clear hE a; intro a hE
  obtain ⟨q52, hq53, hr⟩ := bindS hr
  refine QL.fnq hE (fun w hS => Fishref2DigestOf_ok hS  hq53) (runs_plain rfl) bd30 rfl rfl rfl ?_; clear hE a; intro a hE
  refine QL.v hE (runs_plain rfl) (Gives.fld hE rfl fl59_2) rfl ?_; clear hE a; intro a hE
  refine QL.v hE (runs_plain rfl) (Gives.loadB hE 0 rfl rfl rfl ty3) rfl ?_; clear hE a; intro a hE
  refine QL.v hE (runs_plain rfl) (Gives.fld hE rfl fl59_0) rfl ?_; clear hE a; intro a hE
  refine QL.v hE (runs_plain rfl) (Gives.loadB hE 0 rfl rfl rfl ty3) rfl ?_; clear hE a; intro a hE
  obtain ⟨q54, hq55, hr⟩ := bindS hr
  refine QL.fnq hE (fun w hS => Fishref2powerOf_ok hS  hq55) (runs_plain rfl) bd59 rfl rfl rfl ?_; clear hE a; intro a hE
  refine QL.v hE (runs_plain rfl) (Gives.p hE rfl) rfl ?_; clear hE a; intro a hE
  refine QL.nil ?_; clear hS w; intro w hS
  refine W.ret ?_
  refine finG (fn := Try.f34) (rs := [.tmp 4]) (vs := [_]) hE rfl ⟨rfl, trivial⟩ ?_
  obtain rfl := Option.some.inj hr
  replace hS := hS.tail
  exact ⟨rfl, hS⟩
set_option maxHeartbeats 8000000 in
theorem Fishref2VerifyOf_ok {fu : Nat}  {w : World} {s : Sg} {R : List HP} {x0 : FareKey} {x1 : ByteArray} {x2 : Int} (hS : St w s (R))  {r : Bool} (hr : Fishref2VerifyOf fu x0 x1 x2 = some r) :
    Calls Try.prog 35 [.agg (FareKey.cells x0).toArray, .string x1, .int .i64 x2].toArray w (fun e w => e = .returned (.bool r) ∧ St w s (R)) := by
  refine enter Try.func35 rfl rfl rfl fun a hE => ?_
  rw [Fishref2VerifyOf] at hr
  refine W.seq ?_
  refine W.region ?_
  refine WL.box hE hS (runs_plain rfl) rfl rfl rfl ?_; clear hE hS a w; intro b51 a w hE hS
  refine WL.vS hS hE (runs_plain rfl) (Gives.p hE rfl) rfl ?_; clear hE a; intro a hE
  refine WL.nil ?_
  refine W.seq ?_
  obtain ⟨q53, hq52, hr⟩ := bindS hr
  refine W.cut (fun a w => ∃ (q56 : Bool), q56 = q53 ∧ Rep a 26 [(6, .bool q56)] ∧ St w s (pt b51 (.cells (FareKey.cells x0).toArray 59 (0, 0)) :: R)) ?_ ?_
  · refine W.gen fun K57 hK57 => ?_
    refine W.region ?_
    refine WL.vS hS hE (runs_plain rfl) (Gives.p hE rfl) rfl ?_; clear hE a; intro a hE
    refine WL.vS hS hE (runs_plain rfl) (Gives.p hE rfl) rfl ?_; clear hE a; intro a hE
    refine WL.vS hS hE (runs_plain rfl) (Gives.p hE rfl) rfl ?_; clear hE a; intro a hE
    rcases Bool.eq_false_or_eq_true (decide (x2 ≥ 0)) with hg58 | hg58
    · replace hq52 := iteT hg58 hq52
      refine WL.vS hS hE (runs_if hE rfl rfl rfl hg58) (Gives.p hE rfl) rfl ?_; clear hE a; intro a hE
      refine WL.vS hS hE (runs_if hE rfl rfl rfl hg58) (Gives.fld hE rfl fl59_0) rfl ?_; clear hE a; intro a hE
      refine WL.vS hS hE (runs_if hE rfl rfl rfl hg58) (Gives.loadB hE 0 rfl rfl rfl ty3) rfl ?_; clear hE a; intro a hE
      refine WL.vS hS hE (runs_if hE rfl rfl rfl hg58) (Gives.p hE rfl) rfl ?_; clear hE a; intro a hE
      refine WL.vS hS hE (runs_plain rfl) (Gives.pickT hE rfl hg58 rfl) rfl ?_; clear hE a; intro a hE
      refine WL.vS hS hE (runs_plain rfl) (Gives.p hE rfl) rfl ?_; clear hE a; intro a hE
      rcases Bool.eq_false_or_eq_true (decide (x2 < x0.N)) with hg59 | hg59
      · replace hq52 := iteT hg59 hq52
        refine WL.vS hS hE (runs_if hE rfl rfl rfl hg59) (Gives.p hE rfl) rfl ?_; clear hE a; intro a hE
        refine WL.vS hS hE (runs_if hE rfl rfl rfl hg59) (Gives.fld hE rfl fl59_1) rfl ?_; clear hE a; intro a hE
        refine WL.vS hS hE (runs_if hE rfl rfl rfl hg59) (Gives.loadB hE 0 rfl rfl rfl ty3) rfl ?_; clear hE a; intro a hE
        refine WL.vS hS hE (runs_if hE rfl rfl rfl hg59) (Gives.fld hE rfl fl59_0) rfl ?_; clear hE a; intro a hE
        refine WL.vS hS hE (runs_if hE rfl rfl rfl hg59) (Gives.loadB hE 0 rfl rfl rfl ty3) rfl ?_; clear hE a; intro a hE
        obtain ⟨q60, hq61, hq52⟩ := bindS hq52
        have hc_ := Fishref2powerOf_ok hS  hq61
        refine WL.fnq hE (hc_) (runs_if hE rfl rfl rfl hg59) bd59 rfl rfl rfl ?_
        clear hE hS hc_; rintro e w ⟨rfl, hS⟩; refine ⟨_, rfl, ?_⟩; clear a; intro a hE
        refine WL.vS hS hE (runs_if hE rfl rfl rfl hg59) (Gives.p hE rfl) rfl ?_; clear hE a; intro a hE
        obtain ⟨q62, hq63, hq52⟩ := bindS hq52
        have hc_ := Fishref2DigestOf_ok hS  hq63
        refine WL.fnq hE (hc_) (runs_if hE rfl rfl rfl hg59) bd30 rfl rfl rfl ?_
        clear hE hS hc_; rintro e w ⟨rfl, hS⟩; refine ⟨_, rfl, ?_⟩; clear a; intro a hE
        refine WL.vS hS hE (runs_if hE rfl rfl rfl hg59) (Gives.p hE rfl) rfl ?_; clear hE a; intro a hE
        refine WL.vS hS hE (runs_plain rfl) (Gives.pickT hE rfl hg59 rfl) rfl ?_; clear hE a; intro a hE
        refine WL.vS hS hE (runs_plain rfl) (Gives.p hE rfl) rfl ?_; clear hE a; intro a hE
        refine WL.nil ?_
        subst hK57
        exact ⟨(q60 == q62), Option.some.inj hq52, hE.pick _ ⟨rfl, trivial⟩, hS⟩
      · replace hq52 := iteF hg59 hq52
        refine WL.no hE (runs_not hE rfl rfl rfl (by rw [hg59]; decide)) rfl ?_; clear hE a; intro a hE
        refine WL.no hE (runs_not hE rfl rfl rfl (by rw [hg59]; decide)) rfl ?_; clear hE a; intro a hE
        refine WL.no hE (runs_not hE rfl rfl rfl (by rw [hg59]; decide)) rfl ?_; clear hE a; intro a hE
        refine WL.no hE (runs_not hE rfl rfl rfl (by rw [hg59]; decide)) rfl ?_; clear hE a; intro a hE
        refine WL.no hE (runs_not hE rfl rfl rfl (by rw [hg59]; decide)) rfl ?_; clear hE a; intro a hE
        refine WL.no hE (runs_not hE rfl rfl rfl (by rw [hg59]; decide)) rfl ?_; clear hE a; intro a hE
        refine WL.no hE (runs_not hE rfl rfl rfl (by rw [hg59]; decide)) rfl ?_; clear hE a; intro a hE
        refine WL.no hE (runs_not hE rfl rfl rfl (by rw [hg59]; decide)) rfl ?_; clear hE a; intro a hE
        refine WL.no hE (runs_not hE rfl rfl rfl (by rw [hg59]; decide)) rfl ?_; clear hE a; intro a hE
        refine WL.vS hS hE (runs_plain rfl) (Gives.pickF hE rfl hg59 rfl) rfl ?_; clear hE a; intro a hE
        refine WL.vS hS hE (runs_plain rfl) (Gives.p hE rfl) rfl ?_; clear hE a; intro a hE
        refine WL.nil ?_
        subst hK57
        exact ⟨false, Option.some.inj hq52, hE.pick _ ⟨rfl, trivial⟩, hS⟩
    · replace hq52 := iteF hg58 hq52
      refine WL.no hE (runs_not hE rfl rfl rfl (by rw [hg58]; decide)) rfl ?_; clear hE a; intro a hE
      refine WL.no hE (runs_not hE rfl rfl rfl (by rw [hg58]; decide)) rfl ?_; clear hE a; intro a hE
      refine WL.no hE (runs_not hE rfl rfl rfl (by rw [hg58]; decide)) rfl ?_; clear hE a; intro a hE
      refine WL.no hE (runs_not hE rfl rfl rfl (by rw [hg58]; decide)) rfl ?_; clear hE a; intro a hE
      refine WL.vS hS hE (runs_plain rfl) (Gives.pickF hE rfl hg58 rfl) rfl ?_; clear hE a; intro a hE
      refine WL.vS hS hE (runs_plain rfl) (Gives.p hE rfl) rfl ?_; clear hE a; intro a hE
      refine WL.no hE (runs_not hE rfl rfl rfl (by decide)) rfl ?_; clear hE a; intro a hE
      refine WL.no hE (runs_not hE rfl rfl rfl (by decide)) rfl ?_; clear hE a; intro a hE
      refine WL.no hE (runs_not hE rfl rfl rfl (by decide)) rfl ?_; clear hE a; intro a hE
      refine WL.no hE (runs_not hE rfl rfl rfl (by decide)) rfl ?_; clear hE a; intro a hE
      refine WL.no hE (runs_not hE rfl rfl rfl (by decide)) rfl ?_; clear hE a; intro a hE
      refine WL.no hE (runs_not hE rfl rfl rfl (by decide)) rfl ?_; clear hE a; intro a hE
      refine WL.no hE (runs_not hE rfl rfl rfl (by decide)) rfl ?_; clear hE a; intro a hE
      refine WL.no hE (runs_not hE rfl rfl rfl (by decide)) rfl ?_; clear hE a; intro a hE
      refine WL.no hE (runs_not hE rfl rfl rfl (by decide)) rfl ?_; clear hE a; intro a hE
      refine WL.vS hS hE (runs_plain rfl) (Gives.pickF hE rfl rfl rfl) rfl ?_; clear hE a; intro a hE
      refine WL.vS hS hE (runs_plain rfl) (Gives.p hE rfl) rfl ?_; clear hE a; intro a hE
      refine WL.nil ?_
      subst hK57
      exact ⟨false, Option.some.inj hq52, hE.pick _ ⟨rfl, trivial⟩, hS⟩
  · clear hE hS a w; rintro a w ⟨q56, rfl, hE, hS⟩
    refine W.ret ?_
    refine finG (fn := Try.f35) (rs := [.tmp 6]) (vs := [_]) hE rfl ⟨rfl, trivial⟩ ?_
    obtain rfl := Option.some.inj hr
    replace hS := hS.tail
    exact ⟨rfl, hS⟩
set_option maxHeartbeats 8000000 in
theorem Fishlaw2FareSigns_ok {fu : Nat}  {w : World} {s : Sg} {R : List HP} {x0 : FareKey} {x1 : ByteArray} {x2 : Int} (hS : St w s (R))  {r : Bool} (hr : Fishlaw2FareSigns fu x0 x1 x2 = some r) :
    Calls Try.prog 9 [.agg (FareKey.cells x0).toArray, .string x1, .int .i64 x2].toArray w (fun e w => e = .returned (.bool r) ∧ St w s (R)) := by
  refine enter Try.func9 rfl rfl rfl fun a hE => ?_
  rw [Fishlaw2FareSigns] at hr
  refine W.seq ?_
  refine W.region ?_
  refine WL.box hE hS (runs_plain rfl) rfl rfl rfl ?_; clear hE hS a w; intro b51 a w hE hS
  refine WL.vS hS hE (runs_plain rfl) (Gives.p hE rfl) rfl ?_; clear hE a; intro a hE
  refine WL.nil ?_
  refine W.seq ?_
  refine W.seq ?_
  obtain ⟨q53, hq52, hr⟩ := bindS hr
  refine W.cut (fun a w => ∃ (q56 : Bool), q56 = q53 ∧ Rep a 80 [(1, .string x1), (2, .int .i64 x2), (3, .pointer (some ⟨b51, 0, none⟩)), (21, .bool q56)] ∧ St w s (pt b51 (.cells (FareKey.cells x0).toArray 59 (0, 0)) :: R)) ?_ ?_
  · refine W.gen fun K57 hK57 => ?_
    refine W.region ?_
    obtain ⟨q58, hq59, hq52⟩ := bindS hq52
    have hc_ := Fishlaw2fares_ok hS  hq59
    refine WL.fnq hE (hc_) (runs_plain rfl) bd11 rfl rfl rfl ?_
    clear hE hS hc_; rintro e w ⟨rfl, hS⟩; refine ⟨_, rfl, ?_⟩; clear a; intro a hE
    refine WL.vS hS hE (runs_plain rfl) (Gives.p hE rfl) rfl ?_; clear hE a; intro a hE
    refine WL.vS hS hE (runs_plain rfl) (Gives.p hE rfl) rfl ?_; clear hE a; intro a hE
    rcases Bool.eq_false_or_eq_true !q58 with hg60 | hg60
    · replace hq52 := iteT hg60 hq52
      refine WL.no hE (runs_not hE rfl rfl rfl (by rw [hg60]; decide)) rfl ?_; clear hE a; intro a hE
      refine WL.no hE (runs_not hE rfl rfl rfl (by rw [hg60]; decide)) rfl ?_; clear hE a; intro a hE
      refine WL.no hE (runs_not hE rfl rfl rfl (by rw [hg60]; decide)) rfl ?_; clear hE a; intro a hE
      refine WL.no hE (runs_not hE rfl rfl rfl (by rw [hg60]; decide)) rfl ?_; clear hE a; intro a hE
      refine WL.no hE (runs_not hE rfl rfl rfl (by rw [hg60]; decide)) rfl ?_; clear hE a; intro a hE
      refine WL.vS hS hE (runs_plain rfl) (Gives.pickT hE rfl hg60 rfl) rfl ?_; clear hE a; intro a hE
      refine WL.nil ?_
      subst hK57
      exact ⟨true, Option.some.inj hq52, hE.pick _ ⟨rfl, rfl, rfl, rfl, trivial⟩, hS⟩
    · replace hq52 := iteF hg60 hq52
      refine WL.vS hS hE (runs_if hE rfl rfl rfl hg60) (Gives.p hE rfl) rfl ?_; clear hE a; intro a hE
      obtain ⟨q61, hq62, hq52⟩ := bindS hq52
      have hc_ := FareDigest_ok hS  hq62
      refine WL.fnq hE (hc_) (runs_if hE rfl rfl rfl hg60) bd29 rfl rfl rfl ?_
      clear hE hS hc_; rintro e w ⟨rfl, hS⟩; refine ⟨_, rfl, ?_⟩; clear a; intro a hE
      refine WL.vS hS hE (runs_if hE rfl rfl rfl hg60) (Gives.p hE rfl) rfl ?_; clear hE a; intro a hE
      obtain ⟨q63, hq64, hq52⟩ := bindS hq52
      have hc_ := Fishref2DigestOf_ok hS  hq64
      refine WL.fnq hE (hc_) (runs_if hE rfl rfl rfl hg60) bd30 rfl rfl rfl ?_
      clear hE hS hc_; rintro e w ⟨rfl, hS⟩; refine ⟨_, rfl, ?_⟩; clear a; intro a hE
      refine WL.vS hS hE (runs_if hE rfl rfl rfl hg60) (Gives.p hE rfl) rfl ?_; clear hE a; intro a hE
      refine WL.vS hS hE (runs_plain rfl) (Gives.pickF hE rfl hg60 rfl) rfl ?_; clear hE a; intro a hE
      refine WL.nil ?_
      subst hK57
      exact ⟨(q61 != q63), Option.some.inj hq52, hE.pick _ ⟨rfl, rfl, rfl, rfl, trivial⟩, hS⟩
  · clear hE hS a w; rintro a w ⟨q56, rfl, hE, hS⟩
    refine W.cond hE rfl (fun hc65 => ?_) (fun hc65 => ?_)
    · replace hr := iteT hc65 hr
      refine W.seq ?_
      refine W.region ?_
      refine WL.vS hS hE (runs_plain rfl) (Gives.p hE rfl) rfl ?_; clear hE a; intro a hE
      refine WL.nil ?_
      refine W.ret ?_
      refine finG (fn := Try.f9) (rs := [.tmp 6]) (vs := [_]) hE rfl ⟨rfl, trivial⟩ ?_
      obtain rfl := Option.some.inj hr
      replace hS := hS.tail
      exact ⟨rfl, hS⟩
    · replace hr := iteF hc65 hr
      refine W.skip ?_
      refine W.seq ?_
      refine W.region ?_
      refine WL.vS hS hE (runs_plain rfl) (Gives.loadBA hE 0 rfl rfl ty59) rfl ?_; clear hE a; intro a hE
      refine WL.vS hS hE (runs_plain rfl) (Gives.p hE rfl) rfl ?_; clear hE a; intro a hE
      obtain ⟨q66, hq67, hr⟩ := bindS hr
      have hc_ := FareSign_ok hS  hq67
      refine WL.fnq hE (hc_) (runs_plain rfl) bd31 rfl rfl rfl ?_
      clear hE hS hc_; rintro e w ⟨rfl, hS⟩; refine ⟨_, rfl, ?_⟩; clear a; intro a hE
      refine WL.vS hS hE (runs_plain rfl) (Gives.p hE rfl) rfl ?_; clear hE a; intro a hE
      refine WL.vS hS hE (runs_plain rfl) (Gives.p hE rfl) rfl ?_; clear hE a; intro a hE
      refine WL.vS hS hE (runs_plain rfl) (Gives.p hE rfl) rfl ?_; clear hE a; intro a hE
      refine WL.vS hS hE (runs_plain rfl) (Gives.p hE rfl) rfl ?_; clear hE a; intro a hE
      refine WL.vS hS hE (runs_plain rfl) (Gives.p hE rfl) rfl ?_; clear hE a; intro a hE
      refine WL.nil ?_
      refine W.seq ?_
      refine W.region ?_
      refine WL.vS hS hE (runs_plain rfl) (Gives.loadBA hE 0 rfl rfl ty59) rfl ?_; clear hE a; intro a hE
      refine WL.vS hS hE (runs_plain rfl) (Gives.p hE rfl) rfl ?_; clear hE a; intro a hE
      refine WL.vS hS hE (runs_plain rfl) (Gives.p hE rfl) rfl ?_; clear hE a; intro a hE
      obtain ⟨q68, hq69, hr⟩ := bindS hr
      have hc_ := FareVerify_ok hS  hq69
      refine WL.fnq hE (hc_) (runs_plain rfl) bd32 rfl rfl rfl ?_
      clear hE hS hc_; rintro e w ⟨rfl, hS⟩; refine ⟨_, rfl, ?_⟩; clear a; intro a hE
      refine WL.vS hS hE (runs_plain rfl) (Gives.p hE rfl) rfl ?_; clear hE a; intro a hE
      refine WL.vS hS hE (runs_plain rfl) (Gives.p hE rfl) rfl ?_; clear hE a; intro a hE
      refine WL.vS hS hE (runs_plain rfl) (Gives.p hE rfl) rfl ?_; clear hE a; intro a hE
      refine WL.vS hS hE (runs_plain rfl) (Gives.p hE rfl) rfl ?_; clear hE a; intro a hE
      refine WL.vS hS hE (runs_plain rfl) (Gives.p hE rfl) rfl ?_; clear hE a; intro a hE
      refine WL.nil ?_
      refine W.seq ?_
      refine W.region ?_
      refine WL.vS hS hE (runs_plain rfl) (Gives.loadBA hE 0 rfl rfl ty59) rfl ?_; clear hE a; intro a hE
      refine WL.fnq hE (Fishref2KeyFault_ok hS  rfl) (runs_plain rfl) bd33 rfl rfl rfl ?_
      clear hE hS; rintro e w ⟨rfl, hS⟩; refine ⟨_, rfl, ?_⟩; clear a; intro a hE
      refine WL.vS hS hE (runs_plain rfl) (Gives.p hE rfl) rfl ?_; clear hE a; intro a hE
      refine WL.nil ?_
      refine W.seq ?_
      refine W.seq ?_
      obtain ⟨q71, hq70, hr⟩ := bindS hr
      refine W.cut (fun a w => ∃ (q74 : Bool), q74 = q71 ∧ Rep a 80 [(1, .string x1), (2, .int .i64 x2), (3, .pointer (some ⟨b51, 0, none⟩)), (9, .bool q68.1), (10, .int .i64 q68.2), (58, .bool q74)] ∧ St w s (pt b51 (.cells (FareKey.cells x0).toArray 59 (0, 0)) :: R)) ?_ ?_
      · refine W.gen fun K75 hK75 => ?_
        refine W.region ?_
        refine WL.vS hS hE (runs_plain rfl) (Gives.p hE rfl) rfl ?_; clear hE a; intro a hE
        refine WL.vS hS hE (runs_plain rfl) (Gives.p hE rfl) rfl ?_; clear hE a; intro a hE
        refine WL.vS hS hE (runs_plain rfl) (Gives.p hE rfl) rfl ?_; clear hE a; intro a hE
        refine WL.vS hS hE (runs_plain rfl) (Gives.p hE rfl) rfl ?_; clear hE a; intro a hE
        rcases Bool.eq_false_or_eq_true (q66.2 != (Fishref2KeyFault x0 true)) with hg76 | hg76
        · replace hq70 := iteT hg76 hq70
          refine WL.no hE (runs_not hE rfl rfl rfl (by rw [hg76]; decide)) rfl ?_; clear hE a; intro a hE
          refine WL.no hE (runs_not hE rfl rfl rfl (by rw [hg76]; decide)) rfl ?_; clear hE a; intro a hE
          refine WL.no hE (runs_not hE rfl rfl rfl (by rw [hg76]; decide)) rfl ?_; clear hE a; intro a hE
          refine WL.no hE (runs_undef hE rfl rfl rfl) rfl ?_; clear hE a; intro a hE
          refine WL.no hE (runs_undef hE rfl rfl rfl) rfl ?_; clear hE a; intro a hE
          refine WL.no hE (runs_not hE rfl rfl rfl (by rw [hg76]; decide)) rfl ?_; clear hE a; intro a hE
          refine WL.vS hS hE (runs_plain rfl) (Gives.pickT hE rfl hg76 rfl) rfl ?_; clear hE a; intro a hE
          refine WL.vS hS hE (runs_plain rfl) (Gives.p hE rfl) rfl ?_; clear hE a; intro a hE
          refine WL.no hE (runs_not hE rfl rfl rfl (by decide)) rfl ?_; clear hE a; intro a hE
          refine WL.no hE (runs_not hE rfl rfl rfl (by decide)) rfl ?_; clear hE a; intro a hE
          refine WL.no hE (runs_not hE rfl rfl rfl (by decide)) rfl ?_; clear hE a; intro a hE
          refine WL.no hE (runs_undef hE rfl rfl rfl) rfl ?_; clear hE a; intro a hE
          refine WL.no hE (runs_undef hE rfl rfl rfl) rfl ?_; clear hE a; intro a hE
          refine WL.no hE (runs_undef hE rfl rfl rfl) rfl ?_; clear hE a; intro a hE
          refine WL.no hE (runs_undef hE rfl rfl rfl) rfl ?_; clear hE a; intro a hE
          refine WL.no hE (runs_undef hE rfl rfl rfl) rfl ?_; clear hE a; intro a hE
          refine WL.no hE (runs_not hE rfl rfl rfl (by decide)) rfl ?_; clear hE a; intro a hE
          refine WL.vS hS hE (runs_plain rfl) (Gives.pickT hE rfl rfl rfl) rfl ?_; clear hE a; intro a hE
          refine WL.nil ?_
          subst hK75
          exact ⟨true, Option.some.inj hq70, hE.pick _ ⟨rfl, rfl, rfl, rfl, rfl, rfl, trivial⟩, hS⟩
        · replace hq70 := iteF hg76 hq70
          refine WL.vS hS hE (runs_if hE rfl rfl rfl hg76) (Gives.p hE rfl) rfl ?_; clear hE a; intro a hE
          refine WL.vS hS hE (runs_if hE rfl rfl rfl hg76) (Gives.p hE rfl) rfl ?_; clear hE a; intro a hE
          refine WL.vS hS hE (runs_if hE rfl rfl rfl hg76) (Gives.p hE rfl) rfl ?_; clear hE a; intro a hE
          rcases Bool.eq_false_or_eq_true ((Fishref2KeyFault x0 true) != 0) with hg77 | hg77
          · replace hq70 := iteT hg77 hq70
            refine WL.vS hS hE (runs_if hE rfl rfl rfl hg77) (Gives.p hE rfl) rfl ?_; clear hE a; intro a hE
            refine WL.vS hS hE (runs_if hE rfl rfl rfl hg77) (Gives.p hE rfl) rfl ?_; clear hE a; intro a hE
            refine WL.vS hS hE (runs_if hE rfl rfl rfl hg76) (Gives.pickT hE rfl hg77 rfl) rfl ?_; clear hE a; intro a hE
            refine WL.vS hS hE (runs_plain rfl) (Gives.pickF hE rfl hg76 rfl) rfl ?_; clear hE a; intro a hE
            refine WL.vS hS hE (runs_plain rfl) (Gives.p hE rfl) rfl ?_; clear hE a; intro a hE
            rcases Bool.eq_false_or_eq_true (q66.1 != 0) with hg78 | hg78
            · replace hq70 := iteT hg78 hq70
              refine WL.no hE (runs_not hE rfl rfl rfl (by rw [hg78]; decide)) rfl ?_; clear hE a; intro a hE
              refine WL.no hE (runs_not hE rfl rfl rfl (by rw [hg78]; decide)) rfl ?_; clear hE a; intro a hE
              refine WL.no hE (runs_not hE rfl rfl rfl (by rw [hg78]; decide)) rfl ?_; clear hE a; intro a hE
              refine WL.no hE (runs_undef hE rfl rfl rfl) rfl ?_; clear hE a; intro a hE
              refine WL.no hE (runs_undef hE rfl rfl rfl) rfl ?_; clear hE a; intro a hE
              refine WL.no hE (runs_undef hE rfl rfl rfl) rfl ?_; clear hE a; intro a hE
              refine WL.no hE (runs_undef hE rfl rfl rfl) rfl ?_; clear hE a; intro a hE
              refine WL.no hE (runs_undef hE rfl rfl rfl) rfl ?_; clear hE a; intro a hE
              refine WL.no hE (runs_not hE rfl rfl rfl (by rw [hg78]; decide)) rfl ?_; clear hE a; intro a hE
              refine WL.vS hS hE (runs_plain rfl) (Gives.pickT hE rfl hg78 rfl) rfl ?_; clear hE a; intro a hE
              refine WL.nil ?_
              subst hK75
              exact ⟨true, Option.some.inj hq70, hE.pick _ ⟨rfl, rfl, rfl, rfl, rfl, rfl, trivial⟩, hS⟩
            · replace hq70 := iteF hg78 hq70
              refine WL.vS hS hE (runs_if hE rfl rfl rfl hg78) (Gives.p hE rfl) rfl ?_; clear hE a; intro a hE
              refine WL.vS hS hE (runs_if hE rfl rfl rfl hg78) (Gives.p hE rfl) rfl ?_; clear hE a; intro a hE
              refine WL.vS hS hE (runs_if hE rfl rfl rfl hg78) (Gives.p hE rfl) rfl ?_; clear hE a; intro a hE
              rcases Bool.eq_false_or_eq_true ((Fishref2KeyFault x0 true) == 0) with hg79 | hg79
              · replace hq70 := iteT hg79 hq70
                refine WL.vS hS hE (runs_if hE rfl rfl rfl hg79) (Gives.p hE rfl) rfl ?_; clear hE a; intro a hE
                refine WL.vS hS hE (runs_if hE rfl rfl rfl hg79) (Gives.loadBA hE 0 rfl rfl ty59) rfl ?_; clear hE a; intro a hE
                refine WL.vS hS hE (runs_if hE rfl rfl rfl hg79) (Gives.p hE rfl) rfl ?_; clear hE a; intro a hE
                obtain ⟨q80, hq81, hq70⟩ := bindS hq70
                have hc_ := Fishref2SignOf_ok hS  hq81
                refine WL.fnq hE (hc_) (runs_if hE rfl rfl rfl hg79) bd34 rfl rfl rfl ?_
                clear hE hS hc_; rintro e w ⟨rfl, hS⟩; refine ⟨_, rfl, ?_⟩; clear a; intro a hE
                refine WL.vS hS hE (runs_if hE rfl rfl rfl hg79) (Gives.p hE rfl) rfl ?_; clear hE a; intro a hE
                refine WL.vS hS hE (runs_if hE rfl rfl rfl hg78) (Gives.pickT hE rfl hg79 rfl) rfl ?_; clear hE a; intro a hE
                refine WL.vS hS hE (runs_plain rfl) (Gives.pickF hE rfl hg78 rfl) rfl ?_; clear hE a; intro a hE
                refine WL.nil ?_
                subst hK75
                exact ⟨(q66.1 != q80), Option.some.inj hq70, hE.pick _ ⟨rfl, rfl, rfl, rfl, rfl, rfl, trivial⟩, hS⟩
              · replace hq70 := iteF hg79 hq70
                refine WL.no hE (runs_not hE rfl rfl rfl (by rw [hg79]; decide)) rfl ?_; clear hE a; intro a hE
                refine WL.no hE (runs_not hE rfl rfl rfl (by rw [hg79]; decide)) rfl ?_; clear hE a; intro a hE
                refine WL.no hE (runs_not hE rfl rfl rfl (by rw [hg79]; decide)) rfl ?_; clear hE a; intro a hE
                refine WL.no hE (runs_not hE rfl rfl rfl (by rw [hg79]; decide)) rfl ?_; clear hE a; intro a hE
                refine WL.no hE (runs_not hE rfl rfl rfl (by rw [hg79]; decide)) rfl ?_; clear hE a; intro a hE
                refine WL.vS hS hE (runs_if hE rfl rfl rfl hg78) (Gives.pickF hE rfl hg79 rfl) rfl ?_; clear hE a; intro a hE
                refine WL.vS hS hE (runs_plain rfl) (Gives.pickF hE rfl hg78 rfl) rfl ?_; clear hE a; intro a hE
                refine WL.nil ?_
                subst hK75
                exact ⟨false, Option.some.inj hq70, hE.pick _ ⟨rfl, rfl, rfl, rfl, rfl, rfl, trivial⟩, hS⟩
          · replace hq70 := iteF hg77 hq70
            refine WL.no hE (runs_not hE rfl rfl rfl (by rw [hg77]; decide)) rfl ?_; clear hE a; intro a hE
            refine WL.no hE (runs_not hE rfl rfl rfl (by rw [hg77]; decide)) rfl ?_; clear hE a; intro a hE
            refine WL.vS hS hE (runs_if hE rfl rfl rfl hg76) (Gives.pickF hE rfl hg77 rfl) rfl ?_; clear hE a; intro a hE
            refine WL.vS hS hE (runs_plain rfl) (Gives.pickF hE rfl hg76 rfl) rfl ?_; clear hE a; intro a hE
            refine WL.vS hS hE (runs_plain rfl) (Gives.p hE rfl) rfl ?_; clear hE a; intro a hE
            refine WL.vS hS hE (runs_if hE rfl rfl rfl rfl) (Gives.p hE rfl) rfl ?_; clear hE a; intro a hE
            refine WL.vS hS hE (runs_if hE rfl rfl rfl rfl) (Gives.p hE rfl) rfl ?_; clear hE a; intro a hE
            refine WL.vS hS hE (runs_if hE rfl rfl rfl rfl) (Gives.p hE rfl) rfl ?_; clear hE a; intro a hE
            rcases Bool.eq_false_or_eq_true ((Fishref2KeyFault x0 true) == 0) with hg82 | hg82
            · replace hq70 := iteT hg82 hq70
              refine WL.vS hS hE (runs_if hE rfl rfl rfl hg82) (Gives.p hE rfl) rfl ?_; clear hE a; intro a hE
              refine WL.vS hS hE (runs_if hE rfl rfl rfl hg82) (Gives.loadBA hE 0 rfl rfl ty59) rfl ?_; clear hE a; intro a hE
              refine WL.vS hS hE (runs_if hE rfl rfl rfl hg82) (Gives.p hE rfl) rfl ?_; clear hE a; intro a hE
              obtain ⟨q83, hq84, hq70⟩ := bindS hq70
              have hc_ := Fishref2SignOf_ok hS  hq84
              refine WL.fnq hE (hc_) (runs_if hE rfl rfl rfl hg82) bd34 rfl rfl rfl ?_
              clear hE hS hc_; rintro e w ⟨rfl, hS⟩; refine ⟨_, rfl, ?_⟩; clear a; intro a hE
              refine WL.vS hS hE (runs_if hE rfl rfl rfl hg82) (Gives.p hE rfl) rfl ?_; clear hE a; intro a hE
              refine WL.vS hS hE (runs_if hE rfl rfl rfl rfl) (Gives.pickT hE rfl hg82 rfl) rfl ?_; clear hE a; intro a hE
              refine WL.vS hS hE (runs_plain rfl) (Gives.pickF hE rfl rfl rfl) rfl ?_; clear hE a; intro a hE
              refine WL.nil ?_
              subst hK75
              exact ⟨(q66.1 != q83), Option.some.inj hq70, hE.pick _ ⟨rfl, rfl, rfl, rfl, rfl, rfl, trivial⟩, hS⟩
            · replace hq70 := iteF hg82 hq70
              refine WL.no hE (runs_not hE rfl rfl rfl (by rw [hg82]; decide)) rfl ?_; clear hE a; intro a hE
              refine WL.no hE (runs_not hE rfl rfl rfl (by rw [hg82]; decide)) rfl ?_; clear hE a; intro a hE
              refine WL.no hE (runs_not hE rfl rfl rfl (by rw [hg82]; decide)) rfl ?_; clear hE a; intro a hE
              refine WL.no hE (runs_not hE rfl rfl rfl (by rw [hg82]; decide)) rfl ?_; clear hE a; intro a hE
              refine WL.no hE (runs_not hE rfl rfl rfl (by rw [hg82]; decide)) rfl ?_; clear hE a; intro a hE
              refine WL.vS hS hE (runs_if hE rfl rfl rfl rfl) (Gives.pickF hE rfl hg82 rfl) rfl ?_; clear hE a; intro a hE
              refine WL.vS hS hE (runs_plain rfl) (Gives.pickF hE rfl rfl rfl) rfl ?_; clear hE a; intro a hE
              refine WL.nil ?_
              subst hK75
              exact ⟨false, Option.some.inj hq70, hE.pick _ ⟨rfl, rfl, rfl, rfl, rfl, rfl, trivial⟩, hS⟩
      · clear hE hS a w; rintro a w ⟨q74, rfl, hE, hS⟩
        refine W.cond hE rfl (fun hc85 => ?_) (fun hc85 => ?_)
        · replace hr := iteT hc85 hr
          refine W.seq ?_
          refine W.region ?_
          refine WL.vS hS hE (runs_plain rfl) (Gives.p hE rfl) rfl ?_; clear hE a; intro a hE
          refine WL.nil ?_
          refine W.ret ?_
          refine finG (fn := Try.f9) (rs := [.tmp 6]) (vs := [_]) hE rfl ⟨rfl, trivial⟩ ?_
          obtain rfl := Option.some.inj hr
          replace hS := hS.tail
          exact ⟨rfl, hS⟩
        · replace hr := iteF hc85 hr
          refine W.skip ?_
          refine W.seq ?_
          refine W.seq ?_
          refine W.region ?_
          refine WL.vS hS hE (runs_plain rfl) (Gives.loadBA hE 0 rfl rfl ty59) rfl ?_; clear hE a; intro a hE
          refine WL.fnq hE (Fishref2KeyFault_ok hS  rfl) (runs_plain rfl) bd33 rfl rfl rfl ?_
          clear hE hS; rintro e w ⟨rfl, hS⟩; refine ⟨_, rfl, ?_⟩; clear a; intro a hE
          refine WL.vS hS hE (runs_plain rfl) (Gives.p hE rfl) rfl ?_; clear hE a; intro a hE
          refine WL.nil ?_
          refine W.seq ?_
          refine W.region ?_
          refine WL.vS hS hE (runs_plain rfl) (Gives.p hE rfl) rfl ?_; clear hE a; intro a hE
          refine WL.vS hS hE (runs_plain rfl) (Gives.p hE rfl) rfl ?_; clear hE a; intro a hE
          refine WL.nil ?_
          refine W.cond hE rfl (fun hc86 => ?_) (fun hc86 => ?_)
          · replace hr := iteT hc86 hr
            refine W.seq ?_
            obtain ⟨q88, hq87, hr⟩ := bndS hr
            refine W.cut (fun a w => ∃ (q91 : Bool), q91 = q88 ∧ Rep a 80 [(6, .bool q91)] ∧ St w s (pt b51 (.cells (FareKey.cells x0).toArray 59 (0, 0)) :: R)) ?_ ?_
            · refine W.gen fun K92 hK92 => ?_
              refine W.region ?_
              refine WL.vS hS hE (runs_plain rfl) (Gives.p hE rfl) rfl ?_; clear hE a; intro a hE
              refine WL.vS hS hE (runs_plain rfl) (Gives.p hE rfl) rfl ?_; clear hE a; intro a hE
              refine WL.vS hS hE (runs_plain rfl) (Gives.p hE rfl) rfl ?_; clear hE a; intro a hE
              refine WL.vS hS hE (runs_plain rfl) (Gives.p hE rfl) rfl ?_; clear hE a; intro a hE
              rcases Bool.eq_false_or_eq_true (q68.2 == (Fishref2KeyFault x0 false)) with hg93 | hg93
              · replace hq87 := iteT hg93 hq87
                refine WL.vS hS hE (runs_if hE rfl rfl rfl hg93) (Gives.p hE rfl) rfl ?_; clear hE a; intro a hE
                refine WL.vS hS hE (runs_if hE rfl rfl rfl hg93) (Gives.p hE rfl) rfl ?_; clear hE a; intro a hE
                refine WL.vS hS hE (runs_plain rfl) (Gives.pickT hE rfl hg93 rfl) rfl ?_; clear hE a; intro a hE
                refine WL.vS hS hE (runs_plain rfl) (Gives.p hE rfl) rfl ?_; clear hE a; intro a hE
                refine WL.nil ?_
                subst hK92
                exact ⟨!q68.1, hq87, hE.pick _ ⟨rfl, trivial⟩, hS⟩
              · replace hq87 := iteF hg93 hq87
                refine WL.no hE (runs_not hE rfl rfl rfl (by rw [hg93]; decide)) rfl ?_; clear hE a; intro a hE
                refine WL.no hE (runs_not hE rfl rfl rfl (by rw [hg93]; decide)) rfl ?_; clear hE a; intro a hE
                refine WL.vS hS hE (runs_plain rfl) (Gives.pickF hE rfl hg93 rfl) rfl ?_; clear hE a; intro a hE
                refine WL.vS hS hE (runs_plain rfl) (Gives.p hE rfl) rfl ?_; clear hE a; intro a hE
                refine WL.nil ?_
                subst hK92
                exact ⟨false, hq87, hE.pick _ ⟨rfl, trivial⟩, hS⟩
            · clear hE hS a w; rintro a w ⟨q91, rfl, hE, hS⟩
              refine W.ret ?_
              refine finG (fn := Try.f9) (rs := [.tmp 6]) (vs := [_]) hE rfl ⟨rfl, trivial⟩ ?_
              obtain rfl := Option.some.inj hr
              replace hS := hS.tail
              exact ⟨rfl, hS⟩
          · replace hr := iteF hc86 hr
            refine W.skip ?_
            refine W.seq ?_
            obtain ⟨q95, hq94, hr⟩ := bindS hr
            refine W.cut (fun a w => ∃ (q98 : Bool), q98 = q95 ∧ Rep a 80 [(6, .bool q98)] ∧ St w s (pt b51 (.cells (FareKey.cells x0).toArray 59 (0, 0)) :: R)) ?_ ?_
            · refine W.gen fun K99 hK99 => ?_
              refine W.region ?_
              refine WL.vS hS hE (runs_plain rfl) (Gives.p hE rfl) rfl ?_; clear hE a; intro a hE
              refine WL.vS hS hE (runs_plain rfl) (Gives.p hE rfl) rfl ?_; clear hE a; intro a hE
              refine WL.vS hS hE (runs_plain rfl) (Gives.p hE rfl) rfl ?_; clear hE a; intro a hE
              rcases Bool.eq_false_or_eq_true (q68.2 == 0) with hg100 | hg100
              · replace hq94 := iteT hg100 hq94
                refine WL.vS hS hE (runs_if hE rfl rfl rfl hg100) (Gives.p hE rfl) rfl ?_; clear hE a; intro a hE
                refine WL.vS hS hE (runs_if hE rfl rfl rfl hg100) (Gives.loadBA hE 0 rfl rfl ty59) rfl ?_; clear hE a; intro a hE
                refine WL.vS hS hE (runs_if hE rfl rfl rfl hg100) (Gives.p hE rfl) rfl ?_; clear hE a; intro a hE
                refine WL.vS hS hE (runs_if hE rfl rfl rfl hg100) (Gives.p hE rfl) rfl ?_; clear hE a; intro a hE
                obtain ⟨q101, hq102, hq94⟩ := bindS hq94
                have hc_ := Fishref2VerifyOf_ok hS  hq102
                refine WL.fnq hE (hc_) (runs_if hE rfl rfl rfl hg100) bd35 rfl rfl rfl ?_
                clear hE hS hc_; rintro e w ⟨rfl, hS⟩; refine ⟨_, rfl, ?_⟩; clear a; intro a hE
                refine WL.vS hS hE (runs_if hE rfl rfl rfl hg100) (Gives.eqB hE rfl rfl bl4) rfl ?_; clear hE a; intro a hE
                refine WL.vS hS hE (runs_plain rfl) (Gives.pickT hE rfl hg100 rfl) rfl ?_; clear hE a; intro a hE
                refine WL.vS hS hE (runs_plain rfl) (Gives.p hE rfl) rfl ?_; clear hE a; intro a hE
                refine WL.nil ?_
                subst hK99
                exact ⟨(q68.1 == q101), Option.some.inj hq94, hE.pick _ ⟨rfl, trivial⟩, hS⟩
              · replace hq94 := iteF hg100 hq94
                refine WL.no hE (runs_not hE rfl rfl rfl (by rw [hg100]; decide)) rfl ?_; clear hE a; intro a hE
                refine WL.no hE (runs_not hE rfl rfl rfl (by rw [hg100]; decide)) rfl ?_; clear hE a; intro a hE
                refine WL.no hE (runs_not hE rfl rfl rfl (by rw [hg100]; decide)) rfl ?_; clear hE a; intro a hE
                refine WL.no hE (runs_not hE rfl rfl rfl (by rw [hg100]; decide)) rfl ?_; clear hE a; intro a hE
                refine WL.no hE (runs_not hE rfl rfl rfl (by rw [hg100]; decide)) rfl ?_; clear hE a; intro a hE
                refine WL.no hE (runs_not hE rfl rfl rfl (by rw [hg100]; decide)) rfl ?_; clear hE a; intro a hE
                refine WL.vS hS hE (runs_plain rfl) (Gives.pickF hE rfl hg100 rfl) rfl ?_; clear hE a; intro a hE
                refine WL.vS hS hE (runs_plain rfl) (Gives.p hE rfl) rfl ?_; clear hE a; intro a hE
                refine WL.nil ?_
                subst hK99
                exact ⟨false, Option.some.inj hq94, hE.pick _ ⟨rfl, trivial⟩, hS⟩
            · clear hE hS a w; rintro a w ⟨q98, rfl, hE, hS⟩
              refine W.ret ?_
              refine finG (fn := Try.f9) (rs := [.tmp 6]) (vs := [_]) hE rfl ⟨rfl, trivial⟩ ?_
              obtain rfl := Option.some.inj hr
              replace hS := hS.tail
              exact ⟨rfl, hS⟩
end Go.Proofs.Ytmgdigencbganaa
