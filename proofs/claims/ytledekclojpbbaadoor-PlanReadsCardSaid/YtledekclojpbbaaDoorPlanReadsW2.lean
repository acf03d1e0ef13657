/- The walks of the functions that PlanReads reaches: each call comes to what its mirror says. The conditions are those of each contract. -/
import Derived.Test.YtledekclojpbbaaDoorProg
import Derived.Test.YtledekclojpbbaaDoorPlanReadsM
import Derived.Test.YtledekclojpbbaaDoorFpAllT
import Derived.Test.YtledekclojpbbaaDoorPlanReadsS
import Derived.Test.YtledekclojpbbaaDoorFpMapS
import Derived.Test.YtledekclojpbbaaDoorFpErr
import Derived.Test.YtledekclojpbbaaDoorFpHot
import Derived.Test.YtledekclojpbbaaDoorPlanReadsW1
set_option maxRecDepth 10000
namespace Go.Proofs.YtledekclojpbbaaDoor
open Go Go.Fp
set_option maxHeartbeats 8000000 in
theorem Fishref1Number_ok {fu : Nat}  {w : World} {s : Sg} {R : List HP} {x0 : ByteArray} {x1 : Int} (hS : St w s (R))  {r : Int × Bool} (hr : Fishref1Number fu x0 x1 = some r) :
    Calls Tryd.prog 98 [.string x0, .int .i64 x1].toArray w (fun e w => e = .returned (.tuple #[.int .i64 r.1, .bool r.2]) ∧ St w s (R)) := by
  refine enter Tryd.func98 rfl rfl rfl fun a hE => ?_
  rw [Fishref1Number] at hr
  refine W.seq ?_
  refine W.region ?_
  refine WL.vS hS hE (runs_plain rfl) (Gives.p hE rfl) rfl ?_; clear hE a; intro a hE
  refine WL.vS hS hE (runs_plain rfl) (Gives.p hE rfl) rfl ?_; clear hE a; intro a hE
  refine WL.nil ?_
  refine W.seq ?_
  refine W.region ?_
  refine WL.vS hS hE (runs_plain rfl) (Gives.p hE rfl) rfl ?_; clear hE a; intro a hE
  refine WL.vS hS hE (runs_plain rfl) (Gives.p hE rfl) rfl ?_; clear hE a; intro a hE
  refine WL.nil ?_
  refine W.seq ?_
  refine W.seq ?_
  refine W.region ?_
  refine WL.vS hS hE (runs_plain rfl) (Gives.p hE rfl) rfl ?_; clear hE a; intro a hE
  obtain ⟨q51, hq52, hr⟩ := bindS hr
  have hc_ := StringsHasPrefix_ok hS  hq52
  refine WL.fnq hE (hc_) (runs_plain rfl) bd124 rfl rfl rfl ?_
  clear hE hS hc_; rintro e w ⟨rfl, hS⟩; refine ⟨_, rfl, ?_⟩; clear a; intro a hE
  refine WL.nil ?_
  obtain ⟨q54, hq53, hr⟩ := bindS hr
  refine W.cut (fun a w => ∃ (q57 : ByteArray), q57 = q54 ∧ Rep a 74 [(0, .string x0), (1, .int .i64 x1), (6, .string q57)] ∧ St w s (R)) ?_ ?_
  · refine W.gen fun K58 hK58 => ?_
    refine W.cond hE rfl (fun hc59 => ?_) (fun hc59 => ?_)
    · replace hq53 := iteT hc59 hq53
      refine W.region ?_
      refine WL.vS hS hE (runs_plain rfl) (Gives.p hE rfl) rfl ?_; clear hE a; intro a hE
      obtain ⟨x60, hx61, hq53⟩ := bindS hq53
      refine WL.vS hS hE (runs_plain rfl) (Gives.cutSL hE st9 rfl rfl hx61) rfl ?_; clear hE a; intro a hE
      refine WL.vS hS hE (runs_plain rfl) (Gives.p hE rfl) rfl ?_; clear hE a; intro a hE
      refine WL.nil ?_
      subst hK58
      exact ⟨x60, Option.some.inj hq53, hE.pick _ ⟨rfl, rfl, rfl, trivial⟩, hS⟩
    · replace hq53 := iteF hc59 hq53
      refine W.skip ?_
      subst hK58
      exact ⟨x0, Option.some.inj hq53, hE.pick _ ⟨rfl, rfl, rfl, trivial⟩, hS⟩
  · clear hE hS a w; rintro a w ⟨q57, rfl, hE, hS⟩
    refine W.seq ?_
    refine W.seq ?_
    obtain ⟨q63, hq62, hr⟩ := bndS hr
    refine W.cut (fun a w => ∃ (q66 : Bool), q66 = q63 ∧ Rep a 74 [(0, .string x0), (6, .string q57), (22, .bool q66)] ∧ St w s (R)) ?_ ?_
    · refine W.gen fun K67 hK67 => ?_
      refine W.region ?_
      refine WL.vS hS hE (runs_plain rfl) (Gives.p hE rfl) rfl ?_; clear hE a; intro a hE
      refine WL.vS hS hE (runs_plain rfl) (Gives.lenS hE rfl st9) rfl ?_; clear hE a; intro a hE
      refine WL.vS hS hE (runs_plain rfl) (Gives.p hE rfl) rfl ?_; clear hE a; intro a hE
      refine WL.vS hS hE (runs_plain rfl) (Gives.p hE rfl) rfl ?_; clear hE a; intro a hE
      rcases Bool.eq_false_or_eq_true (decide (((q57.size : Nat) : Int) < 1)) with hg68 | hg68
      · replace hq62 := iteT hg68 hq62
        refine WL.no hE (runs_not hE rfl rfl rfl (by rw [hg68]; decide)) rfl ?_; clear hE a; intro a hE
        refine WL.no hE (runs_not hE rfl rfl rfl (by rw [hg68]; decide)) rfl ?_; clear hE a; intro a hE
        refine WL.no hE (runs_not hE rfl rfl rfl (by rw [hg68]; decide)) rfl ?_; clear hE a; intro a hE
        refine WL.no hE (runs_not hE rfl rfl rfl (by rw [hg68]; decide)) rfl ?_; clear hE a; intro a hE
        refine WL.vS hS hE (runs_plain rfl) (Gives.pickT hE rfl hg68 rfl) rfl ?_; clear hE a; intro a hE
        refine WL.nil ?_
        subst hK67
        exact ⟨true, hq62, hE.pick _ ⟨rfl, rfl, rfl, trivial⟩, hS⟩
      · replace hq62 := iteF hg68 hq62
        refine WL.vS hS hE (runs_if hE rfl rfl rfl hg68) (Gives.p hE rfl) rfl ?_; clear hE a; intro a hE
        refine WL.vS hS hE (runs_if hE rfl rfl rfl hg68) (Gives.lenS hE rfl st9) rfl ?_; clear hE a; intro a hE
        refine WL.vS hS hE (runs_if hE rfl rfl rfl hg68) (Gives.p hE rfl) rfl ?_; clear hE a; intro a hE
        refine WL.vS hS hE (runs_if hE rfl rfl rfl hg68) (Gives.p hE rfl) rfl ?_; clear hE a; intro a hE
        refine WL.vS hS hE (runs_plain rfl) (Gives.pickF hE rfl hg68 rfl) rfl ?_; clear hE a; intro a hE
        refine WL.nil ?_
        subst hK67
        exact ⟨decide (((q57.size : Nat) : Int) > x1), hq62, hE.pick _ ⟨rfl, rfl, rfl, trivial⟩, hS⟩
    · clear hE hS a w; rintro a w ⟨q66, rfl, hE, hS⟩
      refine W.cond hE rfl (fun hc69 => ?_) (fun hc69 => ?_)
      · replace hr := iteT hc69 hr
        refine W.seq ?_
        refine W.region ?_
        refine WL.vS hS hE (runs_plain rfl) (Gives.p hE rfl) rfl ?_; clear hE a; intro a hE
        refine WL.vS hS hE (runs_plain rfl) (Gives.p hE rfl) rfl ?_; clear hE a; intro a hE
        refine WL.nil ?_
        refine W.ret ?_
        refine finG (fn := Tryd.f98) (rs := [.tmp 4, .tmp 5]) (vs := [_, _]) hE rfl ⟨rfl, rfl, trivial⟩ ?_
        obtain rfl := Option.some.inj hr
        exact ⟨rfl, hS⟩
      · replace hr := iteF hc69 hr
        refine W.skip ?_
        refine W.seq ?_
        refine W.region ?_
        refine WL.vS hS hE (runs_plain rfl) (Gives.p hE rfl) rfl ?_; clear hE a; intro a hE
        refine WL.nil ?_
        refine W.seq ?_
        refine W.seq ?_
        refine W.region ?_
        refine WL.vS hS hE (runs_plain rfl) (Gives.p hE rfl) rfl ?_; clear hE a; intro a hE
        refine WL.nil ?_
        obtain ⟨q71, hq70, hr⟩ := bindS hr
        refine W.cut (fun a w => ∃ (q76 : Int), ∃ (q77 : Int), (.next (q76, q77)) = q71 ∧ Rep a 74 [(0, .string x0), (6, .string q57), (7, .int .i64 q76)] ∧ St w s (R)) ?_ ?_
        · refine W.block ?_
          refine W.loop (fun m a w => ∃ (n72 : Nat), ∃ (q76 : Int), ∃ (q77 : Int), n72 = m ∧ Fishref1Number.loop1 q57 n72 q76 q77 = some q71 ∧ Rep a 74 [(0, .string x0), (6, .string q57), (7, .int .i64 q76), (8, .int .i64 q77)] ∧ St w s (R)) (m := fu) ⟨fu, 0, 0, rfl, hq70, hE.pick _ ⟨rfl, rfl, rfl, rfl, trivial⟩, hS⟩ ?_
          clear hE hS a w hq70; rintro m73 a w ⟨n72, q76, q77, rfl, hq70, hE, hS⟩
          refine W.gen fun K78 hK78 => ?_
          rcases n72 with _ | n72
          · rw [Fishref1Number.loop1] at hq70; exact absurd hq70 (by simp)
          rw [Fishref1Number.loop1] at hq70
          refine W.seq ?_
          refine W.seq ?_
          refine W.region ?_
          refine WL.vS hS hE (runs_plain rfl) (Gives.p hE rfl) rfl ?_; clear hE a; intro a hE
          refine WL.vS hS hE (runs_plain rfl) (Gives.p hE rfl) rfl ?_; clear hE a; intro a hE
          refine WL.vS hS hE (runs_plain rfl) (Gives.lenS hE rfl st9) rfl ?_; clear hE a; intro a hE
          refine WL.vS hS hE (runs_plain rfl) (Gives.p hE rfl) rfl ?_; clear hE a; intro a hE
          refine WL.nil ?_
          refine W.cond hE rfl (fun hc79 => ?_) (fun hc79 => ?_)
          · replace hq70 := iteT hc79 hq70
            refine W.skip ?_
            refine W.seq ?_
            refine W.block ?_
            refine W.seq ?_
            refine W.seq ?_
            obtain ⟨q81, hq80, hq70⟩ := bindS hq70
            refine W.cut (fun a w => ∃ (q84 : Bool), q84 = q81 ∧ Rep a 74 [(0, .string x0), (6, .string q57), (7, .int .i64 q76), (8, .int .i64 q77), (38, .bool q84)] ∧ St w s (R)) ?_ ?_
            · refine W.gen fun K85 hK85 => ?_
              refine W.region ?_
              refine WL.vS hS hE (runs_plain rfl) (Gives.p hE rfl) rfl ?_; clear hE a; intro a hE
              refine WL.vS hS hE (runs_plain rfl) (Gives.p hE rfl) rfl ?_; clear hE a; intro a hE
              obtain ⟨x86, hx87, hq80⟩ := bindS hq80
              refine WL.vS hS hE (runs_plain rfl) (Gives.idxS hE st9 rfl rfl hx87) rfl ?_; clear hE a; intro a hE
              refine WL.vS hS hE (runs_plain rfl) (Gives.p hE rfl) rfl ?_; clear hE a; intro a hE
              refine WL.vS hS hE (runs_plain rfl) (Gives.p hE rfl) rfl ?_; clear hE a; intro a hE
              rcases Bool.eq_false_or_eq_true (decide (x86 < 48)) with hg88 | hg88
              · replace hq80 := iteT hg88 hq80
                refine WL.no hE (runs_not hE rfl rfl rfl (by rw [hg88]; decide)) rfl ?_; clear hE a; intro a hE
                refine WL.no hE (runs_not hE rfl rfl rfl (by rw [hg88]; decide)) rfl ?_; clear hE a; intro a hE
                refine WL.no hE (runs_not hE rfl rfl rfl (by rw [hg88]; decide)) rfl ?_; clear hE a; intro a hE
                refine WL.no hE (runs_not hE rfl rfl rfl (by rw [hg88]; decide)) rfl ?_; clear hE a; intro a hE
                refine WL.vS hS hE (runs_plain rfl) (Gives.pickT hE rfl hg88 rfl) rfl ?_; clear hE a; intro a hE
                refine WL.nil ?_
                subst hK85
                exact ⟨true, Option.some.inj hq80, hE.pick _ ⟨rfl, rfl, rfl, rfl, rfl, trivial⟩, hS⟩
              · replace hq80 := iteF hg88 hq80
                refine WL.vS hS hE (runs_if hE rfl rfl rfl hg88) (Gives.p hE rfl) rfl ?_; clear hE a; intro a hE
                refine WL.vS hS hE (runs_if hE rfl rfl rfl hg88) (Gives.p hE rfl) rfl ?_; clear hE a; intro a hE
                obtain ⟨x89, hx90, hq80⟩ := bindS hq80
                refine WL.vS hS hE (runs_if hE rfl rfl rfl hg88) (Gives.idxS hE st9 rfl rfl hx90) rfl ?_; clear hE a; intro a hE
                refine WL.vS hS hE (runs_if hE rfl rfl rfl hg88) (Gives.p hE rfl) rfl ?_; clear hE a; intro a hE
                refine WL.vS hS hE (runs_plain rfl) (Gives.pickF hE rfl hg88 rfl) rfl ?_; clear hE a; intro a hE
                refine WL.nil ?_
                subst hK85
                exact ⟨decide (x89 > 57), Option.some.inj hq80, hE.pick _ ⟨rfl, rfl, rfl, rfl, rfl, trivial⟩, hS⟩
            · clear hE hS a w; rintro a w ⟨q84, rfl, hE, hS⟩
              refine W.cond hE rfl (fun hc91 => ?_) (fun hc91 => ?_)
              · replace hq70 := iteT hc91 hq70
                refine W.seq ?_
                refine W.region ?_
                refine WL.vS hS hE (runs_plain rfl) (Gives.p hE rfl) rfl ?_; clear hE a; intro a hE
                refine WL.vS hS hE (runs_plain rfl) (Gives.p hE rfl) rfl ?_; clear hE a; intro a hE
                refine WL.nil ?_
                refine W.ret ?_
                subst hK78
                rw [← Option.some.inj hq70] at hr
                dsimp only at hr
                refine finG (fn := Tryd.f98) (rs := [.tmp 4, .tmp 5]) (vs := [_, _]) hE rfl ⟨rfl, rfl, trivial⟩ ?_
                obtain rfl := Option.some.inj hr
                exact ⟨rfl, hS⟩
              · replace hq70 := iteF hc91 hq70
                refine W.skip ?_
                refine W.region ?_
                refine WL.vS hS hE (runs_plain rfl) (Gives.p hE rfl) rfl ?_; clear hE a; intro a hE
                refine WL.vS hS hE (runs_plain rfl) (Gives.p hE rfl) rfl ?_; clear hE a; intro a hE
                refine WL.vS hS hE (runs_plain rfl) (Gives.p hE rfl) rfl ?_; clear hE a; intro a hE
                refine WL.vS hS hE (runs_plain rfl) (Gives.p hE rfl) rfl ?_; clear hE a; intro a hE
                obtain ⟨x92, hx93, hq70⟩ := bindS hq70
                refine WL.vS hS hE (runs_plain rfl) (Gives.idxS hE st9 rfl rfl hx93) rfl ?_; clear hE a; intro a hE
                refine WL.vS hS hE (runs_plain rfl) (Gives.p hE rfl) rfl ?_; clear hE a; intro a hE
                refine WL.vS hS hE (runs_plain rfl) (Gives.conv hE rfl hu5 ui3) rfl ?_; clear hE a; intro a hE
                refine WL.vS hS hE (runs_plain rfl) (Gives.p hE rfl) rfl ?_; clear hE a; intro a hE
                refine WL.vS hS hE (runs_plain rfl) (Gives.p hE rfl) rfl ?_; clear hE a; intro a hE
                refine WL.nil ?_
                refine W.region ?_
                refine WL.vS hS hE (runs_plain rfl) (Gives.p hE rfl) rfl ?_; clear hE a; intro a hE
                refine WL.vS hS hE (runs_plain rfl) (Gives.p hE rfl) rfl ?_; clear hE a; intro a hE
                refine WL.vS hS hE (runs_plain rfl) (Gives.p hE rfl) rfl ?_; clear hE a; intro a hE
                refine WL.nil ?_
                subst hK78
                exact ⟨n72, Nat.lt_succ_self _, n72, (w64 ((w64 (10 * q76)) + (w64 (IntKind.wrap .u8 (x92 - 48))))), (w64 (q77 + 1)), rfl, hq70, hE.pick _ ⟨rfl, rfl, rfl, rfl, trivial⟩, hS⟩
          · replace hq70 := iteF hc79 hq70
            subst hK78
            refine W.exit rfl ?_
            exact ⟨q76, q77, Option.some.inj hq70, hE.pick _ ⟨rfl, rfl, rfl, trivial⟩, hS⟩
        · clear hE hS a w; rintro a w ⟨q76, q77, rfl, hE, hS⟩
          dsimp only at hr
          refine W.seq ?_
          refine W.seq ?_
          obtain ⟨q95, hq94, hr⟩ := bindS hr
          refine W.cut (fun a w => ∃ (q98 : Bool), q98 = q95 ∧ Rep a 74 [(0, .string x0), (6, .string q57), (7, .int .i64 q76), (65, .bool q98)] ∧ St w s (R)) ?_ ?_
          · refine W.gen fun K99 hK99 => ?_
            refine W.region ?_
            refine WL.vS hS hE (runs_plain rfl) (Gives.p hE rfl) rfl ?_; clear hE a; intro a hE
            obtain ⟨x100, hx101, hq94⟩ := bindS hq94
            refine WL.vS hS hE (runs_plain rfl) (Gives.idxS hE st9 rfl rfl hx101) rfl ?_; clear hE a; intro a hE
            refine WL.vS hS hE (runs_plain rfl) (Gives.p hE rfl) rfl ?_; clear hE a; intro a hE
            refine WL.vS hS hE (runs_plain rfl) (Gives.p hE rfl) rfl ?_; clear hE a; intro a hE
            rcases Bool.eq_false_or_eq_true (x100 == 48) with hg102 | hg102
            · replace hq94 := iteT hg102 hq94
              refine WL.vS hS hE (runs_if hE rfl rfl rfl hg102) (Gives.p hE rfl) rfl ?_; clear hE a; intro a hE
              refine WL.vS hS hE (runs_if hE rfl rfl rfl hg102) (Gives.lenS hE rfl st9) rfl ?_; clear hE a; intro a hE
              refine WL.vS hS hE (runs_if hE rfl rfl rfl hg102) (Gives.p hE rfl) rfl ?_; clear hE a; intro a hE
              refine WL.vS hS hE (runs_plain rfl) (Gives.pickT hE rfl hg102 rfl) rfl ?_; clear hE a; intro a hE
              refine WL.vS hS hE (runs_plain rfl) (Gives.p hE rfl) rfl ?_; clear hE a; intro a hE
              rcases Bool.eq_false_or_eq_true (decide (((q57.size : Nat) : Int) > 1)) with hg103 | hg103
              · replace hq94 := iteT hg103 hq94
                refine WL.no hE (runs_not hE rfl rfl rfl (by rw [hg103]; decide)) rfl ?_; clear hE a; intro a hE
                refine WL.no hE (runs_not hE rfl rfl rfl (by rw [hg103]; decide)) rfl ?_; clear hE a; intro a hE
                refine WL.no hE (runs_not hE rfl rfl rfl (by rw [hg103]; decide)) rfl ?_; clear hE a; intro a hE
                refine WL.no hE (runs_undef hE rfl rfl rfl) rfl ?_; clear hE a; intro a hE
                refine WL.no hE (runs_undef hE rfl rfl rfl) rfl ?_; clear hE a; intro a hE
                refine WL.no hE (runs_undef hE rfl rfl rfl) rfl ?_; clear hE a; intro a hE
                refine WL.no hE (runs_undef hE rfl rfl rfl) rfl ?_; clear hE a; intro a hE
                refine WL.no hE (runs_undef hE rfl rfl rfl) rfl ?_; clear hE a; intro a hE
                refine WL.no hE (runs_not hE rfl rfl rfl (by rw [hg103]; decide)) rfl ?_; clear hE a; intro a hE
                refine WL.vS hS hE (runs_plain rfl) (Gives.pickT hE rfl hg103 rfl) rfl ?_; clear hE a; intro a hE
                refine WL.nil ?_
                subst hK99
                exact ⟨true, Option.some.inj hq94, hE.pick _ ⟨rfl, rfl, rfl, rfl, trivial⟩, hS⟩
              · replace hq94 := iteF hg103 hq94
                refine WL.vS hS hE (runs_if hE rfl rfl rfl hg103) (Gives.p hE rfl) rfl ?_; clear hE a; intro a hE
                refine WL.vS hS hE (runs_if hE rfl rfl rfl hg103) (Gives.p hE rfl) rfl ?_; clear hE a; intro a hE
                refine WL.vS hS hE (runs_if hE rfl rfl rfl hg103) (Gives.p hE rfl) rfl ?_; clear hE a; intro a hE
                rcases Bool.eq_false_or_eq_true (q76 == 0) with hg104 | hg104
                · replace hq94 := iteT hg104 hq94
                  refine WL.vS hS hE (runs_if hE rfl rfl rfl hg104) (Gives.p hE rfl) rfl ?_; clear hE a; intro a hE
                  refine WL.vS hS hE (runs_if hE rfl rfl rfl hg104) (Gives.lenS hE rfl st9) rfl ?_; clear hE a; intro a hE
                  refine WL.vS hS hE (runs_if hE rfl rfl rfl hg104) (Gives.p hE rfl) rfl ?_; clear hE a; intro a hE
                  refine WL.vS hS hE (runs_if hE rfl rfl rfl hg104) (Gives.lenS hE rfl st9) rfl ?_; clear hE a; intro a hE
                  refine WL.vS hS hE (runs_if hE rfl rfl rfl hg104) (Gives.p hE rfl) rfl ?_; clear hE a; intro a hE
                  refine WL.vS hS hE (runs_if hE rfl rfl rfl hg103) (Gives.pickT hE rfl hg104 rfl) rfl ?_; clear hE a; intro a hE
                  refine WL.vS hS hE (runs_plain rfl) (Gives.pickF hE rfl hg103 rfl) rfl ?_; clear hE a; intro a hE
                  refine WL.nil ?_
                  subst hK99
                  exact ⟨(((x0.size : Nat) : Int) != ((q57.size : Nat) : Int)), Option.some.inj hq94, hE.pick _ ⟨rfl, rfl, rfl, rfl, trivial⟩, hS⟩
                · replace hq94 := iteF hg104 hq94
                  refine WL.no hE (runs_not hE rfl rfl rfl (by rw [hg104]; decide)) rfl ?_; clear hE a; intro a hE
                  refine WL.no hE (runs_not hE rfl rfl rfl (by rw [hg104]; decide)) rfl ?_; clear hE a; intro a hE
                  refine WL.no hE (runs_not hE rfl rfl rfl (by rw [hg104]; decide)) rfl ?_; clear hE a; intro a hE
                  refine WL.no hE (runs_not hE rfl rfl rfl (by rw [hg104]; decide)) rfl ?_; clear hE a; intro a hE
                  refine WL.no hE (runs_not hE rfl rfl rfl (by rw [hg104]; decide)) rfl ?_; clear hE a; intro a hE
                  refine WL.vS hS hE (runs_if hE rfl rfl rfl hg103) (Gives.pickF hE rfl hg104 rfl) rfl ?_; clear hE a; intro a hE
                  refine WL.vS hS hE (runs_plain rfl) (Gives.pickF hE rfl hg103 rfl) rfl ?_; clear hE a; intro a hE
                  refine WL.nil ?_
                  subst hK99
                  exact ⟨false, Option.some.inj hq94, hE.pick _ ⟨rfl, rfl, rfl, rfl, trivial⟩, hS⟩
            · replace hq94 := iteF hg102 hq94
              refine WL.no hE (runs_not hE rfl rfl rfl (by rw [hg102]; decide)) rfl ?_; clear hE a; intro a hE
              refine WL.no hE (runs_not hE rfl rfl rfl (by rw [hg102]; decide)) rfl ?_; clear hE a; intro a hE
              refine WL.no hE (runs_not hE rfl rfl rfl (by rw [hg102]; decide)) rfl ?_; clear hE a; intro a hE
              refine WL.vS hS hE (runs_plain rfl) (Gives.pickF hE rfl hg102 rfl) rfl ?_; clear hE a; intro a hE
              refine WL.vS hS hE (runs_plain rfl) (Gives.p hE rfl) rfl ?_; clear hE a; intro a hE
              refine WL.vS hS hE (runs_if hE rfl rfl rfl rfl) (Gives.p hE rfl) rfl ?_; clear hE a; intro a hE
              refine WL.vS hS hE (runs_if hE rfl rfl rfl rfl) (Gives.p hE rfl) rfl ?_; clear hE a; intro a hE
              refine WL.vS hS hE (runs_if hE rfl rfl rfl rfl) (Gives.p hE rfl) rfl ?_; clear hE a; intro a hE
              rcases Bool.eq_false_or_eq_true (q76 == 0) with hg105 | hg105
              · replace hq94 := iteT hg105 hq94
                refine WL.vS hS hE (runs_if hE rfl rfl rfl hg105) (Gives.p hE rfl) rfl ?_; clear hE a; intro a hE
                refine WL.vS hS hE (runs_if hE rfl rfl rfl hg105) (Gives.lenS hE rfl st9) rfl ?_; clear hE a; intro a hE
                refine WL.vS hS hE (runs_if hE rfl rfl rfl hg105) (Gives.p hE rfl) rfl ?_; clear hE a; intro a hE
                refine WL.vS hS hE (runs_if hE rfl rfl rfl hg105) (Gives.lenS hE rfl st9) rfl ?_; clear hE a; intro a hE
                refine WL.vS hS hE (runs_if hE rfl rfl rfl hg105) (Gives.p hE rfl) rfl ?_; clear hE a; intro a hE
                refine WL.vS hS hE (runs_if hE rfl rfl rfl rfl) (Gives.pickT hE rfl hg105 rfl) rfl ?_; clear hE a; intro a hE
                refine WL.vS hS hE (runs_plain rfl) (Gives.pickF hE rfl rfl rfl) rfl ?_; clear hE a; intro a hE
                refine WL.nil ?_
                subst hK99
                exact ⟨(((x0.size : Nat) : Int) != ((q57.size : Nat) : Int)), Option.some.inj hq94, hE.pick _ ⟨rfl, rfl, rfl, rfl, trivial⟩, hS⟩
              · replace hq94 := iteF hg105 hq94
                refine WL.no hE (runs_not hE rfl rfl rfl (by rw [hg105]; decide)) rfl ?_; clear hE a; intro a hE
                refine WL.no hE (runs_not hE rfl rfl rfl (by rw [hg105]; decide)) rfl ?_; clear hE a; intro a hE
                refine WL.no hE (runs_not hE rfl rfl rfl (by rw [hg105]; decide)) rfl ?_; clear hE a; intro a hE
                refine WL.no hE (runs_not hE rfl rfl rfl (by rw [hg105]; decide)) rfl ?_; clear hE a; intro a hE
                refine WL.no hE (runs_not hE rfl rfl rfl (by rw [hg105]; decide)) rfl ?_; clear hE a; intro a hE
                refine WL.vS hS hE (runs_if hE rfl rfl rfl rfl) (Gives.pickF hE rfl hg105 rfl) rfl ?_; clear hE a; intro a hE
                refine WL.vS hS hE (runs_plain rfl) (Gives.pickF hE rfl rfl rfl) rfl ?_; clear hE a; intro a hE
                refine WL.nil ?_
                subst hK99
                exact ⟨false, Option.some.inj hq94, hE.pick _ ⟨rfl, rfl, rfl, rfl, trivial⟩, hS⟩
          · clear hE hS a w; rintro a w ⟨q98, rfl, hE, hS⟩
            refine W.cond hE rfl (fun hc106 => ?_) (fun hc106 => ?_)
            · replace hr := iteT hc106 hr
              refine W.seq ?_
              refine W.region ?_
              refine WL.vS hS hE (runs_plain rfl) (Gives.p hE rfl) rfl ?_; clear hE a; intro a hE
              refine WL.vS hS hE (runs_plain rfl) (Gives.p hE rfl) rfl ?_; clear hE a; intro a hE
              refine WL.nil ?_
              refine W.ret ?_
              refine finG (fn := Tryd.f98) (rs := [.tmp 4, .tmp 5]) (vs := [_, _]) hE rfl ⟨rfl, rfl, trivial⟩ ?_
              obtain rfl := Option.some.inj hr
              exact ⟨rfl, hS⟩
            · replace hr := iteF hc106 hr
              refine W.skip ?_
              refine W.seq ?_
              refine W.seq ?_
              refine W.region ?_
              refine WL.vS hS hE (runs_plain rfl) (Gives.p hE rfl) rfl ?_; clear hE a; intro a hE
              refine WL.vS hS hE (runs_plain rfl) (Gives.lenS hE rfl st9) rfl ?_; clear hE a; intro a hE
              refine WL.vS hS hE (runs_plain rfl) (Gives.p hE rfl) rfl ?_; clear hE a; intro a hE
              refine WL.vS hS hE (runs_plain rfl) (Gives.lenS hE rfl st9) rfl ?_; clear hE a; intro a hE
              refine WL.vS hS hE (runs_plain rfl) (Gives.p hE rfl) rfl ?_; clear hE a; intro a hE
              refine WL.nil ?_
              obtain ⟨q108, hq107, hr⟩ := bndS hr
              refine W.cut (fun a w => ∃ (q111 : Int), q111 = q108 ∧ Rep a 74 [(7, .int .i64 q111)] ∧ St w s (R)) ?_ ?_
              · refine W.gen fun K112 hK112 => ?_
                refine W.cond hE rfl (fun hc113 => ?_) (fun hc113 => ?_)
                · replace hq107 := iteT hc113 hq107
                  refine W.region ?_
                  refine WL.vS hS hE (runs_plain rfl) (Gives.p hE rfl) rfl ?_; clear hE a; intro a hE
                  refine WL.vS hS hE (runs_plain rfl) (Gives.p hE rfl) rfl ?_; clear hE a; intro a hE
                  refine WL.vS hS hE (runs_plain rfl) (Gives.p hE rfl) rfl ?_; clear hE a; intro a hE
                  refine WL.nil ?_
                  subst hK112
                  exact ⟨w64 (0 - q76), hq107, hE.pick _ ⟨rfl, trivial⟩, hS⟩
                · replace hq107 := iteF hc113 hq107
                  refine W.skip ?_
                  subst hK112
                  exact ⟨q76, hq107, hE.pick _ ⟨rfl, trivial⟩, hS⟩
              · clear hE hS a w; rintro a w ⟨q111, rfl, hE, hS⟩
                refine W.seq ?_
                refine W.region ?_
                refine WL.vS hS hE (runs_plain rfl) (Gives.p hE rfl) rfl ?_; clear hE a; intro a hE
                refine WL.vS hS hE (runs_plain rfl) (Gives.p hE rfl) rfl ?_; clear hE a; intro a hE
                refine WL.vS hS hE (runs_plain rfl) (Gives.p hE rfl) rfl ?_; clear hE a; intro a hE
                refine WL.nil ?_
                refine W.ret ?_
                refine finG (fn := Tryd.f98) (rs := [.tmp 4, .tmp 5]) (vs := [_, _]) hE rfl ⟨rfl, rfl, trivial⟩ ?_
                obtain rfl := Option.some.inj hr
                exact ⟨rfl, hS⟩
set_option maxHeartbeats 8000000 in
theorem Fishref1Numbers_ok {fu : Nat}  {w : World} {s : Sg} {R : List HP} {x0 : List ByteArray} {a0 : Option Addr} {c0 : Nat} {x1 : Int} (hS : St w s (R)) (h0 : Sl 1 RS s a0 c0 x0) {r : (List Int) × Bool} (hr : Fishref1Numbers fu x0 x1 = some r) :
    Calls Tryd.prog 74 [.slice a0 x0.length c0, .int .i64 x1].toArray w (fun e w => ∃ (a0 : Option Addr) (c0 n0 : Nat) (cs0 : List Value), e = .returned (.tuple #[.slice a0 n0 c0, .bool r.2]) ∧ Ev 1 (RI .i64) s cs0 r.1 ∧ r.1.length = n0 ∧ St w s (vecC 3 1 a0 c0 n0 cs0 :: R)) := by
  refine enter Tryd.func74 rfl rfl rfl fun a hE => ?_
  rw [Fishref1Numbers] at hr
  refine W.seq ?_
  refine W.region ?_
  refine WL.vS hS hE (runs_plain rfl) (Gives.p hE rfl) rfl ?_; clear hE a; intro a hE
  refine WL.vS hS hE (runs_plain rfl) (Gives.p hE rfl) rfl ?_; clear hE a; intro a hE
  refine WL.nil ?_
  refine W.seq ?_
  refine W.region ?_
  replace hS := hS.vecNil 3 1
  refine WL.vS hS hE (runs_plain rfl) (Gives.p hE rfl) rfl ?_; clear hE a; intro a hE
  refine WL.nil ?_
  refine W.seq ?_
  refine W.seq ?_
  refine W.region ?_
  refine WL.vS hS hE (runs_plain rfl) (Gives.p hE rfl) rfl ?_; clear hE a; intro a hE
  refine WL.vS hS hE (runs_plain rfl) (Gives.len hE rfl sl83) rfl ?_; clear hE a; intro a hE
  refine WL.vS hS hE (runs_plain rfl) (Gives.p hE rfl) rfl ?_; clear hE a; intro a hE
  refine WL.nil ?_
  obtain ⟨q53, hq52, hr⟩ := bindS hr
  refine W.cut (fun a w => ∃ (q63 : List Int), ∃ (a64 : Option Addr), ∃ (c65 : Nat), ∃ (n67 : Nat), ∃ (cs68 : List Value), (.next q63) = q53 ∧ Ev 1 (RI .i64) s cs68 q63 ∧ q63.length = n67 ∧ Rep a 31 [(6, .slice a64 n67 c65)] ∧ St w s (vecC 3 1 a64 c65 n67 cs68 :: R)) ?_ ?_
  · refine W.block ?_
    refine W.loop (fun m a w => ∃ (rest56 : List ByteArray) (k54 : Nat), ∃ (q63 : List Int), ∃ (a64 : Option Addr), ∃ (c65 : Nat), ∃ (n67 : Nat), ∃ (cs68 : List Value), rest56.length = m ∧ x0.drop k54 = rest56 ∧ Fishref1Numbers.loop1 x1 fu rest56 q63 = some q53 ∧ Ev 1 (RI .i64) s cs68 q63 ∧ q63.length = n67 ∧ Rep a 31 [(1, .int .i64 x1), (6, .slice a64 n67 c65), (11, .slice a0 x0.length c0), (12, .int .i64 ((x0).length : Int)), (13, .int .i64 ((k54 : Nat) : Int))] ∧ St w s (vecC 3 1 a64 c65 n67 cs68 :: R)) (m := x0.length) ⟨x0, 0, [], none, 0, 0, [], rfl, rfl, hq52, (Ev.nil), (rfl), hE.pick _ ⟨rfl, rfl, rfl, rfl, rfl, trivial⟩, hS⟩ ?_
    clear hE hS a w hq52; rintro m60 a w ⟨rest56, k54, q63, a64, c65, n67, cs68, rfl, hd57, hq52, h66, rfl, hE, hS⟩
    refine W.gen fun K70 hK70 => ?_
    rcases rest56 with _ | ⟨x55, rest56⟩
    · have hlt58 := drop_nil hd57
      refine W.seq ?_
      refine W.region ?_
      refine WL.vS hS hE (runs_plain rfl) (Gives.p hE rfl) rfl ?_; clear hE a; intro a hE
      refine WL.nil ?_
      refine W.seq ?_
      refine W.condF hE rfl (decide_eq_false (by omega)) ?_
      subst hK70
      refine W.exit rfl ?_
      exact ⟨q63, a64, c65, q63.length, cs68, Option.some.inj hq52, h66, rfl, hE.pick _ ⟨rfl, trivial⟩, hS⟩
    · obtain ⟨hlt58, hx59, hd57⟩ := drop_cons hd57
      rw [Fishref1Numbers.loop1] at hq52
      refine W.seq ?_
      refine W.region ?_
      refine WL.vS hS hE (runs_plain rfl) (Gives.p hE rfl) rfl ?_; clear hE a; intro a hE
      refine WL.nil ?_
      refine W.seq ?_
      refine W.condT hE rfl (decide_eq_true (by omega)) ?_
      refine W.skip ?_
      refine W.seq ?_
      refine W.block ?_
      refine W.seq ?_
      refine W.region ?_
      obtain ⟨cs71, hl72, hR73, hat74⟩ := h0.at hx59
      subst hR73
      refine WL.vS hS hE (runs_plain rfl) (Gives.idx hE k54 rfl rfl sl83 rfl hlt58 (h0.aok hlt58)) rfl ?_; clear hE a; intro a hE
      refine WL.vS hS hE (runs_plain rfl) (Gives.load1 hE rfl (fun w h => hat74 w _ h) ty9) rfl ?_; clear hE a; intro a hE
      refine WL.vS hS hE (runs_plain rfl) (Gives.p hE rfl) rfl ?_; clear hE a; intro a hE
      refine WL.nil ?_
      refine W.seq ?_
      refine W.region ?_
      refine WL.vS hS hE (runs_plain rfl) (Gives.p hE rfl) rfl ?_; clear hE a; intro a hE
      refine WL.vS hS hE (runs_plain rfl) (Gives.p hE rfl) rfl ?_; clear hE a; intro a hE
      obtain ⟨q75, hq76, hq52⟩ := bindS hq52
      have hc_ := Fishref1Number_ok hS  hq76
      refine WL.fnq hE (hc_) (runs_plain rfl) bd98 rfl rfl rfl ?_
      clear hE hS hc_; rintro e w ⟨rfl, hS⟩; refine ⟨_, rfl, ?_⟩; clear a; intro a hE
      refine WL.vS hS hE (runs_plain rfl) (Gives.p hE rfl) rfl ?_; clear hE a; intro a hE
      refine WL.vS hS hE (runs_plain rfl) (Gives.p hE rfl) rfl ?_; clear hE a; intro a hE
      refine WL.vS hS hE (runs_plain rfl) (Gives.p hE rfl) rfl ?_; clear hE a; intro a hE
      refine WL.vS hS hE (runs_plain rfl) (Gives.p hE rfl) rfl ?_; clear hE a; intro a hE
      refine WL.vS hS hE (runs_plain rfl) (Gives.p hE rfl) rfl ?_; clear hE a; intro a hE
      refine WL.nil ?_
      refine W.seq ?_
      refine W.seq ?_
      refine W.region ?_
      refine WL.vS hS hE (runs_plain rfl) (Gives.p hE rfl) rfl ?_; clear hE a; intro a hE
      refine WL.vS hS hE (runs_plain rfl) (Gives.p hE rfl) rfl ?_; clear hE a; intro a hE
      refine WL.nil ?_
      refine W.cond hE rfl (fun hc77 => ?_) (fun hc77 => ?_)
      · replace hq52 := iteT hc77 hq52
        refine W.seq ?_
        refine W.region ?_
        refine WL.vS hS hE (runs_plain rfl) (Gives.p hE rfl) rfl ?_; clear hE a; intro a hE
        refine WL.vS hS hE (runs_plain rfl) (Gives.p hE rfl) rfl ?_; clear hE a; intro a hE
        refine WL.nil ?_
        refine W.ret ?_
        subst hK70
        rw [← Option.some.inj hq52] at hr
        dsimp only at hr
        replace hS := hS.vecNil 3 1
        refine finG (fn := Tryd.f74) (rs := [.tmp 4, .tmp 5]) (vs := [_, _]) hE rfl ⟨rfl, rfl, trivial⟩ ?_
        obtain rfl := Option.some.inj hr
        replace hS := hS.dropAt 1
        exact ⟨none, 0, 0, [], rfl, (Ev.nil), (rfl), hS⟩
      · replace hq52 := iteF hc77 hq52
        refine W.skip ?_
        refine W.region ?_
        refine WL.vS hS hE (runs_plain rfl) (Gives.p hE rfl) rfl ?_; clear hE a; intro a hE
        refine WL.vS hS hE (runs_plain rfl) (Gives.p hE rfl) rfl ?_; clear hE a; intro a hE
        refine WL.lit hE hS (e := 3) (es := 1) (vs := [(0, .int .i64 q75.1)]) (cs := [.int .i64 q75.1]) (runs_plain rfl) rfl (by kernel_rfl) rfl ?_; clear hE hS a w; intro b79 a w hE hS
        obtain ⟨x80, hx81, hq52⟩ := bindS hq52
        refine WL.appD hE hS 0 (m := 1) (runs_plain rfl) rfl rfl rfl ap23 rfl h66 rfl (xs := [q75.1]) (Ev.cons (c1 := [.int .i64 q75.1]) rfl rfl (Ev.nil)) rfl rfl hx81 rfl ?_; clear hE hS a w; intro a82 c83 cs84 a w h85 hE hS
        refine WL.vS hS hE (runs_plain rfl) (Gives.p hE rfl) rfl ?_; clear hE a; intro a hE
        refine WL.nil ?_
        refine W.region ?_
        refine WL.vS hS hE (runs_plain rfl) (Gives.inc hE rfl (by have := h0.small; omega)) rfl ?_; clear hE a; intro a hE
        refine WL.vS hS hE (runs_plain rfl) (Gives.p hE rfl) rfl ?_; clear hE a; intro a hE
        refine WL.nil ?_
        subst hK70
        exact ⟨rest56.length, Nat.lt_succ_self _, rest56, k54 + 1, x80, a82, c83, x80.length, cs84, rfl, hd57, hq52, h85, (rfl), hE.pick _ ⟨rfl, rfl, rfl, rfl, rfl, trivial⟩, hS⟩
  · clear hE hS a w; rintro a w ⟨q63, a64, c65, n67, cs68, rfl, h66, rfl, hE, hS⟩
    dsimp only at hr
    refine W.seq ?_
    refine W.region ?_
    refine WL.vS hS hE (runs_plain rfl) (Gives.p hE rfl) rfl ?_; clear hE a; intro a hE
    refine WL.vS hS hE (runs_plain rfl) (Gives.p hE rfl) rfl ?_; clear hE a; intro a hE
    refine WL.vS hS hE (runs_plain rfl) (Gives.p hE rfl) rfl ?_; clear hE a; intro a hE
    refine WL.nil ?_
    refine W.ret ?_
    refine finG (fn := Tryd.f74) (rs := [.tmp 4, .tmp 5]) (vs := [_, _]) hE rfl ⟨rfl, rfl, trivial⟩ ?_
    obtain rfl := Option.some.inj hr
    exact ⟨a64, c65, q63.length, cs68, rfl, h66, rfl, hS⟩
set_option maxHeartbeats 8000000 in
theorem Fishref2dayOf_ok {fu : Nat}  {w : World} {s : Sg} {R : List HP} {x0 : List ByteArray} {a0 : Option Addr} {c0 : Nat} (hS : St w s (R)) (hTab : TabX s) (h0 : Sl 1 RS s a0 c0 x0) {r : ApiDay × Bool} (hr : Fishref2dayOf fu x0 = some r) :
    Calls Tryd.prog 48 [.slice a0 x0.length c0].toArray w (fun e w => ∃ (cs0 : List Value) (t : Sg), e = .returned (.tuple #[.agg cs0.toArray, .bool r.2]) ∧ s.Le t ∧ RApiDay t cs0 r.1 ∧ St w t (R)) := by
  refine enter Tryd.func48 rfl rfl rfl fun a hE => ?_
  rw [Fishref2dayOf] at hr
  refine W.seq ?_
  refine W.region ?_
  refine WL.alloc hE hS (runs_plain rfl) zr33 rfl ?_; clear hE hS a w; intro b51 a w hE hS
  refine WL.vS hS hE (runs_plain rfl) (Gives.p hE rfl) rfl ?_; clear hE a; intro a hE
  refine WL.nil ?_
  refine W.seq ?_
  refine W.region ?_
  refine WL.alloc hE hS (runs_plain rfl) zr33 rfl ?_; clear hE hS a w; intro b52 a w hE hS
  refine WL.nil ?_
  refine W.seq ?_
  refine W.region ?_
  refine WL.vS hS hE (runs_plain rfl) (Gives.p hE rfl) rfl ?_; clear hE a; intro a hE
  refine WL.nil ?_
  refine W.seq ?_
  refine W.seq ?_
  refine W.region ?_
  refine WL.vS hS hE (runs_plain rfl) (Gives.p hE rfl) rfl ?_; clear hE a; intro a hE
  refine WL.vS hS hE (runs_plain rfl) (Gives.len hE rfl sl83) rfl ?_; clear hE a; intro a hE
  refine WL.vS hS hE (runs_plain rfl) (Gives.p hE rfl) rfl ?_; clear hE a; intro a hE
  refine WL.nil ?_
  replace hS := hS.hotNil 67 4
  have h53 : HEv 4 HtApiTrain s ⟨[], []⟩ ([] : List ApiTrain) := HEv.nil
  replace hS := hS.vecNil 23 1
  obtain ⟨q57, hq56, hr⟩ := bindS hr
  refine W.cut (fun a w => ∃ (q67 : ByteArray), ∃ (q68 : List ApiTrain), ∃ (q72 : List (List Int)), ∃ (q76 : List ApiTrain), ∃ (q83 : List (List Int)), ∃ (a69 : Option Addr), ∃ (c70 : Nat), ∃ (a73 : Option Addr), ∃ (c74 : Nat), ∃ (a77 : Option Addr), ∃ (c78 : Nat), ∃ (n80 : Nat), ∃ (cs81 : HotD), ∃ (a84 : Option Addr), ∃ (c85 : Nat), ∃ (n87 : Nat), ∃ (cs88 : List Value), ∃ (s65 : Sg), s.Le s65 ∧ (.next (q67, q68, q72, q76, q83)) = q57 ∧ Sl 4 RApiTrain s65 a69 c70 q68 ∧ Sl 1 (RL 1 (RI .i64)) s65 a73 c74 q72 ∧ HEv 4 HtApiTrain s65 cs81 q76 ∧ q76.length = n80 ∧ Ev 1 (RL 1 (RI .i64)) s65 cs88 q83 ∧ q83.length = n87 ∧ Rep a 165 [(2, .pointer (some ⟨b51, 0, none⟩)), (4, .pointer (some ⟨b52, 0, none⟩))] ∧ St w s65 (vecC 23 1 a84 c85 n87 cs88 :: hotC 67 4 a77 c78 n80 cs81 :: pt b52 (.cells #[.slice a77 n80 c78, .slice a84 n87 c85] 33 (0, 0)) :: pt b51 (.cells #[.slice a69 q68.length c70, .slice a73 q72.length c74] 33 (0, 0)) :: R)) ?_ ?_
  · refine W.block ?_
    refine W.loop (fun m a w => ∃ (rest60 : List ByteArray) (k58 : Nat), ∃ (q67 : ByteArray), ∃ (q68 : List ApiTrain), ∃ (q72 : List (List Int)), ∃ (q76 : List ApiTrain), ∃ (q83 : List (List Int)), ∃ (a69 : Option Addr), ∃ (c70 : Nat), ∃ (a73 : Option Addr), ∃ (c74 : Nat), ∃ (a77 : Option Addr), ∃ (c78 : Nat), ∃ (n80 : Nat), ∃ (cs81 : HotD), ∃ (a84 : Option Addr), ∃ (c85 : Nat), ∃ (n87 : Nat), ∃ (cs88 : List Value), ∃ (s65 : Sg), rest60.length = m ∧ x0.drop k58 = rest60 ∧ s.Le s65 ∧ Fishref2dayOf.loop1 fu rest60 k58 q67 q68 q72 q76 q83 = some q57 ∧ Sl 4 RApiTrain s65 a69 c70 q68 ∧ Sl 1 (RL 1 (RI .i64)) s65 a73 c74 q72 ∧ HEv 4 HtApiTrain s65 cs81 q76 ∧ q76.length = n80 ∧ Ev 1 (RL 1 (RI .i64)) s65 cs88 q83 ∧ q83.length = n87 ∧ Rep a 165 [(2, .pointer (some ⟨b51, 0, none⟩)), (4, .pointer (some ⟨b52, 0, none⟩)), (5, .string q67), (12, .slice a0 x0.length c0), (13, .int .i64 ((x0).length : Int)), (14, .int .i64 ((k58 : Nat) : Int))] ∧ St w s65 (vecC 23 1 a84 c85 n87 cs88 :: hotC 67 4 a77 c78 n80 cs81 :: pt b52 (.cells #[.slice a77 n80 c78, .slice a84 n87 c85] 33 (0, 0)) :: pt b51 (.cells #[.slice a69 q68.length c70, .slice a73 q72.length c74] 33 (0, 0)) :: R)) (m := x0.length) ⟨x0, 0, (str [116, 117, 114, 110]), [], [], ([] : List ApiTrain), [], none, 0, none, 0, none, 0, 0, ⟨[], []⟩, none, 0, 0, [], s, rfl, rfl, (Sg.Le.refl _), hq56, Sl.nil, Sl.nil, h53, (rfl), (Ev.nil), (rfl), hE.pick _ ⟨rfl, rfl, rfl, rfl, rfl, rfl, trivial⟩, hS⟩ ?_
    clear hE hS a w hq56; rintro m64 a w ⟨rest60, k58, q67, q68, q72, q76, q83, a69, c70, a73, c74, a77, c78, n80, cs81, a84, c85, n87, cs88, s65, rfl, hd61, hle66, hq56, h71, h75, h79, rfl, h86, rfl, hE, hS⟩
    refine W.gen fun K90 hK90 => ?_
    replace h0 := Sl.mono RS.mono hle66 h0
    replace h53 := HEv.mono HtApiTrain.mono hle66 h53
    rcases rest60 with _ | ⟨x59, rest60⟩
    · have hlt62 := drop_nil hd61
      refine W.seq ?_
      refine W.region ?_
      refine WL.vS hS hE (runs_plain rfl) (Gives.p hE rfl) rfl ?_; clear hE a; intro a hE
      refine WL.nil ?_
      refine W.seq ?_
      refine W.condF hE rfl (decide_eq_false (by omega)) ?_
      subst hK90
      refine W.exit rfl ?_
      exact ⟨q67, q68, q72, q76, q83, a69, c70, a73, c74, a77, c78, q76.length, cs81, a84, c85, q83.length, cs88, s65, hle66, Option.some.inj hq56, h71, h75, h79, rfl, h86, rfl, hE.pick _ ⟨rfl, rfl, trivial⟩, hS⟩
    · obtain ⟨hlt62, hx63, hd61⟩ := drop_cons hd61
      rw [Fishref2dayOf.loop1] at hq56
      refine W.seq ?_
      refine W.region ?_
      refine WL.vS hS hE (runs_plain rfl) (Gives.p hE rfl) rfl ?_; clear hE a; intro a hE
      refine WL.nil ?_
      refine W.seq ?_
      refine W.condT hE rfl (decide_eq_true (by omega)) ?_
      refine W.skip ?_
      refine W.seq ?_
      refine W.block ?_
      refine W.seq ?_
      refine W.region ?_
      refine WL.vS hS hE (runs_plain rfl) (Gives.p hE rfl) rfl ?_; clear hE a; intro a hE
      obtain ⟨cs91, hl92, hR93, hat94⟩ := h0.at hx63
      subst hR93
      refine WL.vS hS hE (runs_plain rfl) (Gives.idx hE k58 rfl rfl sl83 rfl hlt62 (h0.aok hlt62)) rfl ?_; clear hE a; intro a hE
      refine WL.vS hS hE (runs_plain rfl) (Gives.load1 hE rfl (fun w h => hat94 w _ h) ty9) rfl ?_; clear hE a; intro a hE
      refine WL.vS hS hE (runs_plain rfl) (Gives.p hE rfl) rfl ?_; clear hE a; intro a hE
      refine WL.vS hS hE (runs_plain rfl) (Gives.p hE rfl) rfl ?_; clear hE a; intro a hE
      refine WL.nil ?_
      refine W.seq ?_
      refine W.region ?_
      refine WL.vS hS hE (runs_plain rfl) (Gives.p hE rfl) rfl ?_; clear hE a; intro a hE
      obtain ⟨q95, hq96, hq56⟩ := bindS hq56
      refine WL.fnq hE (split_ok hS (TabG.mono hle66 hTab) hq96) (runs_plain rfl) bd56 rfl rfl rfl ?_
      clear hE hS; rintro e w ⟨b97, cs98, rfl, h99, hS⟩; refine ⟨_, rfl, ?_⟩; clear a; intro a hE
      refine WL.vS hS hE (runs_plain rfl) (Gives.p hE rfl) rfl ?_; clear hE a; intro a hE
      refine WL.nil ?_
      refine W.seq ?_
      refine W.region ?_
      refine WL.vS hS hE (runs_plain rfl) (Gives.p hE rfl) rfl ?_; clear hE a; intro a hE
      have hF := hS.fixD RS.mono 0 rfl h99 (rfl); clear hS; obtain ⟨s101, hle102, hS, h103⟩ := hF
      replace h0 := Sl.mono RS.mono hle102 h0
      replace h86 := Ev.mono (RL.mono RI.mono) hle102 h86
      replace h79 := HEv.mono HtApiTrain.mono hle102 h79
      replace h71 := Sl.mono RApiTrain.mono hle102 h71
      replace h75 := Sl.mono (RL.mono RI.mono) hle102 h75
      obtain ⟨x104, hx105, hq56⟩ := bindS hq56
      obtain ⟨a106, c107, heq108, h109⟩ := h103.cut hx105
      obtain ⟨h110, h111, h112, _⟩ := cutl_some hx105
      refine WL.vS hS hE (runs_plain rfl) (Gives.slL hE sl83 rfl rfl h110 (by omega) (by simpa using heq108)) rfl ?_; clear hE a; intro a hE
      obtain ⟨q113, hq114, hq56⟩ := bindS hq56
      have hc_ := Fishref1Numbers_ok hS h109 hq114
      refine WL.fnq hE (hc_) (runs_plain rfl) bd74 rfl rfl rfl ?_
      clear hE hS hc_; rintro e w ⟨a115, c116, n117, cs118, rfl, h119, rfl, hS⟩; refine ⟨_, rfl, ?_⟩; clear a; intro a hE
      refine WL.vS hS hE (runs_plain rfl) (Gives.p hE rfl) rfl ?_; clear hE a; intro a hE
      refine WL.vS hS hE (runs_plain rfl) (Gives.p hE rfl) rfl ?_; clear hE a; intro a hE
      refine WL.vS hS hE (runs_plain rfl) (Gives.p hE rfl) rfl ?_; clear hE a; intro a hE
      refine WL.vS hS hE (runs_plain rfl) (Gives.p hE rfl) rfl ?_; clear hE a; intro a hE
      refine WL.vS hS hE (runs_plain rfl) (Gives.p hE rfl) rfl ?_; clear hE a; intro a hE
      refine WL.nil ?_
      refine W.seq ?_
      refine W.seq ?_
      refine W.region ?_
      refine WL.vS hS hE (runs_plain rfl) (Gives.p hE rfl) rfl ?_; clear hE a; intro a hE
      refine WL.vS hS hE (runs_plain rfl) (Gives.p hE rfl) rfl ?_; clear hE a; intro a hE
      refine WL.nil ?_
      refine W.cond hE rfl (fun hc121 => ?_) (fun hc121 => ?_)
      · replace hq56 := iteT hc121 hq56
        refine W.seq ?_
        refine W.region ?_
        refine WL.vS hS hE (runs_plain rfl) (Gives.build hE (vs := []) [.slice none 0 0, .slice none 0 0] rfl (by kernel_rfl)) rfl ?_; clear hE a; intro a hE
        refine WL.storeI hE hS 4 rfl [.slice none 0 0, .slice none 0 0] (runs_plain rfl) rfl rfl rfl ty33 rfl rfl rfl rfl ?_; clear hE hS a w; intro a w hE hS
        refine WL.vS hS hE (runs_plain rfl) (Gives.p hE rfl) rfl ?_; clear hE a; intro a hE
        refine WL.nil ?_
        refine W.ret ?_
        subst hK90
        rw [← Option.some.inj hq56] at hr
        dsimp only at hr
        refine finG (fn := Tryd.f48) (rs := [.cell 2 33, .tmp 3]) (vs := [_, _]) hE rfl ⟨⟨_, rfl, .inl ⟨_, rfl, hS.seesAt 4 rfl, ty33⟩⟩, rfl, trivial⟩ ?_
        obtain rfl := Option.some.inj hr
        replace hS := hS.tail
        replace hS := hS.tail
        replace hS := hS.tail
        replace hS := hS.tail
        replace hS := hS.tail
        exact ⟨_, s101, rfl, (Sg.Le.trans hle66 hle102), ⟨_, _, _, _, rfl, Sl.nil, Sl.nil⟩, hS⟩
      · replace hq56 := iteF hc121 hq56
        refine W.skip ?_
        refine W.seq ?_
        refine W.region ?_
        refine WL.vS hS hE (runs_plain rfl) (Gives.fld hE rfl fl33_0) rfl ?_; clear hE a; intro a hE
        refine WL.vS hS hE (runs_plain rfl) (Gives.loadB hE 3 rfl rfl rfl ty30) rfl ?_; clear hE a; intro a hE
        refine WL.vS hS hE (runs_plain rfl) (Gives.len hE rfl sl30) rfl ?_; clear hE a; intro a hE
        refine WL.vS hS hE (runs_plain rfl) (Gives.p hE rfl) rfl ?_; clear hE a; intro a hE
        refine WL.vS hS hE (runs_plain rfl) (Gives.p hE rfl) rfl ?_; clear hE a; intro a hE
        refine WL.nil ?_
        refine W.seq ?_
        refine W.seq ?_
        refine W.region ?_
        refine WL.vS hS hE (runs_plain rfl) (Gives.p hE rfl) rfl ?_; clear hE a; intro a hE
        obtain ⟨x122, hx123, hq56⟩ := bindS hq56
        obtain ⟨hi124, hlt125, hy126⟩ := gx_some hx123
        obtain ⟨cs127, hl128, hR129, hat130⟩ := h103.at hy126
        subst hR129
        refine WL.vS hS hE (runs_plain rfl) (Gives.idx hE ((0 : Int)).toNat rfl rfl sl83 hi124 hlt125 (h103.aok hlt125)) rfl ?_; clear hE a; intro a hE
        refine WL.vS hS hE (runs_plain rfl) (Gives.load1 hE rfl (fun w h => hat130 w _ h) ty9) rfl ?_; clear hE a; intro a hE
        refine WL.nil ?_
        refine W.block ?_
        refine W.seq ?_
        refine W.region ?_
        refine WL.vS hS hE (runs_plain rfl) (Gives.eqSt hE rfl rfl) rfl ?_; clear hE a; intro a hE
        refine WL.vS hS hE (runs_plain rfl) (Gives.p hE rfl) rfl ?_; clear hE a; intro a hE
        refine WL.nil ?_
        obtain ⟨q132, hq131, hq56⟩ := bindS hq56
        refine W.cut (fun a w => ∃ (q135 : Bool), ∃ (q136 : List ApiTrain), ∃ (q143 : List (List Int)), ∃ (a137 : Option Addr), ∃ (c138 : Nat), ∃ (n140 : Nat), ∃ (cs141 : HotD), ∃ (a144 : Option Addr), ∃ (c145 : Nat), ∃ (n147 : Nat), ∃ (cs148 : List Value), ∃ (s133 : Sg), s101.Le s133 ∧ (q135, q136, q143) = q132 ∧ HEv 4 HtApiTrain s133 cs141 q136 ∧ q136.length = n140 ∧ Ev 1 (RL 1 (RI .i64)) s133 cs148 q143 ∧ q143.length = n147 ∧ Rep a 165 [(2, .pointer (some ⟨b51, 0, none⟩)), (4, .pointer (some ⟨b52, 0, none⟩)), (8, .slice (some ⟨b97, 0, none⟩) q95.length q95.length), (10, .bool q135), (12, .slice a0 x0.length c0), (13, .int .i64 ((x0).length : Int)), (14, .int .i64 ((k58 : Nat) : Int))] ∧ St w s133 (vecC 23 1 a144 c145 n147 cs148 :: hotC 67 4 a137 c138 n140 cs141 :: pt b52 (.cells #[.slice a137 n140 c138, .slice a144 n147 c145] 33 (0, 0)) :: pt b51 (.cells #[.slice a69 q68.length c70, .slice a73 q72.length c74] 33 (0, 0)) :: R)) ?_ ?_
        · refine W.gen fun K150 hK150 => ?_
          refine W.cond hE rfl (fun hc151 => ?_) (fun hc151 => ?_)
          · replace hq131 := iteT hc151 hq131
            refine W.seq ?_
            obtain ⟨q153, hq152, hq131⟩ := bndS hq131
            refine W.cut (fun a w => ∃ (q156 : Bool), q156 = q153 ∧ Rep a 165 [(2, .pointer (some ⟨b51, 0, none⟩)), (4, .pointer (some ⟨b52, 0, none⟩)), (8, .slice (some ⟨b97, 0, none⟩) q95.length q95.length), (9, .slice a115 q113.1.length c116), (10, .bool q156), (12, .slice a0 x0.length c0), (13, .int .i64 ((x0).length : Int)), (14, .int .i64 ((k58 : Nat) : Int))] ∧ St w s101 (vecC 3 1 a115 c116 q113.1.length cs118 :: vecC 23 1 a84 c85 q83.length cs88 :: hotC 67 4 a77 c78 q76.length cs81 :: pt b52 (.cells #[.slice a77 q76.length c78, .slice a84 q83.length c85] 33 (0, 0)) :: pt b51 (.cells #[.slice a69 q68.length c70, .slice a73 q72.length c74] 33 (0, 0)) :: R)) ?_ ?_
            · refine W.gen fun K157 hK157 => ?_
              refine W.region ?_
              refine WL.vS hS hE (runs_plain rfl) (Gives.p hE rfl) rfl ?_; clear hE a; intro a hE
              refine WL.vS hS hE (runs_plain rfl) (Gives.p hE rfl) rfl ?_; clear hE a; intro a hE
              rcases Bool.eq_false_or_eq_true q113.2 with hg158 | hg158
              · replace hq152 := iteT hg158 hq152
                refine WL.vS hS hE (runs_if hE rfl rfl rfl hg158) (Gives.p hE rfl) rfl ?_; clear hE a; intro a hE
                refine WL.vS hS hE (runs_if hE rfl rfl rfl hg158) (Gives.len hE rfl sl23) rfl ?_; clear hE a; intro a hE
                refine WL.vS hS hE (runs_if hE rfl rfl rfl hg158) (Gives.p hE rfl) rfl ?_; clear hE a; intro a hE
                refine WL.vS hS hE (runs_plain rfl) (Gives.pickT hE rfl hg158 rfl) rfl ?_; clear hE a; intro a hE
                refine WL.vS hS hE (runs_plain rfl) (Gives.p hE rfl) rfl ?_; clear hE a; intro a hE
                rcases Bool.eq_false_or_eq_true (((q113.1.length : Nat) : Int) == 2) with hg159 | hg159
                · replace hq152 := iteT hg159 hq152
                  refine WL.vS hS hE (runs_if hE rfl rfl rfl hg159) (Gives.fld hE rfl fl33_1) rfl ?_; clear hE a; intro a hE
                  refine WL.vS hS hE (runs_if hE rfl rfl rfl hg159) (Gives.loadB hE 3 rfl rfl rfl ty31) rfl ?_; clear hE a; intro a hE
                  refine WL.vS hS hE (runs_if hE rfl rfl rfl hg159) (Gives.len hE rfl sl31) rfl ?_; clear hE a; intro a hE
                  refine WL.vS hS hE (runs_if hE rfl rfl rfl hg159) (Gives.p hE rfl) rfl ?_; clear hE a; intro a hE
                  refine WL.vS hS hE (runs_plain rfl) (Gives.pickT hE rfl hg159 rfl) rfl ?_; clear hE a; intro a hE
                  refine WL.vS hS hE (runs_plain rfl) (Gives.p hE rfl) rfl ?_; clear hE a; intro a hE
                  refine WL.nil ?_
                  subst hK157
                  exact ⟨(((q83.length : Nat) : Int) == 0), hq152, hE.pick _ ⟨rfl, rfl, rfl, rfl, rfl, rfl, rfl, rfl, trivial⟩, hS⟩
                · replace hq152 := iteF hg159 hq152
                  refine WL.no hE (runs_not hE rfl rfl rfl (by rw [hg159]; decide)) rfl ?_; clear hE a; intro a hE
                  refine WL.no hE (runs_not hE rfl rfl rfl (by rw [hg159]; decide)) rfl ?_; clear hE a; intro a hE
                  refine WL.no hE (runs_not hE rfl rfl rfl (by rw [hg159]; decide)) rfl ?_; clear hE a; intro a hE
                  refine WL.no hE (runs_not hE rfl rfl rfl (by rw [hg159]; decide)) rfl ?_; clear hE a; intro a hE
                  refine WL.vS hS hE (runs_plain rfl) (Gives.pickF hE rfl hg159 rfl) rfl ?_; clear hE a; intro a hE
                  refine WL.vS hS hE (runs_plain rfl) (Gives.p hE rfl) rfl ?_; clear hE a; intro a hE
                  refine WL.nil ?_
                  subst hK157
                  exact ⟨false, hq152, hE.pick _ ⟨rfl, rfl, rfl, rfl, rfl, rfl, rfl, rfl, trivial⟩, hS⟩
              · replace hq152 := iteF hg158 hq152
                refine WL.no hE (runs_not hE rfl rfl rfl (by rw [hg158]; decide)) rfl ?_; clear hE a; intro a hE
                refine WL.no hE (runs_not hE rfl rfl rfl (by rw [hg158]; decide)) rfl ?_; clear hE a; intro a hE
                refine WL.no hE (runs_not hE rfl rfl rfl (by rw [hg158]; decide)) rfl ?_; clear hE a; intro a hE
                refine WL.vS hS hE (runs_plain rfl) (Gives.pickF hE rfl hg158 rfl) rfl ?_; clear hE a; intro a hE
                refine WL.vS hS hE (runs_plain rfl) (Gives.p hE rfl) rfl ?_; clear hE a; intro a hE
                refine WL.no hE (runs_not hE rfl rfl rfl (by decide)) rfl ?_; clear hE a; intro a hE
                refine WL.no hE (runs_not hE rfl rfl rfl (by decide)) rfl ?_; clear hE a; intro a hE
                refine WL.no hE (runs_not hE rfl rfl rfl (by decide)) rfl ?_; clear hE a; intro a hE
                refine WL.no hE (runs_not hE rfl rfl rfl (by decide)) rfl ?_; clear hE a; intro a hE
                refine WL.vS hS hE (runs_plain rfl) (Gives.pickF hE rfl rfl rfl) rfl ?_; clear hE a; intro a hE
                refine WL.vS hS hE (runs_plain rfl) (Gives.p hE rfl) rfl ?_; clear hE a; intro a hE
                refine WL.nil ?_
                subst hK157
                exact ⟨false, hq152, hE.pick _ ⟨rfl, rfl, rfl, rfl, rfl, rfl, rfl, rfl, trivial⟩, hS⟩
            · clear hE hS a w; rintro a w ⟨q156, rfl, hE, hS⟩
              refine W.seq ?_
              refine W.region ?_
              refine WL.vS hS hE (runs_plain rfl) (Gives.p hE rfl) rfl ?_; clear hE a; intro a hE
              refine WL.nil ?_
              obtain ⟨q161, hq160, hq131⟩ := bindS hq131
              refine W.cut (fun a w => ∃ (q164 : List ApiTrain), ∃ (a165 : Option Addr), ∃ (c166 : Nat), ∃ (n168 : Nat), ∃ (cs169 : HotD), q164 = q161 ∧ HEv 4 HtApiTrain s101 cs169 q164 ∧ q164.length = n168 ∧ Rep a 165 [(2, .pointer (some ⟨b51, 0, none⟩)), (4, .pointer (some ⟨b52, 0, none⟩)), (8, .slice (some ⟨b97, 0, none⟩) q95.length q95.length), (10, .bool q156), (12, .slice a0 x0.length c0), (13, .int .i64 ((x0).length : Int)), (14, .int .i64 ((k58 : Nat) : Int))] ∧ St w s101 (vecC 23 1 a84 c85 q83.length cs88 :: hotC 67 4 a165 c166 n168 cs169 :: pt b52 (.cells #[.slice a165 n168 c166, .slice a84 q83.length c85] 33 (0, 0)) :: pt b51 (.cells #[.slice a69 q68.length c70, .slice a73 q72.length c74] 33 (0, 0)) :: R)) ?_ ?_
              · refine W.gen fun K171 hK171 => ?_
                refine W.cond hE rfl (fun hc172 => ?_) (fun hc172 => ?_)
                · replace hq160 := iteT hc172 hq160
                  refine W.gen fun K173 hK173 => ?_
                  refine W.regionE (sel (fun w => St w s101 (vecC 3 1 a115 c116 q113.1.length cs118 :: vecC 23 1 a84 c85 q83.length cs88 :: hotC 67 4 a77 c78 q76.length cs81 :: pt b52 (.cells #[.slice a77 q76.length c78, .slice a84 q83.length c85] 33 (0, 0)) :: pt b51 (.cells #[.slice a69 q68.length c70, .slice a73 q72.length c74] 33 (0, 0)) :: R)) (fun w => St w s101 (vecC 3 1 a115 c116 q113.1.length cs118 :: vecC 23 1 a84 c85 q83.length cs88 :: pt b52 (.cells #[.slice a77 q76.length c78, .slice a84 q83.length c85] 33 (0, 0)) :: pt b51 (.cells #[.slice a69 q68.length c70, .slice a73 q72.length c74] 33 (0, 0)) :: R))) (fun b i => cond b ([0, 1, 2, 3, 4, 5, 6, 7, 8, 9, 11].contains i) ([0, 1, 2, 3, 4, 5, 6, 7, 8, 9, 10, 11].contains i)) mixed ?_
                  replace hS := hS.drew
                  refine Rg.takeP (i := 0) hE rfl (by kernel_rfl) (runs_plain rfl) (Gives.fld hE rfl fl33_0) rfl (tw_sel (fun _ => hS) (fun _ => (hS.dropAt 2))) ?_; clear hE a; intro a hE
                  have hT := tw_sel (A := fun w => St w s101 (vecC 3 1 a115 c116 q113.1.length cs118 :: vecC 23 1 a84 c85 q83.length cs88 :: hotC 67 4 a77 c78 q76.length cs81 :: pt b52 (.cells #[.slice a77 q76.length c78, .slice a84 q83.length c85] 33 (0, 0)) :: pt b51 (.cells #[.slice a69 q68.length c70, .slice a73 q72.length c74] 33 (0, 0)) :: R)) (B := fun w => St w s101 (vecC 3 1 a115 c116 q113.1.length cs118 :: vecC 23 1 a84 c85 q83.length cs88 :: pt b52 (.cells #[.slice a77 q76.length c78, .slice a84 q83.length c85] 33 (0, 0)) :: pt b51 (.cells #[.slice a69 q68.length c70, .slice a73 q72.length c74] 33 (0, 0)) :: R)) (w := _) (x := true) (y := true) (fun _ => hS) (fun _ => (hS.dropAt 2))
                  have hF := hS; replace hS := hS
                  refine Rg.take (i := 1) true rfl hE rfl (by kernel_rfl) (runs_plain rfl) (Gives.loadB hE 3 rfl rfl rfl ty30) rfl hT ?_; clear hE a; intro a hE
                  replace hS := hF; clear hF hT
                  refine Rg.takeP (i := 2) hE rfl (by kernel_rfl) (runs_plain rfl) (Gives.p hE rfl) rfl (tw_sel (fun _ => hS) (fun _ => (hS.dropAt 2))) ?_; clear hE a; intro a hE
                  obtain ⟨x174, hx175, hq160⟩ := bindS hq160
                  obtain ⟨hi176, hlt177, hy178⟩ := gx_some hx175
                  obtain ⟨vs179, hl180, hR181, hd182, hget183⟩ := h119.at hy178
                  subst hR181
                  refine Rg.takeP (i := 3) hE rfl (by kernel_rfl) (runs_plain rfl) (Gives.idx hE (((0 : Int)).toNat) rfl rfl sl23 hi176 (by omega) (hS.vecAok 0 rfl (by omega : ((0 : Int)).toNat < q113.1.length))) rfl (tw_sel (fun _ => hS) (fun _ => (hS.dropAt 2))) ?_; clear hE a; intro a hE
                  have hT := tw_sel (A := fun w => St w s101 (vecC 3 1 a115 c116 q113.1.length cs118 :: vecC 23 1 a84 c85 q83.length cs88 :: hotC 67 4 a77 c78 q76.length cs81 :: pt b52 (.cells #[.slice a77 q76.length c78, .slice a84 q83.length c85] 33 (0, 0)) :: pt b51 (.cells #[.slice a69 q68.length c70, .slice a73 q72.length c74] 33 (0, 0)) :: R)) (B := fun w => St w s101 (vecC 3 1 a115 c116 q113.1.length cs118 :: vecC 23 1 a84 c85 q83.length cs88 :: pt b52 (.cells #[.slice a77 q76.length c78, .slice a84 q83.length c85] 33 (0, 0)) :: pt b51 (.cells #[.slice a69 q68.length c70, .slice a73 q72.length c74] 33 (0, 0)) :: R)) (w := _) (x := true) (y := true) (fun _ => hS) (fun _ => (hS.dropAt 2))
                  have hF := hS; replace hS := (hS.dropAt 2)
                  refine Rg.take (i := 4) false rfl hE rfl (by kernel_rfl) (runs_plain rfl) (Gives.load1 hE rfl (fun w h => St.vecSees h 0 rfl (((0 : Int)).toNat * 1) _ hget183) ty3) rfl hT ?_; clear hE a; intro a hE
                  replace hS := hF; clear hF hT
                  refine Rg.takeP (i := 5) hE rfl (by kernel_rfl) (runs_plain rfl) (Gives.p hE rfl) rfl (tw_sel (fun _ => hS) (fun _ => (hS.dropAt 2))) ?_; clear hE a; intro a hE
                  obtain ⟨x184, hx185, hq160⟩ := bindS hq160
                  obtain ⟨hi186, hlt187, hy188⟩ := gx_some hx185
                  obtain ⟨vs189, hl190, hR191, hd192, hget193⟩ := h119.at hy188
                  subst hR191
                  refine Rg.takeP (i := 6) hE rfl (by kernel_rfl) (runs_plain rfl) (Gives.idx hE (((1 : Int)).toNat) rfl rfl sl23 hi186 (by omega) (hS.vecAok 0 rfl (by omega : ((1 : Int)).toNat < q113.1.length))) rfl (tw_sel (fun _ => hS) (fun _ => (hS.dropAt 2))) ?_; clear hE a; intro a hE
                  have hT := tw_sel (A := fun w => St w s101 (vecC 3 1 a115 c116 q113.1.length cs118 :: vecC 23 1 a84 c85 q83.length cs88 :: hotC 67 4 a77 c78 q76.length cs81 :: pt b52 (.cells #[.slice a77 q76.length c78, .slice a84 q83.length c85] 33 (0, 0)) :: pt b51 (.cells #[.slice a69 q68.length c70, .slice a73 q72.length c74] 33 (0, 0)) :: R)) (B := fun w => St w s101 (vecC 3 1 a115 c116 q113.1.length cs118 :: vecC 23 1 a84 c85 q83.length cs88 :: pt b52 (.cells #[.slice a77 q76.length c78, .slice a84 q83.length c85] 33 (0, 0)) :: pt b51 (.cells #[.slice a69 q68.length c70, .slice a73 q72.length c74] 33 (0, 0)) :: R)) (w := _) (x := true) (y := true) (fun _ => hS) (fun _ => (hS.dropAt 2))
                  have hF := hS; replace hS := (hS.dropAt 2)
                  refine Rg.take (i := 7) false rfl hE rfl (by kernel_rfl) (runs_plain rfl) (Gives.load1 hE rfl (fun w h => St.vecSees h 0 rfl (((1 : Int)).toNat * 1) _ hget193) ty3) rfl hT ?_; clear hE a; intro a hE
                  replace hS := hF; clear hF hT
                  refine Rg.takeP (i := 8) hE rfl (by kernel_rfl) (runs_plain rfl) (Gives.build hE (vs := [(0, .int .i64 x174), (1, .int .i64 x184)]) [.int .i64 x174, .int .i64 x184, .slice none 0 0, .slice none 0 0] rfl (by kernel_rfl)) rfl (tw_sel (fun _ => hS) (fun _ => (hS.dropAt 2))) ?_; clear hE a; intro a hE
                  refine Rg.one (i := 9) true true rfl (by kernel_rfl) (by kernel_rfl) (by kernel_rfl) ?_
                  refine WL.lit hE hS (e := 67) (es := 4) (vs := [(0, .agg (List.toArray [.int .i64 x174, .int .i64 x184, .slice none 0 0, .slice none 0 0]))]) (cs := [.int .i64 x174, .int .i64 x184, .slice none 0 0, .slice none 0 0]) (runs_plain rfl) rfl (by kernel_rfl) rfl ?_; clear hE hS a w; intro b194 a w hE hS
                  refine WL.nil ?_
                  refine ⟨⟨fun _ => (hS.tail), fun _ => ((hS.tail).dropAt 2)⟩, ?_⟩
                  refine Rg.one (i := 10) false true rfl (by kernel_rfl) (by kernel_rfl) (by kernel_rfl) ?_
                  replace hS := hS.vecNil 64 4
                  replace hS := hS.vecNil 23 1
                  replace hS := hS.front 5 rfl
                  replace hS := hS.front 3 rfl
                  replace hS := (hS.hotOpen 1 rfl)
                  replace hS := hS.front 2 rfl
                  replace hS : St _ s101 (pt b194 (.cells #[.int .i64 x174, .int .i64 x184, .slice none 0 0, .slice none 0 0] 67 (0, 0)) :: vecC 67 4 a77 c78 q76.length cs81.cs :: allC cs81.hs :: vecC 23 1 none 0 0 [] :: vecC 64 4 none 0 0 [] :: vecC 3 1 a115 c116 q113.1.length cs118 :: vecC 23 1 a84 c85 q83.length cs88 :: pt b52 (.cells #[.slice a77 q76.length c78, .slice a84 q83.length c85] 33 (0, 0)) :: pt b51 (.cells #[.slice a69 q68.length c70, .slice a73 q72.length c74] 33 (0, 0)) :: R) := hS
                  obtain ⟨x197, hx198, hq160⟩ := bindS hq160
                  refine WL.appDx hE hS 0 (m := 1) (runs_plain rfl) rfl rfl rfl ap30 rfl h79.ev rfl (xs := [(ApiTrain.mk x174 x184 [] [])]) (RX.ev rfl) rfl rfl hx198 rfl ?_; clear hE hS a w; intro a199 c200 a w h201 hE hS
                  replace hS : St _ s101 (vecC 67 4 a199 c200 x197.length (cs81.cs ++ [(.int .i64 x174 : Value), (.int .i64 x184 : Value), (.slice none 0 0 : Value), (.slice none 0 0 : Value)]) :: allC cs81.hs :: vecC 23 1 none 0 0 [] :: vecC 64 4 none 0 0 [] :: vecC 3 1 a115 c116 q113.1.length cs118 :: vecC 23 1 a84 c85 q83.length cs88 :: pt b52 (.cells #[.slice a77 q76.length c78, .slice a84 q83.length c85] 33 (0, 0)) :: pt b51 (.cells #[.slice a69 q68.length c70, .slice a73 q72.length c74] 33 (0, 0)) :: R) := hS
                  replace hS := hS.front 1 rfl
                  replace hS := hS.front 2 rfl
                  replace hS := hS.front 3 rfl
                  replace hS : St _ s101 (allC (cs81.hs ++ [allC [vecC 64 4 none 0 0 [], vecC 23 1 none 0 0 []]]) :: vecC 67 4 a199 c200 x197.length (cs81.cs ++ [(.int .i64 x174 : Value), (.int .i64 x184 : Value), (.slice none 0 0 : Value), (.slice none 0 0 : Value)]) :: vecC 3 1 a115 c116 q113.1.length cs118 :: vecC 23 1 a84 c85 q83.length cs88 :: pt b52 (.cells #[.slice a77 q76.length c78, .slice a84 q83.length c85] 33 (0, 0)) :: pt b51 (.cells #[.slice a69 q68.length c70, .slice a73 q72.length c74] 33 (0, 0)) :: R) := St.oPush (ps := [vecC 64 4 none 0 0 [], vecC 23 1 none 0 0 []]) (hs := cs81.hs) hS
                  have h202 : HEv 4 HtApiTrain s101 (HotD.mk (cs81.cs ++ [(.int .i64 x174 : Value), (.int .i64 x184 : Value), (.slice none 0 0 : Value), (.slice none 0 0 : Value)]) (cs81.hs ++ [allC [vecC 64 4 none 0 0 [], vecC 23 1 none 0 0 []]])) x197 := HEv.snoc h79 (apd_some hx198).2.symm rfl ⟨_, _, _, _, _, _, _, _, rfl, rfl, (Ev.nil), (rfl), (Ev.nil), (rfl)⟩
                  replace hS := hS.front 1 rfl
                  replace hS : St _ s101 (hotC 67 4 a199 c200 x197.length (HotD.mk (cs81.cs ++ [(.int .i64 x174 : Value), (.int .i64 x184 : Value), (.slice none 0 0 : Value), (.slice none 0 0 : Value)]) (cs81.hs ++ [allC [vecC 64 4 none 0 0 [], vecC 23 1 none 0 0 []]])) :: vecC 3 1 a115 c116 q113.1.length cs118 :: vecC 23 1 a84 c85 q83.length cs88 :: pt b52 (.cells #[.slice a77 q76.length c78, .slice a84 q83.length c85] 33 (0, 0)) :: pt b51 (.cells #[.slice a69 q68.length c70, .slice a73 q72.length c74] 33 (0, 0)) :: R) := St.hotClose hS
                  generalize HotD.mk (cs81.cs ++ [(.int .i64 x174 : Value), (.int .i64 x184 : Value), (.slice none 0 0 : Value), (.slice none 0 0 : Value)]) (cs81.hs ++ [allC [vecC 64 4 none 0 0 [], vecC 23 1 none 0 0 []]]) = cs203 at hS h202
                  refine WL.nil ?_
                  refine ⟨⟨fun h => absurd h (by decide), fun _ => (hS.tail)⟩, ?_⟩
                  refine Rg.takeP (i := 11) hE rfl (by kernel_rfl) (runs_plain rfl) (Gives.fld hE rfl fl33_0) rfl (tw_sel (fun h => absurd h (by decide)) (fun _ => (hS.tail))) ?_; clear hE a; intro a hE
                  refine Rg.one (i := 12) false false rfl (by kernel_rfl) (by kernel_rfl) (by kernel_rfl) ?_
                  refine WL.storeI hE hS 3 rfl [.slice a199 x197.length c200, .slice a84 q83.length c85] (runs_plain rfl) rfl rfl rfl ty30 rfl rfl rfl rfl ?_; clear hE hS a w; intro a w hE hS
                  refine WL.nil ?_
                  refine ⟨⟨fun h => absurd h (by decide), fun h => absurd h (by decide)⟩, ?_⟩
                  refine Rg.done (by kernel_rfl) ?_
                  subst hK173
                  replace hS := hS.dropAt 1
                  replace hS := hS.front 3 rfl
                  replace hS := hS.front 3 rfl
                  replace hS := hS.front 2 rfl
                  replace hS := hS.front 3 rfl
                  subst hK171
                  exact ⟨x197, a199, c200, x197.length, cs203, Option.some.inj hq160, h202, (rfl), hE.pick _ ⟨rfl, rfl, rfl, rfl, rfl, rfl, rfl, trivial⟩, hS⟩
                · replace hq160 := iteF hc172 hq160
                  refine W.skip ?_
                  replace hS := hS.tail
                  subst hK171
                  exact ⟨q76, a77, c78, q76.length, cs81, Option.some.inj hq160, h79, rfl, hE.pick _ ⟨rfl, rfl, rfl, rfl, rfl, rfl, rfl, trivial⟩, hS⟩
              · clear hE hS a w; rintro a w ⟨q164, a165, c166, n168, cs169, rfl, h167, rfl, hE, hS⟩
                subst hK150
                exact ⟨q156, q164, q83, a165, c166, q164.length, cs169, a84, c85, q83.length, cs88, s101, (Sg.Le.refl _), Option.some.inj hq131, h167, rfl, h86, rfl, hE.pick _ ⟨rfl, rfl, rfl, rfl, rfl, rfl, rfl, trivial⟩, hS⟩
          · replace hq131 := iteF hc151 hq131
            refine W.seq ?_
            refine W.region ?_
            refine WL.vS hS hE (runs_plain rfl) (Gives.eqSt hE rfl rfl) rfl ?_; clear hE a; intro a hE
            refine WL.vS hS hE (runs_plain rfl) (Gives.p hE rfl) rfl ?_; clear hE a; intro a hE
            refine WL.nil ?_
            obtain ⟨q205, hq204, hq131⟩ := bindS hq131
            refine W.cut (fun a w => ∃ (q208 : Bool), ∃ (q209 : List ApiTrain), ∃ (q215 : List (List Int)), ∃ (cs213 : HotD), ∃ (a216 : Option Addr), ∃ (c217 : Nat), ∃ (n219 : Nat), ∃ (cs220 : List Value), ∃ (s206 : Sg), s101.Le s206 ∧ (q208, q209, q215) = q205 ∧ HEv 4 HtApiTrain s206 cs213 q209 ∧ q209.length = q76.length ∧ Ev 1 (RL 1 (RI .i64)) s206 cs220 q215 ∧ q215.length = n219 ∧ Rep a 165 [(2, .pointer (some ⟨b51, 0, none⟩)), (4, .pointer (some ⟨b52, 0, none⟩)), (8, .slice (some ⟨b97, 0, none⟩) q95.length q95.length), (10, .bool q208), (12, .slice a0 x0.length c0), (13, .int .i64 ((x0).length : Int)), (14, .int .i64 ((k58 : Nat) : Int))] ∧ St w s206 (vecC 23 1 a216 c217 n219 cs220 :: hotC 67 4 a77 c78 q76.length cs213 :: pt b52 (.cells #[.slice a77 q76.length c78, .slice a216 n219 c217] 33 (0, 0)) :: pt b51 (.cells #[.slice a69 q68.length c70, .slice a73 q72.length c74] 33 (0, 0)) :: R)) ?_ ?_
            · refine W.gen fun K222 hK222 => ?_
              refine W.cond hE rfl (fun hc223 => ?_) (fun hc223 => ?_)
              · replace hq204 := iteT hc223 hq204
                refine W.seq ?_
                obtain ⟨q225, hq224, hq204⟩ := bndS hq204
                refine W.cut (fun a w => ∃ (q228 : Bool), q228 = q225 ∧ Rep a 165 [(2, .pointer (some ⟨b51, 0, none⟩)), (4, .pointer (some ⟨b52, 0, none⟩)), (8, .slice (some ⟨b97, 0, none⟩) q95.length q95.length), (9, .slice a115 q113.1.length c116), (10, .bool q228), (11, .int .i64 (w64 (((q76.length : Nat) : Int) - 1))), (12, .slice a0 x0.length c0), (13, .int .i64 ((x0).length : Int)), (14, .int .i64 ((k58 : Nat) : Int))] ∧ St w s101 (vecC 3 1 a115 c116 q113.1.length cs118 :: vecC 23 1 a84 c85 q83.length cs88 :: hotC 67 4 a77 c78 q76.length cs81 :: pt b52 (.cells #[.slice a77 q76.length c78, .slice a84 q83.length c85] 33 (0, 0)) :: pt b51 (.cells #[.slice a69 q68.length c70, .slice a73 q72.length c74] 33 (0, 0)) :: R)) ?_ ?_
                · refine W.gen fun K229 hK229 => ?_
                  refine W.region ?_
                  refine WL.vS hS hE (runs_plain rfl) (Gives.p hE rfl) rfl ?_; clear hE a; intro a hE
                  refine WL.vS hS hE (runs_plain rfl) (Gives.p hE rfl) rfl ?_; clear hE a; intro a hE
                  rcases Bool.eq_false_or_eq_true q113.2 with hg230 | hg230
                  · replace hq224 := iteT hg230 hq224
                    refine WL.vS hS hE (runs_if hE rfl rfl rfl hg230) (Gives.p hE rfl) rfl ?_; clear hE a; intro a hE
                    refine WL.vS hS hE (runs_if hE rfl rfl rfl hg230) (Gives.len hE rfl sl23) rfl ?_; clear hE a; intro a hE
                    refine WL.vS hS hE (runs_if hE rfl rfl rfl hg230) (Gives.p hE rfl) rfl ?_; clear hE a; intro a hE
                    refine WL.vS hS hE (runs_plain rfl) (Gives.pickT hE rfl hg230 rfl) rfl ?_; clear hE a; intro a hE
                    refine WL.vS hS hE (runs_plain rfl) (Gives.p hE rfl) rfl ?_; clear hE a; intro a hE
                    rcases Bool.eq_false_or_eq_true (((q113.1.length : Nat) : Int) == 4) with hg231 | hg231
                    · replace hq224 := iteT hg231 hq224
                      refine WL.vS hS hE (runs_if hE rfl rfl rfl hg231) (Gives.p hE rfl) rfl ?_; clear hE a; intro a hE
                      refine WL.vS hS hE (runs_if hE rfl rfl rfl hg231) (Gives.p hE rfl) rfl ?_; clear hE a; intro a hE
                      refine WL.vS hS hE (runs_plain rfl) (Gives.pickT hE rfl hg231 rfl) rfl ?_; clear hE a; intro a hE
                      refine WL.vS hS hE (runs_plain rfl) (Gives.p hE rfl) rfl ?_; clear hE a; intro a hE
                      rcases Bool.eq_false_or_eq_true (decide (((k58 : Nat) : Int) > 0)) with hg232 | hg232
                      · replace hq224 := iteT hg232 hq224
                        refine WL.vS hS hE (runs_if hE rfl rfl rfl hg232) (Gives.p hE rfl) rfl ?_; clear hE a; intro a hE
                        refine WL.vS hS hE (runs_if hE rfl rfl rfl hg232) (Gives.eqSt hE rfl rfl) rfl ?_; clear hE a; intro a hE
                        refine WL.vS hS hE (runs_if hE rfl rfl rfl hg232) (Gives.p hE rfl) rfl ?_; clear hE a; intro a hE
                        rcases Bool.eq_false_or_eq_true (seq q67 (str [116, 114, 97, 105, 110])) with hg233 | hg233
                        · replace hq224 := iteT hg233 hq224
                          refine WL.no hE (runs_not hE rfl rfl rfl (by rw [hg233]; decide)) rfl ?_; clear hE a; intro a hE
                          refine WL.no hE (runs_not hE rfl rfl rfl (by rw [hg233]; decide)) rfl ?_; clear hE a; intro a hE
                          refine WL.vS hS hE (runs_if hE rfl rfl rfl hg232) (Gives.pickT hE rfl hg233 rfl) rfl ?_; clear hE a; intro a hE
                          refine WL.vS hS hE (runs_plain rfl) (Gives.pickT hE rfl hg232 rfl) rfl ?_; clear hE a; intro a hE
                          refine WL.vS hS hE (runs_plain rfl) (Gives.p hE rfl) rfl ?_; clear hE a; intro a hE
                          refine WL.nil ?_
                          subst hK229
                          exact ⟨true, hq224, hE.pick _ ⟨rfl, rfl, rfl, rfl, rfl, rfl, rfl, rfl, rfl, trivial⟩, hS⟩
                        · replace hq224 := iteF hg233 hq224
                          refine WL.vS hS hE (runs_if hE rfl rfl rfl hg233) (Gives.p hE rfl) rfl ?_; clear hE a; intro a hE
                          refine WL.vS hS hE (runs_if hE rfl rfl rfl hg233) (Gives.eqSt hE rfl rfl) rfl ?_; clear hE a; intro a hE
                          refine WL.vS hS hE (runs_if hE rfl rfl rfl hg232) (Gives.pickF hE rfl hg233 rfl) rfl ?_; clear hE a; intro a hE
                          refine WL.vS hS hE (runs_plain rfl) (Gives.pickT hE rfl hg232 rfl) rfl ?_; clear hE a; intro a hE
                          refine WL.vS hS hE (runs_plain rfl) (Gives.p hE rfl) rfl ?_; clear hE a; intro a hE
                          refine WL.nil ?_
                          subst hK229
                          exact ⟨(seq q67 (str [115, 116, 111, 112])), hq224, hE.pick _ ⟨rfl, rfl, rfl, rfl, rfl, rfl, rfl, rfl, rfl, trivial⟩, hS⟩
                      · replace hq224 := iteF hg232 hq224
                        refine WL.no hE (runs_not hE rfl rfl rfl (by rw [hg232]; decide)) rfl ?_; clear hE a; intro a hE
                        refine WL.no hE (runs_not hE rfl rfl rfl (by rw [hg232]; decide)) rfl ?_; clear hE a; intro a hE
                        refine WL.no hE (runs_not hE rfl rfl rfl (by rw [hg232]; decide)) rfl ?_; clear hE a; intro a hE
                        refine WL.no hE (runs_undef hE rfl rfl rfl) rfl ?_; clear hE a; intro a hE
                        refine WL.no hE (runs_undef hE rfl rfl rfl) rfl ?_; clear hE a; intro a hE
                        refine WL.no hE (runs_not hE rfl rfl rfl (by rw [hg232]; decide)) rfl ?_; clear hE a; intro a hE
                        refine WL.vS hS hE (runs_plain rfl) (Gives.pickF hE rfl hg232 rfl) rfl ?_; clear hE a; intro a hE
                        refine WL.vS hS hE (runs_plain rfl) (Gives.p hE rfl) rfl ?_; clear hE a; intro a hE
                        refine WL.nil ?_
                        subst hK229
                        exact ⟨false, hq224, hE.pick _ ⟨rfl, rfl, rfl, rfl, rfl, rfl, rfl, rfl, rfl, trivial⟩, hS⟩
                    · replace hq224 := iteF hg231 hq224
                      refine WL.no hE (runs_not hE rfl rfl rfl (by rw [hg231]; decide)) rfl ?_; clear hE a; intro a hE
                      refine WL.no hE (runs_not hE rfl rfl rfl (by rw [hg231]; decide)) rfl ?_; clear hE a; intro a hE
                      refine WL.vS hS hE (runs_plain rfl) (Gives.pickF hE rfl hg231 rfl) rfl ?_; clear hE a; intro a hE
                      refine WL.vS hS hE (runs_plain rfl) (Gives.p hE rfl) rfl ?_; clear hE a; intro a hE
                      refine WL.no hE (runs_not hE rfl rfl rfl (by decide)) rfl ?_; clear hE a; intro a hE
                      refine WL.no hE (runs_not hE rfl rfl rfl (by decide)) rfl ?_; clear hE a; intro a hE
                      refine WL.no hE (runs_not hE rfl rfl rfl (by decide)) rfl ?_; clear hE a; intro a hE
                      refine WL.no hE (runs_undef hE rfl rfl rfl) rfl ?_; clear hE a; intro a hE
                      refine WL.no hE (runs_undef hE rfl rfl rfl) rfl ?_; clear hE a; intro a hE
                      refine WL.no hE (runs_not hE rfl rfl rfl (by decide)) rfl ?_; clear hE a; intro a hE
                      refine WL.vS hS hE (runs_plain rfl) (Gives.pickF hE rfl rfl rfl) rfl ?_; clear hE a; intro a hE
                      refine WL.vS hS hE (runs_plain rfl) (Gives.p hE rfl) rfl ?_; clear hE a; intro a hE
                      refine WL.nil ?_
                      subst hK229
                      exact ⟨false, hq224, hE.pick _ ⟨rfl, rfl, rfl, rfl, rfl, rfl, rfl, rfl, rfl, trivial⟩, hS⟩
                  · replace hq224 := iteF hg230 hq224
                    refine WL.no hE (runs_not hE rfl rfl rfl (by rw [hg230]; decide)) rfl ?_; clear hE a; intro a hE
                    refine WL.no hE (runs_not hE rfl rfl rfl (by rw [hg230]; decide)) rfl ?_; clear hE a; intro a hE
                    refine WL.no hE (runs_not hE rfl rfl rfl (by rw [hg230]; decide)) rfl ?_; clear hE a; intro a hE
                    refine WL.vS hS hE (runs_plain rfl) (Gives.pickF hE rfl hg230 rfl) rfl ?_; clear hE a; intro a hE
                    refine WL.vS hS hE (runs_plain rfl) (Gives.p hE rfl) rfl ?_; clear hE a; intro a hE
                    refine WL.no hE (runs_not hE rfl rfl rfl (by decide)) rfl ?_; clear hE a; intro a hE
                    refine WL.no hE (runs_not hE rfl rfl rfl (by decide)) rfl ?_; clear hE a; intro a hE
                    refine WL.vS hS hE (runs_plain rfl) (Gives.pickF hE rfl rfl rfl) rfl ?_; clear hE a; intro a hE
                    refine WL.vS hS hE (runs_plain rfl) (Gives.p hE rfl) rfl ?_; clear hE a; intro a hE
                    refine WL.no hE (runs_not hE rfl rfl rfl (by decide)) rfl ?_; clear hE a; intro a hE
                    refine WL.no hE (runs_not hE rfl rfl rfl (by decide)) rfl ?_; clear hE a; intro a hE
                    refine WL.no hE (runs_not hE rfl rfl rfl (by decide)) rfl ?_; clear hE a; intro a hE
                    refine WL.no hE (runs_undef hE rfl rfl rfl) rfl ?_; clear hE a; intro a hE
                    refine WL.no hE (runs_undef hE rfl rfl rfl) rfl ?_; clear hE a; intro a hE
                    refine WL.no hE (runs_not hE rfl rfl rfl (by decide)) rfl ?_; clear hE a; intro a hE
                    refine WL.vS hS hE (runs_plain rfl) (Gives.pickF hE rfl rfl rfl) rfl ?_; clear hE a; intro a hE
                    refine WL.vS hS hE (runs_plain rfl) (Gives.p hE rfl) rfl ?_; clear hE a; intro a hE
                    refine WL.nil ?_
                    subst hK229
                    exact ⟨false, hq224, hE.pick _ ⟨rfl, rfl, rfl, rfl, rfl, rfl, rfl, rfl, rfl, trivial⟩, hS⟩
                · clear hE hS a w; rintro a w ⟨q228, rfl, hE, hS⟩
                  refine W.seq ?_
                  refine W.region ?_
                  refine WL.vS hS hE (runs_plain rfl) (Gives.p hE rfl) rfl ?_; clear hE a; intro a hE
                  refine WL.nil ?_
                  obtain ⟨q235, hq234, hq204⟩ := bindS hq204
                  refine W.cut (fun a w => ∃ (q238 : List ApiTrain), ∃ (cs242 : HotD), q238 = q235 ∧ HEv 4 HtApiTrain s101 cs242 q238 ∧ q238.length = q76.length ∧ Rep a 165 [(2, .pointer (some ⟨b51, 0, none⟩)), (4, .pointer (some ⟨b52, 0, none⟩)), (8, .slice (some ⟨b97, 0, none⟩) q95.length q95.length), (10, .bool q228), (12, .slice a0 x0.length c0), (13, .int .i64 ((x0).length : Int)), (14, .int .i64 ((k58 : Nat) : Int))] ∧ St w s101 (vecC 23 1 a84 c85 q83.length cs88 :: hotC 67 4 a77 c78 q76.length cs242 :: pt b52 (.cells #[.slice a77 q76.length c78, .slice a84 q83.length c85] 33 (0, 0)) :: pt b51 (.cells #[.slice a69 q68.length c70, .slice a73 q72.length c74] 33 (0, 0)) :: R)) ?_ ?_
                  · refine W.gen fun K244 hK244 => ?_
                    refine W.cond hE rfl (fun hc245 => ?_) (fun hc245 => ?_)
                    · replace hq234 := iteT hc245 hq234
                      refine W.gen fun K246 hK246 => ?_
                      refine W.regionE (sel (fun w => St w s101 (vecC 3 1 a115 c116 q113.1.length cs118 :: vecC 23 1 a84 c85 q83.length cs88 :: hotC 67 4 a77 c78 q76.length cs81 :: pt b52 (.cells #[.slice a77 q76.length c78, .slice a84 q83.length c85] 33 (0, 0)) :: pt b51 (.cells #[.slice a69 q68.length c70, .slice a73 q72.length c74] 33 (0, 0)) :: R)) (fun w => St w s101 (vecC 3 1 a115 c116 q113.1.length cs118 :: vecC 23 1 a84 c85 q83.length cs88 :: pt b52 (.cells #[.slice a77 q76.length c78, .slice a84 q83.length c85] 33 (0, 0)) :: pt b51 (.cells #[.slice a69 q68.length c70, .slice a73 q72.length c74] 33 (0, 0)) :: R))) (fun b i => cond b ([0, 1, 2, 3, 4, 5, 6, 7, 8, 9, 10, 11, 12, 13, 14, 15, 16, 17, 18, 19, 20, 21, 22, 24, 25].contains i) ([0, 1, 2, 3, 4, 5, 6, 7, 8, 9, 10, 11, 12, 13, 14, 15, 16, 17, 18, 19, 20, 21, 22, 23, 24, 25, 26].contains i)) mixed ?_
                      replace hS := hS.drew
                      refine Rg.takeP (i := 0) hE rfl (by kernel_rfl) (runs_plain rfl) (Gives.fld hE rfl fl33_0) rfl (tw_sel (fun _ => hS) (fun _ => (hS.dropAt 2))) ?_; clear hE a; intro a hE
                      have hT := tw_sel (A := fun w => St w s101 (vecC 3 1 a115 c116 q113.1.length cs118 :: vecC 23 1 a84 c85 q83.length cs88 :: hotC 67 4 a77 c78 q76.length cs81 :: pt b52 (.cells #[.slice a77 q76.length c78, .slice a84 q83.length c85] 33 (0, 0)) :: pt b51 (.cells #[.slice a69 q68.length c70, .slice a73 q72.length c74] 33 (0, 0)) :: R)) (B := fun w => St w s101 (vecC 3 1 a115 c116 q113.1.length cs118 :: vecC 23 1 a84 c85 q83.length cs88 :: pt b52 (.cells #[.slice a77 q76.length c78, .slice a84 q83.length c85] 33 (0, 0)) :: pt b51 (.cells #[.slice a69 q68.length c70, .slice a73 q72.length c74] 33 (0, 0)) :: R)) (w := _) (x := true) (y := true) (fun _ => hS) (fun _ => (hS.dropAt 2))
                      have hF := hS; replace hS := (hS.dropAt 2)
                      refine Rg.take (i := 1) false rfl hE rfl (by kernel_rfl) (runs_plain rfl) (Gives.loadB hE 2 rfl rfl rfl ty30) rfl hT ?_; clear hE a; intro a hE
                      replace hS := hF; clear hF hT
                      refine Rg.takeP (i := 2) hE rfl (by kernel_rfl) (runs_plain rfl) (Gives.p hE rfl) rfl (tw_sel (fun _ => hS) (fun _ => (hS.dropAt 2))) ?_; clear hE a; intro a hE
                      refine Rg.takeP (i := 3) hE rfl (by kernel_rfl) (runs_plain rfl) (Gives.fld hE rfl fl33_0) rfl (tw_sel (fun _ => hS) (fun _ => (hS.dropAt 2))) ?_; clear hE a; intro a hE
                      have hT := tw_sel (A := fun w => St w s101 (vecC 3 1 a115 c116 q113.1.length cs118 :: vecC 23 1 a84 c85 q83.length cs88 :: hotC 67 4 a77 c78 q76.length cs81 :: pt b52 (.cells #[.slice a77 q76.length c78, .slice a84 q83.length c85] 33 (0, 0)) :: pt b51 (.cells #[.slice a69 q68.length c70, .slice a73 q72.length c74] 33 (0, 0)) :: R)) (B := fun w => St w s101 (vecC 3 1 a115 c116 q113.1.length cs118 :: vecC 23 1 a84 c85 q83.length cs88 :: pt b52 (.cells #[.slice a77 q76.length c78, .slice a84 q83.length c85] 33 (0, 0)) :: pt b51 (.cells #[.slice a69 q68.length c70, .slice a73 q72.length c74] 33 (0, 0)) :: R)) (w := _) (x := true) (y := true) (fun _ => hS) (fun _ => (hS.dropAt 2))
                      have hF := hS; replace hS := (hS.dropAt 2)
                      refine Rg.take (i := 4) false rfl hE rfl (by kernel_rfl) (runs_plain rfl) (Gives.loadB hE 2 rfl rfl rfl ty30) rfl hT ?_; clear hE a; intro a hE
                      replace hS := hF; clear hF hT
                      refine Rg.takeP (i := 5) hE rfl (by kernel_rfl) (runs_plain rfl) (Gives.p hE rfl) rfl (tw_sel (fun _ => hS) (fun _ => (hS.dropAt 2))) ?_; clear hE a; intro a hE
                      obtain ⟨x247, hx248, hq234⟩ := bindS hq234
                      obtain ⟨hi249, hlt250, hy251⟩ := gx_some hx248
                      have haok_ := (hS.hotOpen 2 rfl).vecAok 0 rfl (by omega : (w64 (((q76.length : Nat) : Int) - 1)).toNat < q76.length)
                      refine Rg.takeP (i := 6) hE rfl (by kernel_rfl) (runs_plain rfl) (Gives.idx hE ((w64 (((q76.length : Nat) : Int) - 1)).toNat) rfl rfl sl30 hi249 (by omega) haok_) rfl (tw_sel (fun _ => hS) (fun _ => (hS.dropAt 2))) ?_; clear hE a; intro a hE
                      refine Rg.takeP (i := 7) hE rfl (by kernel_rfl) (runs_plain rfl) (Gives.fld hE rfl fl67_2) rfl (tw_sel (fun _ => hS) (fun _ => (hS.dropAt 2))) ?_; clear hE a; intro a hE
                      have hT := tw_sel (A := fun w => St w s101 (vecC 3 1 a115 c116 q113.1.length cs118 :: vecC 23 1 a84 c85 q83.length cs88 :: hotC 67 4 a77 c78 q76.length cs81 :: pt b52 (.cells #[.slice a77 q76.length c78, .slice a84 q83.length c85] 33 (0, 0)) :: pt b51 (.cells #[.slice a69 q68.length c70, .slice a73 q72.length c74] 33 (0, 0)) :: R)) (B := fun w => St w s101 (vecC 3 1 a115 c116 q113.1.length cs118 :: vecC 23 1 a84 c85 q83.length cs88 :: pt b52 (.cells #[.slice a77 q76.length c78, .slice a84 q83.length c85] 33 (0, 0)) :: pt b51 (.cells #[.slice a69 q68.length c70, .slice a73 q72.length c74] 33 (0, 0)) :: R)) (w := _) (x := true) (y := true) (fun _ => hS) (fun _ => (hS.dropAt 2))
                      have hF := hS; replace hS := hS
                      obtain ⟨H252, hH253, hO254⟩ := HEv.at h79 hy251
                      obtain ⟨a257, c258, n259, cs260, a264, c265, n266, cs267, e255, e256, h261, hn262, h268, hn269⟩ := hO254
                      subst e256
                      refine Rg.take (i := 8) true rfl hE rfl (by kernel_rfl) (runs_plain rfl) (Gives.load1 hE rfl (fun w h => (St.hotSees h 2 rfl e255 rfl).one (j := 2) rfl) ty65) rfl hT ?_; clear hE a; intro a hE
                      replace hS := hF; clear hF hT
                      refine Rg.takeP (i := 9) hE rfl (by kernel_rfl) (runs_plain rfl) (Gives.p hE rfl) rfl (tw_sel (fun _ => hS) (fun _ => (hS.dropAt 2))) ?_; clear hE a; intro a hE
                      obtain ⟨x271, hx272, hq234⟩ := bindS hq234
                      obtain ⟨hi273, hlt274, hy275⟩ := gx_some hx272
                      obtain ⟨vs276, hl277, hR278, hd279, hget280⟩ := h119.at hy275
                      subst hR278
                      refine Rg.takeP (i := 10) hE rfl (by kernel_rfl) (runs_plain rfl) (Gives.idx hE (((0 : Int)).toNat) rfl rfl sl23 hi273 (by omega) (hS.vecAok 0 rfl (by omega : ((0 : Int)).toNat < q113.1.length))) rfl (tw_sel (fun _ => hS) (fun _ => (hS.dropAt 2))) ?_; clear hE a; intro a hE
                      have hT := tw_sel (A := fun w => St w s101 (vecC 3 1 a115 c116 q113.1.length cs118 :: vecC 23 1 a84 c85 q83.length cs88 :: hotC 67 4 a77 c78 q76.length cs81 :: pt b52 (.cells #[.slice a77 q76.length c78, .slice a84 q83.length c85] 33 (0, 0)) :: pt b51 (.cells #[.slice a69 q68.length c70, .slice a73 q72.length c74] 33 (0, 0)) :: R)) (B := fun w => St w s101 (vecC 3 1 a115 c116 q113.1.length cs118 :: vecC 23 1 a84 c85 q83.length cs88 :: pt b52 (.cells #[.slice a77 q76.length c78, .slice a84 q83.length c85] 33 (0, 0)) :: pt b51 (.cells #[.slice a69 q68.length c70, .slice a73 q72.length c74] 33 (0, 0)) :: R)) (w := _) (x := true) (y := true) (fun _ => hS) (fun _ => (hS.dropAt 2))
                      have hF := hS; replace hS := (hS.dropAt 2)
                      refine Rg.take (i := 11) false rfl hE rfl (by kernel_rfl) (runs_plain rfl) (Gives.load1 hE rfl (fun w h => St.vecSees h 0 rfl (((0 : Int)).toNat * 1) _ hget280) ty3) rfl hT ?_; clear hE a; intro a hE
                      replace hS := hF; clear hF hT
                      refine Rg.takeP (i := 12) hE rfl (by kernel_rfl) (runs_plain rfl) (Gives.p hE rfl) rfl (tw_sel (fun _ => hS) (fun _ => (hS.dropAt 2))) ?_; clear hE a; intro a hE
                      obtain ⟨x281, hx282, hq234⟩ := bindS hq234
                      obtain ⟨hi283, hlt284, hy285⟩ := gx_some hx282
                      obtain ⟨vs286, hl287, hR288, hd289, hget290⟩ := h119.at hy285
                      subst hR288
                      refine Rg.takeP (i := 13) hE rfl (by kernel_rfl) (runs_plain rfl) (Gives.idx hE (((1 : Int)).toNat) rfl rfl sl23 hi283 (by omega) (hS.vecAok 0 rfl (by omega : ((1 : Int)).toNat < q113.1.length))) rfl (tw_sel (fun _ => hS) (fun _ => (hS.dropAt 2))) ?_; clear hE a; intro a hE
                      have hT := tw_sel (A := fun w => St w s101 (vecC 3 1 a115 c116 q113.1.length cs118 :: vecC 23 1 a84 c85 q83.length cs88 :: hotC 67 4 a77 c78 q76.length cs81 :: pt b52 (.cells #[.slice a77 q76.length c78, .slice a84 q83.length c85] 33 (0, 0)) :: pt b51 (.cells #[.slice a69 q68.length c70, .slice a73 q72.length c74] 33 (0, 0)) :: R)) (B := fun w => St w s101 (vecC 3 1 a115 c116 q113.1.length cs118 :: vecC 23 1 a84 c85 q83.length cs88 :: pt b52 (.cells #[.slice a77 q76.length c78, .slice a84 q83.length c85] 33 (0, 0)) :: pt b51 (.cells #[.slice a69 q68.length c70, .slice a73 q72.length c74] 33 (0, 0)) :: R)) (w := _) (x := true) (y := true) (fun _ => hS) (fun _ => (hS.dropAt 2))
                      have hF := hS; replace hS := (hS.dropAt 2)
                      refine Rg.take (i := 14) false rfl hE rfl (by kernel_rfl) (runs_plain rfl) (Gives.load1 hE rfl (fun w h => St.vecSees h 0 rfl (((1 : Int)).toNat * 1) _ hget290) ty3) rfl hT ?_; clear hE a; intro a hE
                      replace hS := hF; clear hF hT
                      refine Rg.takeP (i := 15) hE rfl (by kernel_rfl) (runs_plain rfl) (Gives.p hE rfl) rfl (tw_sel (fun _ => hS) (fun _ => (hS.dropAt 2))) ?_; clear hE a; intro a hE
                      obtain ⟨x291, hx292, hq234⟩ := bindS hq234
                      obtain ⟨hi293, hlt294, hy295⟩ := gx_some hx292
                      obtain ⟨vs296, hl297, hR298, hd299, hget300⟩ := h119.at hy295
                      subst hR298
                      refine Rg.takeP (i := 16) hE rfl (by kernel_rfl) (runs_plain rfl) (Gives.idx hE (((2 : Int)).toNat) rfl rfl sl23 hi293 (by omega) (hS.vecAok 0 rfl (by omega : ((2 : Int)).toNat < q113.1.length))) rfl (tw_sel (fun _ => hS) (fun _ => (hS.dropAt 2))) ?_; clear hE a; intro a hE
                      have hT := tw_sel (A := fun w => St w s101 (vecC 3 1 a115 c116 q113.1.length cs118 :: vecC 23 1 a84 c85 q83.length cs88 :: hotC 67 4 a77 c78 q76.length cs81 :: pt b52 (.cells #[.slice a77 q76.length c78, .slice a84 q83.length c85] 33 (0, 0)) :: pt b51 (.cells #[.slice a69 q68.length c70, .slice a73 q72.length c74] 33 (0, 0)) :: R)) (B := fun w => St w s101 (vecC 3 1 a115 c116 q113.1.length cs118 :: vecC 23 1 a84 c85 q83.length cs88 :: pt b52 (.cells #[.slice a77 q76.length c78, .slice a84 q83.length c85] 33 (0, 0)) :: pt b51 (.cells #[.slice a69 q68.length c70, .slice a73 q72.length c74] 33 (0, 0)) :: R)) (w := _) (x := true) (y := true) (fun _ => hS) (fun _ => (hS.dropAt 2))
                      have hF := hS; replace hS := (hS.dropAt 2)
                      refine Rg.take (i := 17) false rfl hE rfl (by kernel_rfl) (runs_plain rfl) (Gives.load1 hE rfl (fun w h => St.vecSees h 0 rfl (((2 : Int)).toNat * 1) _ hget300) ty3) rfl hT ?_; clear hE a; intro a hE
                      replace hS := hF; clear hF hT
                      refine Rg.takeP (i := 18) hE rfl (by kernel_rfl) (runs_plain rfl) (Gives.p hE rfl) rfl (tw_sel (fun _ => hS) (fun _ => (hS.dropAt 2))) ?_; clear hE a; intro a hE
                      obtain ⟨x301, hx302, hq234⟩ := bindS hq234
                      obtain ⟨hi303, hlt304, hy305⟩ := gx_some hx302
                      obtain ⟨vs306, hl307, hR308, hd309, hget310⟩ := h119.at hy305
                      subst hR308
                      refine Rg.takeP (i := 19) hE rfl (by kernel_rfl) (runs_plain rfl) (Gives.idx hE (((3 : Int)).toNat) rfl rfl sl23 hi303 (by omega) (hS.vecAok 0 rfl (by omega : ((3 : Int)).toNat < q113.1.length))) rfl (tw_sel (fun _ => hS) (fun _ => (hS.dropAt 2))) ?_; clear hE a; intro a hE
                      have hT := tw_sel (A := fun w => St w s101 (vecC 3 1 a115 c116 q113.1.length cs118 :: vecC 23 1 a84 c85 q83.length cs88 :: hotC 67 4 a77 c78 q76.length cs81 :: pt b52 (.cells #[.slice a77 q76.length c78, .slice a84 q83.length c85] 33 (0, 0)) :: pt b51 (.cells #[.slice a69 q68.length c70, .slice a73 q72.length c74] 33 (0, 0)) :: R)) (B := fun w => St w s101 (vecC 3 1 a115 c116 q113.1.length cs118 :: vecC 23 1 a84 c85 q83.length cs88 :: pt b52 (.cells #[.slice a77 q76.length c78, .slice a84 q83.length c85] 33 (0, 0)) :: pt b51 (.cells #[.slice a69 q68.length c70, .slice a73 q72.length c74] 33 (0, 0)) :: R)) (w := _) (x := true) (y := true) (fun _ => hS) (fun _ => (hS.dropAt 2))
                      have hF := hS; replace hS := (hS.dropAt 2)
                      refine Rg.take (i := 20) false rfl hE rfl (by kernel_rfl) (runs_plain rfl) (Gives.load1 hE rfl (fun w h => St.vecSees h 0 rfl (((3 : Int)).toNat * 1) _ hget310) ty3) rfl hT ?_; clear hE a; intro a hE
                      replace hS := hF; clear hF hT
                      refine Rg.takeP (i := 21) hE rfl (by kernel_rfl) (runs_plain rfl) (Gives.build hE (vs := [(0, .int .i64 x271), (1, .int .i64 x281), (2, .int .i64 x291), (3, .int .i64 x301)]) [.int .i64 x271, .int .i64 x281, .int .i64 x291, .int .i64 x301] rfl (by kernel_rfl)) rfl (tw_sel (fun _ => hS) (fun _ => (hS.dropAt 2))) ?_; clear hE a; intro a hE
                      refine Rg.one (i := 22) true true rfl (by kernel_rfl) (by kernel_rfl) (by kernel_rfl) ?_
                      refine WL.lit hE hS (e := 64) (es := 4) (vs := [(0, .agg (List.toArray [.int .i64 x271, .int .i64 x281, .int .i64 x291, .int .i64 x301]))]) (cs := [.int .i64 x271, .int .i64 x281, .int .i64 x291, .int .i64 x301]) (runs_plain rfl) rfl (by kernel_rfl) rfl ?_; clear hE hS a w; intro b311 a w hE hS
                      refine WL.nil ?_
                      refine ⟨⟨fun _ => (hS.tail), fun _ => ((hS.tail).dropAt 2)⟩, ?_⟩
                      refine Rg.one (i := 23) false true rfl (by kernel_rfl) (by kernel_rfl) (by kernel_rfl) ?_
                      replace hS := hS.hotOpen 3 rfl
                      have lk312 := OLink.hole h79.link (w64 (((q76.length : Nat) : Int) - 1)).toNat; have hl313 := h79.len
                      replace hS : St _ s101 (vecC 64 4 a257 c258 n259 cs260 :: vecC 23 1 a264 c265 n266 cs267 :: vecC 67 4 a77 c78 q76.length cs81.cs :: allC (List.eraseIdx cs81.hs ((w64 (((q76.length : Nat) : Int) - 1)).toNat)) :: pt b311 (.cells #[.int .i64 x271, .int .i64 x281, .int .i64 x291, .int .i64 x301] 64 (0, 0)) :: vecC 3 1 a115 c116 q113.1.length cs118 :: vecC 23 1 a84 c85 q83.length cs88 :: pt b52 (.cells #[.slice a77 q76.length c78, .slice a84 q83.length c85] 33 (0, 0)) :: pt b51 (.cells #[.slice a69 q68.length c70, .slice a73 q72.length c74] 33 (0, 0)) :: R) := St.oOpen hS 1 rfl hH253
                      replace hS := hS.front 4 rfl
                      obtain ⟨x315, hx316, hq234⟩ := bindS hq234
                      refine WL.appD hE hS 0 (m := 1) (runs_plain rfl) rfl rfl rfl ap65 rfl h261 hn262 (xs := [(ApiStop.mk x271 x281 x291 x301)]) (Ev.cons (c1 := [.int .i64 x271, .int .i64 x281, .int .i64 x291, .int .i64 x301]) rfl rfl (Ev.nil)) rfl rfl hx316 rfl ?_; clear hE hS a w; intro a317 c318 cs319 a w h320 hE hS
                      refine WL.nil ?_
                      refine ⟨⟨fun h => absurd h (by decide), fun _ => ((((hS.tail).tail).tail).tail)⟩, ?_⟩
                      have hlt_ := hlt250
                      have haok_ := hS.vecAok 2 rfl (by omega : (w64 (((q76.length : Nat) : Int) - 1)).toNat < q76.length)
                      refine Rg.takeP (i := 24) hE rfl (by kernel_rfl) (runs_plain rfl) (Gives.idx hE ((w64 (((q76.length : Nat) : Int) - 1)).toNat) rfl rfl sl30 hi249 (by omega) haok_) rfl (tw_sel (fun h => absurd h (by decide)) (fun _ => ((((hS.tail).tail).tail).tail))) ?_; clear hE a; intro a hE
                      refine Rg.takeP (i := 25) hE rfl (by kernel_rfl) (runs_plain rfl) (Gives.fld hE rfl fl67_2) rfl (tw_sel (fun h => absurd h (by decide)) (fun _ => ((((hS.tail).tail).tail).tail))) ?_; clear hE a; intro a hE
                      refine Rg.one (i := 26) false true rfl (by kernel_rfl) (by kernel_rfl) (by kernel_rfl) ?_
                      have hf321 : (w64 (((q76.length : Nat) : Int) - 1)).toNat * 4 + 2 < cs81.cs.length := by rw [hl313]; have hk_ := (List.getElem?_eq_some_iff.1 hy251).1; omega
                      refine WL.storeV (vs := [.slice a317 x315.length c318]) (sa := a77) (p := (w64 (((q76.length : Nat) : Int) - 1)).toNat * 4 + 2) hE hS 2 rfl (runs_plain rfl) rfl rfl rfl ty65 rfl (by have h1_ := (hS.vec 2 rfl).1; simp only [List.length_cons, List.length_nil]; omega) (by have h1_ := (hS.vec 2 rfl).1; omega) rfl ?_; clear hE hS a w; intro a w hE hS
                      have lk322 := OLinkH.put (v := .slice a317 x315.length c318) lk312 (by decide : 2 < 4) hf321; have hl323 := (putc_len (v := .slice a317 x315.length c318) hf321).trans hl313
                      have hd324 : (List.drop ((w64 (((q76.length : Nat) : Int) - 1)).toNat * 4) (putc cs81.cs ((w64 (((q76.length : Nat) : Int) - 1)).toNat * 4 + 2) (.slice a317 x315.length c318 : Value))).take 4 = [.int .i64 x247.No, .int .i64 x247.Stock, .slice a317 x315.length c318, .slice a264 n266 c265] := el_put e255 (by decide) hf321
                      refine WL.nil ?_
                      refine ⟨⟨fun h => absurd h (by decide), fun _ => ((((hS.tail).tail).tail).tail)⟩, ?_⟩
                      refine Rg.done (by kernel_rfl) ?_
                      subst hK246
                      replace hS := hS.front 1 rfl
                      replace hS := hS.front 1 rfl
                      replace hS : St _ s101 (vecC 67 4 a77 c78 q76.length (putc cs81.cs ((w64 (((q76.length : Nat) : Int) - 1)).toNat * 4 + 2) (.slice a317 x315.length c318 : Value)) :: allC (List.set cs81.hs ((w64 (((q76.length : Nat) : Int) - 1)).toNat) (allC [vecC 64 4 a317 c318 x315.length cs319, vecC 23 1 a264 c265 n266 cs267])) :: vecC 3 1 a115 c116 q113.1.length cs118 :: vecC 23 1 a84 c85 q83.length cs88 :: pt b52 (.cells #[.slice a77 q76.length c78, .slice a84 q83.length c85] 33 (0, 0)) :: pt b51 (.cells #[.slice a69 q68.length c70, .slice a73 q72.length c74] 33 (0, 0)) :: R) := St.oClose (ps := [vecC 64 4 a317 c318 x315.length cs319, vecC 23 1 a264 c265 n266 cs267]) (hs := cs81.hs) (k := (w64 (((q76.length : Nat) : Int) - 1)).toNat) hS 1 rfl (List.getElem?_eq_some_iff.1 hH253).1
                      replace hS := hS.front 1 rfl
                      replace hS := hS.front 1 rfl
                      have h326 : HEv 4 HtApiTrain s101 (HotD.mk (putc cs81.cs ((w64 (((q76.length : Nat) : Int) - 1)).toNat * 4 + 2) (.slice a317 x315.length c318 : Value)) (List.set cs81.hs ((w64 (((q76.length : Nat) : Int) - 1)).toNat) (allC [vecC 64 4 a317 c318 x315.length cs319, vecC 23 1 a264 c265 n266 cs267]))) (List.set q76 ((w64 (((q76.length : Nat) : Int) - 1)).toNat) (ApiTrain.mk x247.No x247.Stock x315 x247.Legs)) := HEv.close lk322 hl323 hd324 ⟨_, _, _, _, _, _, _, _, rfl, rfl, h320, (rfl), h268, hn269⟩
                      have hn327 : (List.set q76 ((w64 (((q76.length : Nat) : Int) - 1)).toNat) (ApiTrain.mk x247.No x247.Stock x315 x247.Legs)).length = q76.length := List.length_set.trans rfl
                      replace hS : St _ s101 (hotC 67 4 a77 c78 q76.length (HotD.mk (putc cs81.cs ((w64 (((q76.length : Nat) : Int) - 1)).toNat * 4 + 2) (.slice a317 x315.length c318 : Value)) (List.set cs81.hs ((w64 (((q76.length : Nat) : Int) - 1)).toNat) (allC [vecC 64 4 a317 c318 x315.length cs319, vecC 23 1 a264 c265 n266 cs267]))) :: vecC 3 1 a115 c116 q113.1.length cs118 :: vecC 23 1 a84 c85 q83.length cs88 :: pt b52 (.cells #[.slice a77 q76.length c78, .slice a84 q83.length c85] 33 (0, 0)) :: pt b51 (.cells #[.slice a69 q68.length c70, .slice a73 q72.length c74] 33 (0, 0)) :: R) := St.hotClose hS
                      generalize HotD.mk (putc cs81.cs ((w64 (((q76.length : Nat) : Int) - 1)).toNat * 4 + 2) (.slice a317 x315.length c318 : Value)) (List.set cs81.hs ((w64 (((q76.length : Nat) : Int) - 1)).toNat) (allC [vecC 64 4 a317 c318 x315.length cs319, vecC 23 1 a264 c265 n266 cs267])) = cs325 at hS h326
                      replace hS := hS.dropAt 1
                      replace hS := hS.front 3 rfl
                      replace hS := hS.front 3 rfl
                      replace hS := hS.front 2 rfl
                      replace hS := hS.front 3 rfl
                      subst hK244
                      exact ⟨(List.set q76 ((w64 (((q76.length : Nat) : Int) - 1)).toNat) (ApiTrain.mk x247.No x247.Stock x315 x247.Legs)), cs325, Option.some.inj hq234, h326, hn327, hE.pick _ ⟨rfl, rfl, rfl, rfl, rfl, rfl, rfl, trivial⟩, hS⟩
                    · replace hq234 := iteF hc245 hq234
                      refine W.skip ?_
                      replace hS := hS.tail
                      subst hK244
                      exact ⟨q76, cs81, Option.some.inj hq234, h79, rfl, hE.pick _ ⟨rfl, rfl, rfl, rfl, rfl, rfl, rfl, trivial⟩, hS⟩
                  · clear hE hS a w; rintro a w ⟨q238, cs242, rfl, h241, hn243, hE, hS⟩
                    subst hK222
                    exact ⟨q228, q238, q83, cs242, a84, c85, q83.length, cs88, s101, (Sg.Le.refl _), Option.some.inj hq204, h241, hn243, h86, rfl, hE.pick _ ⟨rfl, rfl, rfl, rfl, rfl, rfl, rfl, trivial⟩, hS⟩
              · replace hq204 := iteF hc223 hq204
                refine W.seq ?_
                refine W.region ?_
                refine WL.vS hS hE (runs_plain rfl) (Gives.eqSt hE rfl rfl) rfl ?_; clear hE a; intro a hE
                refine WL.vS hS hE (runs_plain rfl) (Gives.p hE rfl) rfl ?_; clear hE a; intro a hE
                refine WL.nil ?_
                obtain ⟨q329, hq328, hq204⟩ := bindS hq204
                refine W.cut (fun a w => ∃ (q332 : Bool), ∃ (q333 : List ApiTrain), ∃ (q339 : List (List Int)), ∃ (cs337 : HotD), ∃ (a340 : Option Addr), ∃ (c341 : Nat), ∃ (n343 : Nat), ∃ (cs344 : List Value), ∃ (s330 : Sg), s101.Le s330 ∧ (q332, q333, q339) = q329 ∧ HEv 4 HtApiTrain s330 cs337 q333 ∧ q333.length = q76.length ∧ Ev 1 (RL 1 (RI .i64)) s330 cs344 q339 ∧ q339.length = n343 ∧ Rep a 165 [(2, .pointer (some ⟨b51, 0, none⟩)), (4, .pointer (some ⟨b52, 0, none⟩)), (8, .slice (some ⟨b97, 0, none⟩) q95.length q95.length), (10, .bool q332), (12, .slice a0 x0.length c0), (13, .int .i64 ((x0).length : Int)), (14, .int .i64 ((k58 : Nat) : Int))] ∧ St w s330 (vecC 23 1 a340 c341 n343 cs344 :: hotC 67 4 a77 c78 q76.length cs337 :: pt b52 (.cells #[.slice a77 q76.length c78, .slice a340 n343 c341] 33 (0, 0)) :: pt b51 (.cells #[.slice a69 q68.length c70, .slice a73 q72.length c74] 33 (0, 0)) :: R)) ?_ ?_
                · refine W.gen fun K346 hK346 => ?_
                  refine W.cond hE rfl (fun hc347 => ?_) (fun hc347 => ?_)
                  · replace hq328 := iteT hc347 hq328
                    refine W.seq ?_
                    obtain ⟨q349, hq348, hq328⟩ := bndS hq328
                    refine W.cut (fun a w => ∃ (q352 : Bool), q352 = q349 ∧ Rep a 165 [(2, .pointer (some ⟨b51, 0, none⟩)), (4, .pointer (some ⟨b52, 0, none⟩)), (8, .slice (some ⟨b97, 0, none⟩) q95.length q95.length), (9, .slice a115 q113.1.length c116), (10, .bool q352), (11, .int .i64 (w64 (((q76.length : Nat) : Int) - 1))), (12, .slice a0 x0.length c0), (13, .int .i64 ((x0).length : Int)), (14, .int .i64 ((k58 : Nat) : Int))] ∧ St w s101 (vecC 3 1 a115 c116 q113.1.length cs118 :: vecC 23 1 a84 c85 q83.length cs88 :: hotC 67 4 a77 c78 q76.length cs81 :: pt b52 (.cells #[.slice a77 q76.length c78, .slice a84 q83.length c85] 33 (0, 0)) :: pt b51 (.cells #[.slice a69 q68.length c70, .slice a73 q72.length c74] 33 (0, 0)) :: R)) ?_ ?_
                    · refine W.gen fun K353 hK353 => ?_
                      refine W.region ?_
                      refine WL.vS hS hE (runs_plain rfl) (Gives.p hE rfl) rfl ?_; clear hE a; intro a hE
                      refine WL.vS hS hE (runs_plain rfl) (Gives.p hE rfl) rfl ?_; clear hE a; intro a hE
                      rcases Bool.eq_false_or_eq_true q113.2 with hg354 | hg354
                      · replace hq348 := iteT hg354 hq348
                        refine WL.vS hS hE (runs_if hE rfl rfl rfl hg354) (Gives.p hE rfl) rfl ?_; clear hE a; intro a hE
                        refine WL.vS hS hE (runs_if hE rfl rfl rfl hg354) (Gives.len hE rfl sl23) rfl ?_; clear hE a; intro a hE
                        refine WL.vS hS hE (runs_if hE rfl rfl rfl hg354) (Gives.p hE rfl) rfl ?_; clear hE a; intro a hE
                        refine WL.vS hS hE (runs_plain rfl) (Gives.pickT hE rfl hg354 rfl) rfl ?_; clear hE a; intro a hE
                        refine WL.vS hS hE (runs_plain rfl) (Gives.p hE rfl) rfl ?_; clear hE a; intro a hE
                        rcases Bool.eq_false_or_eq_true (decide (((q113.1.length : Nat) : Int) > 0)) with hg355 | hg355
                        · replace hq348 := iteT hg355 hq348
                          refine WL.vS hS hE (runs_if hE rfl rfl rfl hg355) (Gives.p hE rfl) rfl ?_; clear hE a; intro a hE
                          refine WL.vS hS hE (runs_if hE rfl rfl rfl hg355) (Gives.p hE rfl) rfl ?_; clear hE a; intro a hE
                          refine WL.vS hS hE (runs_plain rfl) (Gives.pickT hE rfl hg355 rfl) rfl ?_; clear hE a; intro a hE
                          refine WL.vS hS hE (runs_plain rfl) (Gives.p hE rfl) rfl ?_; clear hE a; intro a hE
                          rcases Bool.eq_false_or_eq_true (decide (((k58 : Nat) : Int) > 0)) with hg356 | hg356
                          · replace hq348 := iteT hg356 hq348
                            refine WL.vS hS hE (runs_if hE rfl rfl rfl hg356) (Gives.p hE rfl) rfl ?_; clear hE a; intro a hE
                            refine WL.vS hS hE (runs_if hE rfl rfl rfl hg356) (Gives.neSt hE rfl rfl) rfl ?_; clear hE a; intro a hE
                            refine WL.vS hS hE (runs_plain rfl) (Gives.pickT hE rfl hg356 rfl) rfl ?_; clear hE a; intro a hE
                            refine WL.vS hS hE (runs_plain rfl) (Gives.p hE rfl) rfl ?_; clear hE a; intro a hE
                            refine WL.nil ?_
                            subst hK353
                            exact ⟨!(seq q67 (str [116, 117, 114, 110])), hq348, hE.pick _ ⟨rfl, rfl, rfl, rfl, rfl, rfl, rfl, rfl, rfl, trivial⟩, hS⟩
                          · replace hq348 := iteF hg356 hq348
                            refine WL.no hE (runs_not hE rfl rfl rfl (by rw [hg356]; decide)) rfl ?_; clear hE a; intro a hE
                            refine WL.no hE (runs_not hE rfl rfl rfl (by rw [hg356]; decide)) rfl ?_; clear hE a; intro a hE
                            refine WL.vS hS hE (runs_plain rfl) (Gives.pickF hE rfl hg356 rfl) rfl ?_; clear hE a; intro a hE
                            refine WL.vS hS hE (runs_plain rfl) (Gives.p hE rfl) rfl ?_; clear hE a; intro a hE
                            refine WL.nil ?_
                            subst hK353
                            exact ⟨false, hq348, hE.pick _ ⟨rfl, rfl, rfl, rfl, rfl, rfl, rfl, rfl, rfl, trivial⟩, hS⟩
                        · replace hq348 := iteF hg355 hq348
                          refine WL.no hE (runs_not hE rfl rfl rfl (by rw [hg355]; decide)) rfl ?_; clear hE a; intro a hE
                          refine WL.no hE (runs_not hE rfl rfl rfl (by rw [hg355]; decide)) rfl ?_; clear hE a; intro a hE
                          refine WL.vS hS hE (runs_plain rfl) (Gives.pickF hE rfl hg355 rfl) rfl ?_; clear hE a; intro a hE
                          refine WL.vS hS hE (runs_plain rfl) (Gives.p hE rfl) rfl ?_; clear hE a; intro a hE
                          refine WL.no hE (runs_not hE rfl rfl rfl (by decide)) rfl ?_; clear hE a; intro a hE
                          refine WL.no hE (runs_not hE rfl rfl rfl (by decide)) rfl ?_; clear hE a; intro a hE
                          refine WL.vS hS hE (runs_plain rfl) (Gives.pickF hE rfl rfl rfl) rfl ?_; clear hE a; intro a hE
                          refine WL.vS hS hE (runs_plain rfl) (Gives.p hE rfl) rfl ?_; clear hE a; intro a hE
                          refine WL.nil ?_
                          subst hK353
                          exact ⟨false, hq348, hE.pick _ ⟨rfl, rfl, rfl, rfl, rfl, rfl, rfl, rfl, rfl, trivial⟩, hS⟩
                      · replace hq348 := iteF hg354 hq348
                        refine WL.no hE (runs_not hE rfl rfl rfl (by rw [hg354]; decide)) rfl ?_; clear hE a; intro a hE
                        refine WL.no hE (runs_not hE rfl rfl rfl (by rw [hg354]; decide)) rfl ?_; clear hE a; intro a hE
                        refine WL.no hE (runs_not hE rfl rfl rfl (by rw [hg354]; decide)) rfl ?_; clear hE a; intro a hE
                        refine WL.vS hS hE (runs_plain rfl) (Gives.pickF hE rfl hg354 rfl) rfl ?_; clear hE a; intro a hE
                        refine WL.vS hS hE (runs_plain rfl) (Gives.p hE rfl) rfl ?_; clear hE a; intro a hE
                        refine WL.no hE (runs_not hE rfl rfl rfl (by decide)) rfl ?_; clear hE a; intro a hE
                        refine WL.no hE (runs_not hE rfl rfl rfl (by decide)) rfl ?_; clear hE a; intro a hE
                        refine WL.vS hS hE (runs_plain rfl) (Gives.pickF hE rfl rfl rfl) rfl ?_; clear hE a; intro a hE
                        refine WL.vS hS hE (runs_plain rfl) (Gives.p hE rfl) rfl ?_; clear hE a; intro a hE
                        refine WL.no hE (runs_not hE rfl rfl rfl (by decide)) rfl ?_; clear hE a; intro a hE
                        refine WL.no hE (runs_not hE rfl rfl rfl (by decide)) rfl ?_; clear hE a; intro a hE
                        refine WL.vS hS hE (runs_plain rfl) (Gives.pickF hE rfl rfl rfl) rfl ?_; clear hE a; intro a hE
                        refine WL.vS hS hE (runs_plain rfl) (Gives.p hE rfl) rfl ?_; clear hE a; intro a hE
                        refine WL.nil ?_
                        subst hK353
                        exact ⟨false, hq348, hE.pick _ ⟨rfl, rfl, rfl, rfl, rfl, rfl, rfl, rfl, rfl, trivial⟩, hS⟩
                    · clear hE hS a w; rintro a w ⟨q352, rfl, hE, hS⟩
                      refine W.seq ?_
                      refine W.region ?_
                      refine WL.vS hS hE (runs_plain rfl) (Gives.p hE rfl) rfl ?_; clear hE a; intro a hE
                      refine WL.nil ?_
                      obtain ⟨q358, hq357, hq328⟩ := bindS hq328
                      refine W.cut (fun a w => ∃ (q361 : List ApiTrain), ∃ (cs365 : HotD), ∃ (s359 : Sg), s101.Le s359 ∧ q361 = q358 ∧ HEv 4 HtApiTrain s359 cs365 q361 ∧ q361.length = q76.length ∧ Rep a 165 [(2, .pointer (some ⟨b51, 0, none⟩)), (4, .pointer (some ⟨b52, 0, none⟩)), (8, .slice (some ⟨b97, 0, none⟩) q95.length q95.length), (10, .bool q352), (12, .slice a0 x0.length c0), (13, .int .i64 ((x0).length : Int)), (14, .int .i64 ((k58 : Nat) : Int))] ∧ St w s359 (vecC 23 1 a84 c85 q83.length cs88 :: hotC 67 4 a77 c78 q76.length cs365 :: pt b52 (.cells #[.slice a77 q76.length c78, .slice a84 q83.length c85] 33 (0, 0)) :: pt b51 (.cells #[.slice a69 q68.length c70, .slice a73 q72.length c74] 33 (0, 0)) :: R)) ?_ ?_
                      · refine W.gen fun K367 hK367 => ?_
                        refine W.cond hE rfl (fun hc368 => ?_) (fun hc368 => ?_)
                        · replace hq357 := iteT hc368 hq357
                          have hF := hS.fixD RI.mono 0 rfl h119 rfl; clear hS; obtain ⟨s369, hle370, hS, h371⟩ := hF
                          replace h103 := Sl.mono RS.mono hle370 h103
                          replace h0 := Sl.mono RS.mono hle370 h0
                          replace h86 := Ev.mono (RL.mono RI.mono) hle370 h86
                          replace h79 := HEv.mono HtApiTrain.mono hle370 h79
                          replace h71 := Sl.mono RApiTrain.mono hle370 h71
                          replace h75 := Sl.mono (RL.mono RI.mono) hle370 h75
                          refine W.gen fun K372 hK372 => ?_
                          refine W.regionE (sel (fun w => St w s369 (vecC 23 1 a84 c85 q83.length cs88 :: hotC 67 4 a77 c78 q76.length cs81 :: pt b52 (.cells #[.slice a77 q76.length c78, .slice a84 q83.length c85] 33 (0, 0)) :: pt b51 (.cells #[.slice a69 q68.length c70, .slice a73 q72.length c74] 33 (0, 0)) :: R)) (fun w => St w s369 (vecC 23 1 a84 c85 q83.length cs88 :: pt b52 (.cells #[.slice a77 q76.length c78, .slice a84 q83.length c85] 33 (0, 0)) :: pt b51 (.cells #[.slice a69 q68.length c70, .slice a73 q72.length c74] 33 (0, 0)) :: R))) (fun b i => cond b ([0, 1, 2, 3, 4, 5, 6, 7, 8, 9, 10, 12, 13].contains i) ([0, 1, 2, 3, 4, 5, 6, 7, 8, 9, 10, 11, 12, 13, 14].contains i)) mixed ?_
                          replace hS := hS.drew
                          refine Rg.takeP (i := 0) hE rfl (by kernel_rfl) (runs_plain rfl) (Gives.fld hE rfl fl33_0) rfl (tw_sel (fun _ => hS) (fun _ => (hS.dropAt 1))) ?_; clear hE a; intro a hE
                          have hT := tw_sel (A := fun w => St w s369 (vecC 23 1 a84 c85 q83.length cs88 :: hotC 67 4 a77 c78 q76.length cs81 :: pt b52 (.cells #[.slice a77 q76.length c78, .slice a84 q83.length c85] 33 (0, 0)) :: pt b51 (.cells #[.slice a69 q68.length c70, .slice a73 q72.length c74] 33 (0, 0)) :: R)) (B := fun w => St w s369 (vecC 23 1 a84 c85 q83.length cs88 :: pt b52 (.cells #[.slice a77 q76.length c78, .slice a84 q83.length c85] 33 (0, 0)) :: pt b51 (.cells #[.slice a69 q68.length c70, .slice a73 q72.length c74] 33 (0, 0)) :: R)) (w := _) (x := true) (y := true) (fun _ => hS) (fun _ => (hS.dropAt 1))
                          have hF := hS; replace hS := (hS.dropAt 1)
                          refine Rg.take (i := 1) false rfl hE rfl (by kernel_rfl) (runs_plain rfl) (Gives.loadB hE 1 rfl rfl rfl ty30) rfl hT ?_; clear hE a; intro a hE
                          replace hS := hF; clear hF hT
                          refine Rg.takeP (i := 2) hE rfl (by kernel_rfl) (runs_plain rfl) (Gives.p hE rfl) rfl (tw_sel (fun _ => hS) (fun _ => (hS.dropAt 1))) ?_; clear hE a; intro a hE
                          refine Rg.takeP (i := 3) hE rfl (by kernel_rfl) (runs_plain rfl) (Gives.fld hE rfl fl33_0) rfl (tw_sel (fun _ => hS) (fun _ => (hS.dropAt 1))) ?_; clear hE a; intro a hE
                          have hT := tw_sel (A := fun w => St w s369 (vecC 23 1 a84 c85 q83.length cs88 :: hotC 67 4 a77 c78 q76.length cs81 :: pt b52 (.cells #[.slice a77 q76.length c78, .slice a84 q83.length c85] 33 (0, 0)) :: pt b51 (.cells #[.slice a69 q68.length c70, .slice a73 q72.length c74] 33 (0, 0)) :: R)) (B := fun w => St w s369 (vecC 23 1 a84 c85 q83.length cs88 :: pt b52 (.cells #[.slice a77 q76.length c78, .slice a84 q83.length c85] 33 (0, 0)) :: pt b51 (.cells #[.slice a69 q68.length c70, .slice a73 q72.length c74] 33 (0, 0)) :: R)) (w := _) (x := true) (y := true) (fun _ => hS) (fun _ => (hS.dropAt 1))
                          have hF := hS; replace hS := (hS.dropAt 1)
                          refine Rg.take (i := 4) false rfl hE rfl (by kernel_rfl) (runs_plain rfl) (Gives.loadB hE 1 rfl rfl rfl ty30) rfl hT ?_; clear hE a; intro a hE
                          replace hS := hF; clear hF hT
                          refine Rg.takeP (i := 5) hE rfl (by kernel_rfl) (runs_plain rfl) (Gives.p hE rfl) rfl (tw_sel (fun _ => hS) (fun _ => (hS.dropAt 1))) ?_; clear hE a; intro a hE
                          obtain ⟨x373, hx374, hq357⟩ := bindS hq357
                          obtain ⟨hi375, hlt376, hy377⟩ := gx_some hx374
                          have haok_ := (hS.hotOpen 1 rfl).vecAok 0 rfl (by omega : (w64 (((q76.length : Nat) : Int) - 1)).toNat < q76.length)
                          refine Rg.takeP (i := 6) hE rfl (by kernel_rfl) (runs_plain rfl) (Gives.idx hE ((w64 (((q76.length : Nat) : Int) - 1)).toNat) rfl rfl sl30 hi375 (by omega) haok_) rfl (tw_sel (fun _ => hS) (fun _ => (hS.dropAt 1))) ?_; clear hE a; intro a hE
                          refine Rg.takeP (i := 7) hE rfl (by kernel_rfl) (runs_plain rfl) (Gives.fld hE rfl fl67_3) rfl (tw_sel (fun _ => hS) (fun _ => (hS.dropAt 1))) ?_; clear hE a; intro a hE
                          have hT := tw_sel (A := fun w => St w s369 (vecC 23 1 a84 c85 q83.length cs88 :: hotC 67 4 a77 c78 q76.length cs81 :: pt b52 (.cells #[.slice a77 q76.length c78, .slice a84 q83.length c85] 33 (0, 0)) :: pt b51 (.cells #[.slice a69 q68.length c70, .slice a73 q72.length c74] 33 (0, 0)) :: R)) (B := fun w => St w s369 (vecC 23 1 a84 c85 q83.length cs88 :: pt b52 (.cells #[.slice a77 q76.length c78, .slice a84 q83.length c85] 33 (0, 0)) :: pt b51 (.cells #[.slice a69 q68.length c70, .slice a73 q72.length c74] 33 (0, 0)) :: R)) (w := _) (x := true) (y := true) (fun _ => hS) (fun _ => (hS.dropAt 1))
                          have hF := hS; replace hS := hS
                          obtain ⟨H378, hH379, hO380⟩ := HEv.at h79 hy377
                          obtain ⟨a383, c384, n385, cs386, a390, c391, n392, cs393, e381, e382, h387, hn388, h394, hn395⟩ := hO380
                          subst e382
                          refine Rg.take (i := 8) true rfl hE rfl (by kernel_rfl) (runs_plain rfl) (Gives.load1 hE rfl (fun w h => (St.hotSees h 1 rfl e381 rfl).one (j := 3) rfl) ty31) rfl hT ?_; clear hE a; intro a hE
                          replace hS := hF; clear hF hT
                          refine Rg.takeP (i := 9) hE rfl (by kernel_rfl) (runs_plain rfl) (Gives.p hE rfl) rfl (tw_sel (fun _ => hS) (fun _ => (hS.dropAt 1))) ?_; clear hE a; intro a hE
                          refine Rg.one (i := 10) true true rfl (by kernel_rfl) (by kernel_rfl) (by kernel_rfl) ?_
                          refine WL.lit hE hS (e := 23) (es := 1) (vs := [(0, .slice a115 q113.1.length c116)]) (cs := [.slice a115 q113.1.length c116]) (runs_plain rfl) rfl (by kernel_rfl) rfl ?_; clear hE hS a w; intro b397 a w hE hS
                          refine WL.nil ?_
                          refine ⟨⟨fun _ => (hS.tail), fun _ => ((hS.tail).dropAt 1)⟩, ?_⟩
                          refine Rg.one (i := 11) false true rfl (by kernel_rfl) (by kernel_rfl) (by kernel_rfl) ?_
                          replace hS := hS.hotOpen 2 rfl
                          have lk398 := OLink.hole h79.link (w64 (((q76.length : Nat) : Int) - 1)).toNat; have hl399 := h79.len
                          replace hS : St _ s369 (vecC 64 4 a383 c384 n385 cs386 :: vecC 23 1 a390 c391 n392 cs393 :: vecC 67 4 a77 c78 q76.length cs81.cs :: allC (List.eraseIdx cs81.hs ((w64 (((q76.length : Nat) : Int) - 1)).toNat)) :: pt b397 (.cells #[.slice a115 q113.1.length c116] 23 (0, 0)) :: vecC 23 1 a84 c85 q83.length cs88 :: pt b52 (.cells #[.slice a77 q76.length c78, .slice a84 q83.length c85] 33 (0, 0)) :: pt b51 (.cells #[.slice a69 q68.length c70, .slice a73 q72.length c74] 33 (0, 0)) :: R) := St.oOpen hS 1 rfl hH379
                          replace hS := hS.front 4 rfl
                          obtain ⟨x401, hx402, hq357⟩ := bindS hq357
                          refine WL.appD hE hS 1 (m := 1) (runs_plain rfl) rfl rfl rfl ap31 rfl h394 hn395 (xs := [q113.1]) (Ev.cons (c1 := [.slice a115 q113.1.length c116]) ⟨_, _, rfl, h371⟩ rfl (Ev.nil)) rfl rfl hx402 rfl ?_; clear hE hS a w; intro a403 c404 cs405 a w h406 hE hS
                          refine WL.nil ?_
                          refine ⟨⟨fun h => absurd h (by decide), fun _ => ((((hS.tail).tail).tail).tail)⟩, ?_⟩
                          have hlt_ := hlt376
                          have haok_ := hS.vecAok 2 rfl (by omega : (w64 (((q76.length : Nat) : Int) - 1)).toNat < q76.length)
                          refine Rg.takeP (i := 12) hE rfl (by kernel_rfl) (runs_plain rfl) (Gives.idx hE ((w64 (((q76.length : Nat) : Int) - 1)).toNat) rfl rfl sl30 hi375 (by omega) haok_) rfl (tw_sel (fun h => absurd h (by decide)) (fun _ => ((((hS.tail).tail).tail).tail))) ?_; clear hE a; intro a hE
                          refine Rg.takeP (i := 13) hE rfl (by kernel_rfl) (runs_plain rfl) (Gives.fld hE rfl fl67_3) rfl (tw_sel (fun h => absurd h (by decide)) (fun _ => ((((hS.tail).tail).tail).tail))) ?_; clear hE a; intro a hE
                          refine Rg.one (i := 14) false true rfl (by kernel_rfl) (by kernel_rfl) (by kernel_rfl) ?_
                          have hf407 : (w64 (((q76.length : Nat) : Int) - 1)).toNat * 4 + 3 < cs81.cs.length := by rw [hl399]; have hk_ := (List.getElem?_eq_some_iff.1 hy377).1; omega
                          refine WL.storeV (vs := [.slice a403 x401.length c404]) (sa := a77) (p := (w64 (((q76.length : Nat) : Int) - 1)).toNat * 4 + 3) hE hS 2 rfl (runs_plain rfl) rfl rfl rfl ty31 rfl (by have h1_ := (hS.vec 2 rfl).1; simp only [List.length_cons, List.length_nil]; omega) (by have h1_ := (hS.vec 2 rfl).1; omega) rfl ?_; clear hE hS a w; intro a w hE hS
                          have lk408 := OLinkH.put (v := .slice a403 x401.length c404) lk398 (by decide : 3 < 4) hf407; have hl409 := (putc_len (v := .slice a403 x401.length c404) hf407).trans hl399
                          have hd410 : (List.drop ((w64 (((q76.length : Nat) : Int) - 1)).toNat * 4) (putc cs81.cs ((w64 (((q76.length : Nat) : Int) - 1)).toNat * 4 + 3) (.slice a403 x401.length c404 : Value))).take 4 = [.int .i64 x373.No, .int .i64 x373.Stock, .slice a383 n385 c384, .slice a403 x401.length c404] := el_put e381 (by decide) hf407
                          refine WL.nil ?_
                          refine ⟨⟨fun h => absurd h (by decide), fun _ => ((((hS.tail).tail).tail).tail)⟩, ?_⟩
                          refine Rg.done (by kernel_rfl) ?_
                          subst hK372
                          replace hS := hS.front 1 rfl
                          replace hS := hS.front 1 rfl
                          replace hS : St _ s369 (vecC 67 4 a77 c78 q76.length (putc cs81.cs ((w64 (((q76.length : Nat) : Int) - 1)).toNat * 4 + 3) (.slice a403 x401.length c404 : Value)) :: allC (List.set cs81.hs ((w64 (((q76.length : Nat) : Int) - 1)).toNat) (allC [vecC 64 4 a383 c384 n385 cs386, vecC 23 1 a403 c404 x401.length cs405])) :: vecC 23 1 a84 c85 q83.length cs88 :: pt b52 (.cells #[.slice a77 q76.length c78, .slice a84 q83.length c85] 33 (0, 0)) :: pt b51 (.cells #[.slice a69 q68.length c70, .slice a73 q72.length c74] 33 (0, 0)) :: R) := St.oClose (ps := [vecC 64 4 a383 c384 n385 cs386, vecC 23 1 a403 c404 x401.length cs405]) (hs := cs81.hs) (k := (w64 (((q76.length : Nat) : Int) - 1)).toNat) hS 1 rfl (List.getElem?_eq_some_iff.1 hH379).1
                          replace hS := hS.front 1 rfl
                          replace hS := hS.front 1 rfl
                          have h412 : HEv 4 HtApiTrain s369 (HotD.mk (putc cs81.cs ((w64 (((q76.length : Nat) : Int) - 1)).toNat * 4 + 3) (.slice a403 x401.length c404 : Value)) (List.set cs81.hs ((w64 (((q76.length : Nat) : Int) - 1)).toNat) (allC [vecC 64 4 a383 c384 n385 cs386, vecC 23 1 a403 c404 x401.length cs405]))) (List.set q76 ((w64 (((q76.length : Nat) : Int) - 1)).toNat) (ApiTrain.mk x373.No x373.Stock x373.Stops x401)) := HEv.close lk408 hl409 hd410 ⟨_, _, _, _, _, _, _, _, rfl, rfl, h387, hn388, h406, (rfl)⟩
                          have hn413 : (List.set q76 ((w64 (((q76.length : Nat) : Int) - 1)).toNat) (ApiTrain.mk x373.No x373.Stock x373.Stops x401)).length = q76.length := List.length_set.trans rfl
                          replace hS : St _ s369 (hotC 67 4 a77 c78 q76.length (HotD.mk (putc cs81.cs ((w64 (((q76.length : Nat) : Int) - 1)).toNat * 4 + 3) (.slice a403 x401.length c404 : Value)) (List.set cs81.hs ((w64 (((q76.length : Nat) : Int) - 1)).toNat) (allC [vecC 64 4 a383 c384 n385 cs386, vecC 23 1 a403 c404 x401.length cs405]))) :: vecC 23 1 a84 c85 q83.length cs88 :: pt b52 (.cells #[.slice a77 q76.length c78, .slice a84 q83.length c85] 33 (0, 0)) :: pt b51 (.cells #[.slice a69 q68.length c70, .slice a73 q72.length c74] 33 (0, 0)) :: R) := St.hotClose hS
                          generalize HotD.mk (putc cs81.cs ((w64 (((q76.length : Nat) : Int) - 1)).toNat * 4 + 3) (.slice a403 x401.length c404 : Value)) (List.set cs81.hs ((w64 (((q76.length : Nat) : Int) - 1)).toNat) (allC [vecC 64 4 a383 c384 n385 cs386, vecC 23 1 a403 c404 x401.length cs405])) = cs411 at hS h412
                          replace hS := hS.front 3 rfl
                          replace hS := hS.front 3 rfl
                          replace hS := hS.front 2 rfl
                          replace hS := hS.front 3 rfl
                          subst hK367
                          exact ⟨(List.set q76 ((w64 (((q76.length : Nat) : Int) - 1)).toNat) (ApiTrain.mk x373.No x373.Stock x373.Stops x401)), cs411, s369, hle370, Option.some.inj hq357, h412, hn413, hE.pick _ ⟨rfl, rfl, rfl, rfl, rfl, rfl, rfl, trivial⟩, hS⟩
                        · replace hq357 := iteF hc368 hq357
                          refine W.skip ?_
                          replace hS := hS.tail
                          subst hK367
                          exact ⟨q76, cs81, s101, (Sg.Le.refl _), Option.some.inj hq357, h79, rfl, hE.pick _ ⟨rfl, rfl, rfl, rfl, rfl, rfl, rfl, trivial⟩, hS⟩
                      · clear hE hS a w; rintro a w ⟨q361, cs365, s359, hle360, rfl, h364, hn366, hE, hS⟩
                        replace h103 := Sl.mono RS.mono hle360 h103
                        replace h0 := Sl.mono RS.mono hle360 h0
                        replace h86 := Ev.mono (RL.mono RI.mono) hle360 h86
                        replace h79 := HEv.mono HtApiTrain.mono hle360 h79
                        replace h71 := Sl.mono RApiTrain.mono hle360 h71
                        replace h75 := Sl.mono (RL.mono RI.mono) hle360 h75
                        subst hK346
                        exact ⟨q352, q361, q83, cs365, a84, c85, q83.length, cs88, s359, hle360, Option.some.inj hq328, h364, hn366, h86, rfl, hE.pick _ ⟨rfl, rfl, rfl, rfl, rfl, rfl, rfl, trivial⟩, hS⟩
                  · replace hq328 := iteF hc347 hq328
                    refine W.seq ?_
                    refine W.region ?_
                    refine WL.vS hS hE (runs_plain rfl) (Gives.eqSt hE rfl rfl) rfl ?_; clear hE a; intro a hE
                    refine WL.vS hS hE (runs_plain rfl) (Gives.p hE rfl) rfl ?_; clear hE a; intro a hE
                    refine WL.nil ?_
                    obtain ⟨q415, hq414, hq328⟩ := bindS hq328
                    refine W.cut (fun a w => ∃ (q418 : Bool), ∃ (q419 : List (List Int)), ∃ (a420 : Option Addr), ∃ (c421 : Nat), ∃ (n423 : Nat), ∃ (cs424 : List Value), ∃ (s416 : Sg), s101.Le s416 ∧ (q418, q419) = q415 ∧ Ev 1 (RL 1 (RI .i64)) s416 cs424 q419 ∧ q419.length = n423 ∧ Rep a 165 [(2, .pointer (some ⟨b51, 0, none⟩)), (4, .pointer (some ⟨b52, 0, none⟩)), (8, .slice (some ⟨b97, 0, none⟩) q95.length q95.length), (10, .bool q418), (12, .slice a0 x0.length c0), (13, .int .i64 ((x0).length : Int)), (14, .int .i64 ((k58 : Nat) : Int))] ∧ St w s416 (vecC 23 1 a420 c421 n423 cs424 :: hotC 67 4 a77 c78 q76.length cs81 :: pt b52 (.cells #[.slice a77 q76.length c78, .slice a420 n423 c421] 33 (0, 0)) :: pt b51 (.cells #[.slice a69 q68.length c70, .slice a73 q72.length c74] 33 (0, 0)) :: R)) ?_ ?_
                    · refine W.gen fun K426 hK426 => ?_
                      refine W.cond hE rfl (fun hc427 => ?_) (fun hc427 => ?_)
                      · replace hq414 := iteT hc427 hq414
                        refine W.seq ?_
                        obtain ⟨q429, hq428, hq414⟩ := bndS hq414
                        refine W.cut (fun a w => ∃ (q432 : Bool), q432 = q429 ∧ Rep a 165 [(2, .pointer (some ⟨b51, 0, none⟩)), (4, .pointer (some ⟨b52, 0, none⟩)), (8, .slice (some ⟨b97, 0, none⟩) q95.length q95.length), (9, .slice a115 q113.1.length c116), (10, .bool q432), (12, .slice a0 x0.length c0), (13, .int .i64 ((x0).length : Int)), (14, .int .i64 ((k58 : Nat) : Int))] ∧ St w s101 (vecC 3 1 a115 c116 q113.1.length cs118 :: vecC 23 1 a84 c85 q83.length cs88 :: hotC 67 4 a77 c78 q76.length cs81 :: pt b52 (.cells #[.slice a77 q76.length c78, .slice a84 q83.length c85] 33 (0, 0)) :: pt b51 (.cells #[.slice a69 q68.length c70, .slice a73 q72.length c74] 33 (0, 0)) :: R)) ?_ ?_
                        · refine W.gen fun K433 hK433 => ?_
                          refine W.region ?_
                          refine WL.vS hS hE (runs_plain rfl) (Gives.p hE rfl) rfl ?_; clear hE a; intro a hE
                          refine WL.vS hS hE (runs_plain rfl) (Gives.p hE rfl) rfl ?_; clear hE a; intro a hE
                          rcases Bool.eq_false_or_eq_true q113.2 with hg434 | hg434
                          · replace hq428 := iteT hg434 hq428
                            refine WL.vS hS hE (runs_if hE rfl rfl rfl hg434) (Gives.p hE rfl) rfl ?_; clear hE a; intro a hE
                            refine WL.vS hS hE (runs_if hE rfl rfl rfl hg434) (Gives.len hE rfl sl23) rfl ?_; clear hE a; intro a hE
                            refine WL.vS hS hE (runs_if hE rfl rfl rfl hg434) (Gives.p hE rfl) rfl ?_; clear hE a; intro a hE
                            refine WL.vS hS hE (runs_plain rfl) (Gives.pickT hE rfl hg434 rfl) rfl ?_; clear hE a; intro a hE
                            refine WL.vS hS hE (runs_plain rfl) (Gives.p hE rfl) rfl ?_; clear hE a; intro a hE
                            refine WL.nil ?_
                            subst hK433
                            exact ⟨decide (((q113.1.length : Nat) : Int) > 0), hq428, hE.pick _ ⟨rfl, rfl, rfl, rfl, rfl, rfl, rfl, rfl, trivial⟩, hS⟩
                          · replace hq428 := iteF hg434 hq428
                            refine WL.no hE (runs_not hE rfl rfl rfl (by rw [hg434]; decide)) rfl ?_; clear hE a; intro a hE
                            refine WL.no hE (runs_not hE rfl rfl rfl (by rw [hg434]; decide)) rfl ?_; clear hE a; intro a hE
                            refine WL.no hE (runs_not hE rfl rfl rfl (by rw [hg434]; decide)) rfl ?_; clear hE a; intro a hE
                            refine WL.vS hS hE (runs_plain rfl) (Gives.pickF hE rfl hg434 rfl) rfl ?_; clear hE a; intro a hE
                            refine WL.vS hS hE (runs_plain rfl) (Gives.p hE rfl) rfl ?_; clear hE a; intro a hE
                            refine WL.nil ?_
                            subst hK433
                            exact ⟨false, hq428, hE.pick _ ⟨rfl, rfl, rfl, rfl, rfl, rfl, rfl, rfl, trivial⟩, hS⟩
                        · clear hE hS a w; rintro a w ⟨q432, rfl, hE, hS⟩
                          refine W.seq ?_
                          refine W.region ?_
                          refine WL.vS hS hE (runs_plain rfl) (Gives.p hE rfl) rfl ?_; clear hE a; intro a hE
                          refine WL.nil ?_
                          obtain ⟨q436, hq435, hq414⟩ := bindS hq414
                          refine W.cut (fun a w => ∃ (q439 : List (List Int)), ∃ (a440 : Option Addr), ∃ (c441 : Nat), ∃ (n443 : Nat), ∃ (cs444 : List Value), ∃ (s437 : Sg), s101.Le s437 ∧ q439 = q436 ∧ Ev 1 (RL 1 (RI .i64)) s437 cs444 q439 ∧ q439.length = n443 ∧ Rep a 165 [(2, .pointer (some ⟨b51, 0, none⟩)), (4, .pointer (some ⟨b52, 0, none⟩)), (8, .slice (some ⟨b97, 0, none⟩) q95.length q95.length), (10, .bool q432), (12, .slice a0 x0.length c0), (13, .int .i64 ((x0).length : Int)), (14, .int .i64 ((k58 : Nat) : Int))] ∧ St w s437 (vecC 23 1 a440 c441 n443 cs444 :: hotC 67 4 a77 c78 q76.length cs81 :: pt b52 (.cells #[.slice a77 q76.length c78, .slice a440 n443 c441] 33 (0, 0)) :: pt b51 (.cells #[.slice a69 q68.length c70, .slice a73 q72.length c74] 33 (0, 0)) :: R)) ?_ ?_
                          · refine W.gen fun K446 hK446 => ?_
                            refine W.cond hE rfl (fun hc447 => ?_) (fun hc447 => ?_)
                            · replace hq435 := iteT hc447 hq435
                              refine W.region ?_
                              refine WL.vS hS hE (runs_plain rfl) (Gives.fld hE rfl fl33_1) rfl ?_; clear hE a; intro a hE
                              refine WL.vS hS hE (runs_plain rfl) (Gives.loadB hE 3 rfl rfl rfl ty31) rfl ?_; clear hE a; intro a hE
                              refine WL.vS hS hE (runs_plain rfl) (Gives.p hE rfl) rfl ?_; clear hE a; intro a hE
                              have hF := hS.fixD RI.mono 0 rfl h119 rfl; clear hS; obtain ⟨s448, hle449, hS, h450⟩ := hF
                              replace h103 := Sl.mono RS.mono hle449 h103
                              replace h0 := Sl.mono RS.mono hle449 h0
                              replace h86 := Ev.mono (RL.mono RI.mono) hle449 h86
                              replace h79 := HEv.mono HtApiTrain.mono hle449 h79
                              replace h71 := Sl.mono RApiTrain.mono hle449 h71
                              replace h75 := Sl.mono (RL.mono RI.mono) hle449 h75
                              refine WL.lit hE hS (e := 23) (es := 1) (vs := [(0, .slice a115 q113.1.length c116)]) (cs := [.slice a115 q113.1.length c116]) (runs_plain rfl) rfl (by kernel_rfl) rfl ?_; clear hE hS a w; intro b451 a w hE hS
                              obtain ⟨x452, hx453, hq435⟩ := bindS hq435
                              refine WL.appD hE hS 0 (m := 1) (runs_plain rfl) rfl rfl rfl ap31 rfl h86 rfl (xs := [q113.1]) (Ev.cons (c1 := [.slice a115 q113.1.length c116]) ⟨_, _, rfl, h450⟩ rfl (Ev.nil)) rfl rfl hx453 rfl ?_; clear hE hS a w; intro a454 c455 cs456 a w h457 hE hS
                              refine WL.vS hS hE (runs_plain rfl) (Gives.fld hE rfl fl33_1) rfl ?_; clear hE a; intro a hE
                              refine WL.storeI hE hS 2 rfl [.slice a77 q76.length c78, .slice a454 x452.length c455] (runs_plain rfl) rfl rfl rfl ty31 rfl rfl rfl rfl ?_; clear hE hS a w; intro a w hE hS
                              refine WL.nil ?_
                              subst hK446
                              exact ⟨x452, a454, c455, x452.length, cs456, s448, hle449, Option.some.inj hq435, h457, (rfl), hE.pick _ ⟨rfl, rfl, rfl, rfl, rfl, rfl, rfl, trivial⟩, hS⟩
                            · replace hq435 := iteF hc447 hq435
                              refine W.skip ?_
                              replace hS := hS.tail
                              subst hK446
                              exact ⟨q83, a84, c85, q83.length, cs88, s101, (Sg.Le.refl _), Option.some.inj hq435, h86, rfl, hE.pick _ ⟨rfl, rfl, rfl, rfl, rfl, rfl, rfl, trivial⟩, hS⟩
                          · clear hE hS a w; rintro a w ⟨q439, a440, c441, n443, cs444, s437, hle438, rfl, h442, rfl, hE, hS⟩
                            replace h103 := Sl.mono RS.mono hle438 h103
                            replace h0 := Sl.mono RS.mono hle438 h0
                            replace h86 := Ev.mono (RL.mono RI.mono) hle438 h86
                            replace h79 := HEv.mono HtApiTrain.mono hle438 h79
                            replace h71 := Sl.mono RApiTrain.mono hle438 h71
                            replace h75 := Sl.mono (RL.mono RI.mono) hle438 h75
                            subst hK426
                            exact ⟨q432, q439, a440, c441, q439.length, cs444, s437, hle438, Option.some.inj hq414, h442, rfl, hE.pick _ ⟨rfl, rfl, rfl, rfl, rfl, rfl, rfl, trivial⟩, hS⟩
                      · replace hq414 := iteF hc427 hq414
                        refine W.region ?_
                        refine WL.vS hS hE (runs_plain rfl) (Gives.p hE rfl) rfl ?_; clear hE a; intro a hE
                        refine WL.nil ?_
                        replace hS := hS.tail
                        subst hK426
                        exact ⟨false, q83, a84, c85, q83.length, cs88, s101, (Sg.Le.refl _), Option.some.inj hq414, h86, rfl, hE.pick _ ⟨rfl, rfl, rfl, rfl, rfl, rfl, rfl, trivial⟩, hS⟩
                    · clear hE hS a w; rintro a w ⟨q418, q419, a420, c421, n423, cs424, s416, hle417, rfl, h422, rfl, hE, hS⟩
                      dsimp only at hq328
                      replace h0 := Sl.mono RS.mono hle417 h0
                      replace h103 := Sl.mono RS.mono hle417 h103
                      replace h86 := Ev.mono (RL.mono RI.mono) hle417 h86
                      replace h79 := HEv.mono HtApiTrain.mono hle417 h79
                      replace h71 := Sl.mono RApiTrain.mono hle417 h71
                      replace h75 := Sl.mono (RL.mono RI.mono) hle417 h75
                      subst hK346
                      exact ⟨q418, q76, q419, cs81, a420, c421, q419.length, cs424, s416, hle417, Option.some.inj hq328, h79, rfl, h422, rfl, hE.pick _ ⟨rfl, rfl, rfl, rfl, rfl, rfl, rfl, trivial⟩, hS⟩
                · clear hE hS a w; rintro a w ⟨q332, q333, q339, cs337, a340, c341, n343, cs344, s330, hle331, rfl, h336, hn338, h342, rfl, hE, hS⟩
                  dsimp only at hq204
                  replace h0 := Sl.mono RS.mono hle331 h0
                  replace h103 := Sl.mono RS.mono hle331 h103
                  replace h86 := Ev.mono (RL.mono RI.mono) hle331 h86
                  replace h79 := HEv.mono HtApiTrain.mono hle331 h79
                  replace h71 := Sl.mono RApiTrain.mono hle331 h71
                  replace h75 := Sl.mono (RL.mono RI.mono) hle331 h75
                  subst hK222
                  exact ⟨q332, q333, q339, cs337, a340, c341, q339.length, cs344, s330, hle331, Option.some.inj hq204, h336, hn338, h342, rfl, hE.pick _ ⟨rfl, rfl, rfl, rfl, rfl, rfl, rfl, trivial⟩, hS⟩
            · clear hE hS a w; rintro a w ⟨q208, q209, q215, cs213, a216, c217, n219, cs220, s206, hle207, rfl, h212, hn214, h218, rfl, hE, hS⟩
              dsimp only at hq131
              replace h0 := Sl.mono RS.mono hle207 h0
              replace h103 := Sl.mono RS.mono hle207 h103
              replace h86 := Ev.mono (RL.mono RI.mono) hle207 h86
              replace h79 := HEv.mono HtApiTrain.mono hle207 h79
              replace h71 := Sl.mono RApiTrain.mono hle207 h71
              replace h75 := Sl.mono (RL.mono RI.mono) hle207 h75
              subst hK150
              exact ⟨q208, q209, q215, a77, c78, q76.length, cs213, a216, c217, q215.length, cs220, s206, hle207, Option.some.inj hq131, h212, hn214, h218, rfl, hE.pick _ ⟨rfl, rfl, rfl, rfl, rfl, rfl, rfl, trivial⟩, hS⟩
        · clear hE hS a w; rintro a w ⟨q135, q136, q143, a137, c138, n140, cs141, a144, c145, n147, cs148, s133, hle134, rfl, h139, rfl, h146, rfl, hE, hS⟩
          dsimp only at hq56
          replace h0 := Sl.mono RS.mono hle134 h0
          replace h103 := Sl.mono RS.mono hle134 h103
          replace h86 := Ev.mono (RL.mono RI.mono) hle134 h86
          replace h79 := HEv.mono HtApiTrain.mono hle134 h79
          replace h71 := Sl.mono RApiTrain.mono hle134 h71
          replace h75 := Sl.mono (RL.mono RI.mono) hle134 h75
          refine W.seq ?_
          refine W.seq ?_
          refine W.region ?_
          refine WL.vS hS hE (runs_plain rfl) (Gives.p hE rfl) rfl ?_; clear hE a; intro a hE
          refine WL.vS hS hE (runs_plain rfl) (Gives.p hE rfl) rfl ?_; clear hE a; intro a hE
          refine WL.nil ?_
          refine W.cond hE rfl (fun hc458 => ?_) (fun hc458 => ?_)
          · replace hq56 := iteT hc458 hq56
            refine W.seq ?_
            refine W.region ?_
            refine WL.vS hS hE (runs_plain rfl) (Gives.build hE (vs := []) [.slice none 0 0, .slice none 0 0] rfl (by kernel_rfl)) rfl ?_; clear hE a; intro a hE
            refine WL.storeI hE hS 3 rfl [.slice none 0 0, .slice none 0 0] (runs_plain rfl) rfl rfl rfl ty33 rfl rfl rfl rfl ?_; clear hE hS a w; intro a w hE hS
            refine WL.vS hS hE (runs_plain rfl) (Gives.p hE rfl) rfl ?_; clear hE a; intro a hE
            refine WL.nil ?_
            refine W.ret ?_
            subst hK90
            rw [← Option.some.inj hq56] at hr
            dsimp only at hr
            refine finG (fn := Tryd.f48) (rs := [.cell 2 33, .tmp 3]) (vs := [_, _]) hE rfl ⟨⟨_, rfl, .inl ⟨_, rfl, hS.seesAt 3 rfl, ty33⟩⟩, rfl, trivial⟩ ?_
            obtain rfl := Option.some.inj hr
            replace hS := hS.tail
            replace hS := hS.tail
            replace hS := hS.tail
            replace hS := hS.tail
            exact ⟨_, s133, rfl, (Sg.Le.trans (Sg.Le.trans hle66 hle102) hle134), ⟨_, _, _, _, rfl, Sl.nil, Sl.nil⟩, hS⟩
          · replace hq56 := iteF hc458 hq56
            refine W.skip ?_
            refine W.region ?_
            refine WL.vS hS hE (runs_plain rfl) (Gives.p hE rfl) rfl ?_; clear hE a; intro a hE
            obtain ⟨x459, hx460, hq56⟩ := bindS hq56
            obtain ⟨hi461, hlt462, hy463⟩ := gx_some hx460
            obtain ⟨cs464, hl465, hR466, hat467⟩ := h103.at hy463
            subst hR466
            refine WL.vS hS hE (runs_plain rfl) (Gives.idx hE ((0 : Int)).toNat rfl rfl sl83 hi461 hlt462 (h103.aok hlt462)) rfl ?_; clear hE a; intro a hE
            refine WL.vS hS hE (runs_plain rfl) (Gives.load1 hE rfl (fun w h => hat467 w _ h) ty9) rfl ?_; clear hE a; intro a hE
            refine WL.vS hS hE (runs_plain rfl) (Gives.p hE rfl) rfl ?_; clear hE a; intro a hE
            refine WL.nil ?_
            refine W.region ?_
            refine WL.vS hS hE (runs_plain rfl) (Gives.inc hE rfl (by have := h0.small; omega)) rfl ?_; clear hE a; intro a hE
            refine WL.vS hS hE (runs_plain rfl) (Gives.p hE rfl) rfl ?_; clear hE a; intro a hE
            refine WL.nil ?_
            subst hK90
            exact ⟨rest60.length, Nat.lt_succ_self _, rest60, k58 + 1, x459, q68, q72, q136, q143, a69, c70, a73, c74, a137, c138, q136.length, cs141, a144, c145, q143.length, cs148, s133, rfl, hd61, (Sg.Le.trans (Sg.Le.trans hle66 hle102) hle134), hq56, h71, h75, h139, rfl, h146, rfl, hE.pick _ ⟨rfl, rfl, rfl, rfl, rfl, rfl, trivial⟩, hS⟩
  · clear hE hS a w; rintro a w ⟨q67, q68, q72, q76, q83, a69, c70, a73, c74, a77, c78, n80, cs81, a84, c85, n87, cs88, s65, hle66, rfl, h71, h75, h79, rfl, h86, rfl, hE, hS⟩
    dsimp only at hr
    replace h0 := Sl.mono RS.mono hle66 h0
    replace h53 := HEv.mono HtApiTrain.mono hle66 h53
    refine W.seq ?_
    refine W.region ?_
    refine WL.vS hS hE (runs_plain rfl) (Gives.loadBA hE 2 rfl rfl ty33) rfl ?_; clear hE a; intro a hE
    refine WL.storeI hE hS 3 rfl [.slice a77 q76.length c78, .slice a84 q83.length c85] (runs_plain rfl) rfl rfl rfl ty33 rfl rfl rfl rfl ?_; clear hE hS a w; intro a w hE hS
    refine WL.vS hS hE (runs_plain rfl) (Gives.p hE rfl) rfl ?_; clear hE a; intro a hE
    refine WL.nil ?_
    refine W.ret ?_
    have hF := St.fixH HtApiTrain.mono RApiTrain.mono HtApiTrain.calms 1 hS rfl h79 rfl; clear hS; obtain ⟨s471, hle472, hS, h473⟩ := hF
    replace h86 := Ev.mono (RL.mono RI.mono) hle472 h86
    have hF := hS.fixD (RL.mono RI.mono) 0 rfl h86 rfl; clear hS; obtain ⟨s474, hle475, hS, h476⟩ := hF
    replace h473 := Sl.mono RApiTrain.mono hle475 h473
    refine finG (fn := Tryd.f48) (rs := [.cell 2 33, .tmp 3]) (vs := [_, _]) hE rfl ⟨⟨_, rfl, .inl ⟨_, rfl, hS.seesAt 1 rfl, ty33⟩⟩, rfl, trivial⟩ ?_
    obtain rfl := Option.some.inj hr
    replace hS := hS.tail
    replace hS := hS.tail
    exact ⟨_, s474, rfl, (Sg.Le.trans (Sg.Le.trans hle66 hle472) hle475), ⟨_, _, _, _, rfl, h473, h476⟩, hS⟩
set_option maxHeartbeats 8000000 in
theorem Fishref2numbersIn_ok  {w : World} {s : Sg} {R : List HP} {x0 : ApiDay} {a0_0 : Option Addr} {c0_0 : Nat} {a0_1 : Option Addr} {c0_1 : Nat} (hS : St w s (R)) (h0_0 : Sl 4 RApiTrain s a0_0 c0_0 x0.Trains) (h0_1 : Sl 1 (RL 1 (RI .i64)) s a0_1 c0_1 x0.Turns) {r : (List (List Int))} (hr : Fishref2numbersIn x0 = some r) :
    Calls Tryd.prog 37 [.agg (List.toArray [.slice a0_0 x0.Trains.length c0_0, .slice a0_1 x0.Turns.length c0_1])].toArray w (fun e w => ∃ (a0 : Option Addr) (c0 n0 : Nat) (cs0 : List Value) (t : Sg), e = .returned (.slice a0 n0 c0) ∧ s.Le t ∧ Ev 1 (RL 1 (RI .i64)) t cs0 r ∧ r.length = n0 ∧ St w t (vecC 23 1 a0 c0 n0 cs0 :: R)) := by
  refine enter Tryd.func37 rfl rfl rfl fun a hE => ?_
  rw [Fishref2numbersIn] at hr
  refine W.seq ?_
  refine W.region ?_
  refine WL.box hE hS (runs_plain rfl) rfl rfl rfl ?_; clear hE hS a w; intro b51 a w hE hS
  refine WL.vS hS hE (runs_plain rfl) (Gives.p hE rfl) rfl ?_; clear hE a; intro a hE
  refine WL.nil ?_
  refine W.seq ?_
  refine W.region ?_
  replace hS := hS.vecNil 23 1
  refine WL.vS hS hE (runs_plain rfl) (Gives.p hE rfl) rfl ?_; clear hE a; intro a hE
  refine WL.nil ?_
  refine W.seq ?_
  refine W.seq ?_
  refine W.region ?_
  refine WL.vS hS hE (runs_plain rfl) (Gives.fld hE rfl fl33_0) rfl ?_; clear hE a; intro a hE
  refine WL.vS hS hE (runs_plain rfl) (Gives.loadB hE 1 rfl rfl rfl ty30) rfl ?_; clear hE a; intro a hE
  refine WL.vS hS hE (runs_plain rfl) (Gives.len hE rfl sl30) rfl ?_; clear hE a; intro a hE
  refine WL.vS hS hE (runs_plain rfl) (Gives.p hE rfl) rfl ?_; clear hE a; intro a hE
  refine WL.nil ?_
  obtain ⟨q54, hq53, hr⟩ := bindS hr
  refine W.cut (fun a w => ∃ (q64 : List (List Int)), ∃ (a65 : Option Addr), ∃ (c66 : Nat), ∃ (n68 : Nat), ∃ (cs69 : List Value), ∃ (s62 : Sg), s.Le s62 ∧ q64 = q54 ∧ Ev 1 (RL 1 (RI .i64)) s62 cs69 q64 ∧ q64.length = n68 ∧ Rep a 52 [(1, .pointer (some ⟨b51, 0, none⟩)), (3, .slice a65 n68 c66)] ∧ St w s62 (vecC 23 1 a65 c66 n68 cs69 :: pt b51 (.cells #[.slice a0_0 x0.Trains.length c0_0, .slice a0_1 x0.Turns.length c0_1] 33 (0, 0)) :: R)) ?_ ?_
  · refine W.block ?_
    refine W.loop (fun m a w => ∃ (rest57 : List ApiTrain) (k55 : Nat), ∃ (q64 : List (List Int)), ∃ (a65 : Option Addr), ∃ (c66 : Nat), ∃ (n68 : Nat), ∃ (cs69 : List Value), ∃ (s62 : Sg), rest57.length = m ∧ x0.Trains.drop k55 = rest57 ∧ s.Le s62 ∧ Fishref2numbersIn.loop1 rest57 q64 = some q54 ∧ Ev 1 (RL 1 (RI .i64)) s62 cs69 q64 ∧ q64.length = n68 ∧ Rep a 52 [(1, .pointer (some ⟨b51, 0, none⟩)), (3, .slice a65 n68 c66), (9, .slice a0_0 x0.Trains.length c0_0), (10, .int .i64 ((x0.Trains).length : Int)), (11, .int .i64 ((k55 : Nat) : Int))] ∧ St w s62 (vecC 23 1 a65 c66 n68 cs69 :: pt b51 (.cells #[.slice a0_0 x0.Trains.length c0_0, .slice a0_1 x0.Turns.length c0_1] 33 (0, 0)) :: R)) (m := x0.Trains.length) ⟨x0.Trains, 0, [], none, 0, 0, [], s, rfl, rfl, (Sg.Le.refl _), hq53, (Ev.nil), (rfl), hE.pick _ ⟨rfl, rfl, rfl, rfl, rfl, trivial⟩, hS⟩ ?_
    clear hE hS a w hq53; rintro m61 a w ⟨rest57, k55, q64, a65, c66, n68, cs69, s62, rfl, hd58, hle63, hq53, h67, rfl, hE, hS⟩
    refine W.gen fun K71 hK71 => ?_
    replace h0_0 := Sl.mono RApiTrain.mono hle63 h0_0
    replace h0_1 := Sl.mono (RL.mono RI.mono) hle63 h0_1
    rcases rest57 with _ | ⟨x56, rest57⟩
    · have hlt59 := drop_nil hd58
      refine W.seq ?_
      refine W.region ?_
      refine WL.vS hS hE (runs_plain rfl) (Gives.p hE rfl) rfl ?_; clear hE a; intro a hE
      refine WL.nil ?_
      refine W.seq ?_
      refine W.condF hE rfl (decide_eq_false (by omega)) ?_
      subst hK71
      refine W.exit rfl ?_
      exact ⟨q64, a65, c66, q64.length, cs69, s62, hle63, Option.some.inj hq53, h67, rfl, hE.pick _ ⟨rfl, rfl, trivial⟩, hS⟩
    · obtain ⟨hlt59, hx60, hd58⟩ := drop_cons hd58
      rw [Fishref2numbersIn.loop1] at hq53
      refine W.seq ?_
      refine W.region ?_
      refine WL.vS hS hE (runs_plain rfl) (Gives.p hE rfl) rfl ?_; clear hE a; intro a hE
      refine WL.nil ?_
      refine W.seq ?_
      refine W.condT hE rfl (decide_eq_true (by omega)) ?_
      refine W.skip ?_
      refine W.seq ?_
      refine W.block ?_
      refine W.seq ?_
      refine W.region ?_
      obtain ⟨cs72, hl73, hR74, hat75⟩ := h0_0.at hx60
      obtain ⟨a76, c77, a79, c80, rfl, h78, h81⟩ := hR74
      refine WL.vS hS hE (runs_plain rfl) (Gives.idx hE k55 rfl rfl sl30 rfl hlt59 (h0_0.aok hlt59)) rfl ?_; clear hE a; intro a hE
      refine WL.vS hS hE (runs_plain rfl) (Gives.loadA hE rfl (fun w h => hat75 w _ h) ty67) rfl ?_; clear hE a; intro a hE
      refine WL.alloc hE hS (runs_plain rfl) zr67 rfl ?_; clear hE hS a w; intro b82 a w hE hS
      refine WL.storeI hE hS 0 rfl [.int .i64 x56.No, .int .i64 x56.Stock, .slice a76 x56.Stops.length c77, .slice a79 x56.Legs.length c80] (runs_plain rfl) rfl rfl rfl ty67 rfl rfl rfl rfl ?_; clear hE hS a w; intro a w hE hS
      refine WL.nil ?_
      refine W.seq ?_
      refine W.region ?_
      refine WL.vS hS hE (runs_plain rfl) (Gives.p hE rfl) rfl ?_; clear hE a; intro a hE
      refine WL.vS hS hE (runs_plain rfl) (Gives.fld hE rfl fl67_0) rfl ?_; clear hE a; intro a hE
      refine WL.vS hS hE (runs_plain rfl) (Gives.loadB hE 0 rfl rfl rfl ty3) rfl ?_; clear hE a; intro a hE
      refine WL.vS hS hE (runs_plain rfl) (Gives.fld hE rfl fl67_1) rfl ?_; clear hE a; intro a hE
      refine WL.vS hS hE (runs_plain rfl) (Gives.loadB hE 0 rfl rfl rfl ty3) rfl ?_; clear hE a; intro a hE
      refine WL.lit hE hS (e := 3) (es := 1) (vs := [(0, .int .i64 x56.No), (1, .int .i64 x56.Stock)]) (cs := [.int .i64 x56.No, .int .i64 x56.Stock]) (runs_plain rfl) rfl (by kernel_rfl) rfl ?_; clear hE hS a w; intro b83 a w hE hS
      replace hS := hS.ptVec (es := 1) (m := 2) rfl (by decide)
      have h85 : Ev 1 (RI .i64) s62 [.int .i64 x56.No, .int .i64 x56.Stock] [x56.No, x56.Stock] := (Ev.cons (c1 := [.int .i64 x56.No]) rfl rfl (Ev.cons (c1 := [.int .i64 x56.Stock]) rfl rfl (Ev.nil)))
      have hF := hS.fixD RI.mono 0 rfl h85 (rfl); clear hS; obtain ⟨s86, hle87, hS, h88⟩ := hF
      replace h0_0 := Sl.mono RApiTrain.mono hle87 h0_0
      replace h78 := Sl.mono RApiStop.mono hle87 h78
      replace h81 := Sl.mono (RL.mono RI.mono) hle87 h81
      replace h67 := Ev.mono (RL.mono RI.mono) hle87 h67
      replace h0_1 := Sl.mono (RL.mono RI.mono) hle87 h0_1
      refine WL.lit hE hS (e := 23) (es := 1) (vs := [(0, .slice (some ⟨b83, 0, none⟩) 2 2)]) (cs := [.slice (some ⟨b83, 0, none⟩) 2 2]) (runs_plain rfl) rfl (by kernel_rfl) rfl ?_; clear hE hS a w; intro b89 a w hE hS
      obtain ⟨x90, hx91, hq53⟩ := bindS hq53
      refine WL.appD hE hS 1 (m := 1) (runs_plain rfl) rfl rfl rfl ap31 rfl h67 rfl (xs := [[x56.No, x56.Stock]]) (Ev.cons (c1 := [.slice (some ⟨b83, 0, none⟩) 2 2]) ⟨_, _, rfl, h88⟩ rfl (Ev.nil)) rfl rfl hx91 rfl ?_; clear hE hS a w; intro a92 c93 cs94 a w h95 hE hS
      refine WL.vS hS hE (runs_plain rfl) (Gives.p hE rfl) rfl ?_; clear hE a; intro a hE
      refine WL.nil ?_
      refine W.seq ?_
      refine W.seq ?_
      refine W.region ?_
      refine WL.vS hS hE (runs_plain rfl) (Gives.fld hE rfl fl67_2) rfl ?_; clear hE a; intro a hE
      refine WL.vS hS hE (runs_plain rfl) (Gives.loadB hE 0 rfl rfl rfl ty65) rfl ?_; clear hE a; intro a hE
      refine WL.vS hS hE (runs_plain rfl) (Gives.len hE rfl sl65) rfl ?_; clear hE a; intro a hE
      refine WL.vS hS hE (runs_plain rfl) (Gives.p hE rfl) rfl ?_; clear hE a; intro a hE
      refine WL.nil ?_
      obtain ⟨q97, hq96, hq53⟩ := bindS hq53
      refine W.cut (fun a w => ∃ (q107 : List (List Int)), ∃ (a108 : Option Addr), ∃ (c109 : Nat), ∃ (n111 : Nat), ∃ (cs112 : List Value), ∃ (s105 : Sg), s86.Le s105 ∧ q107 = q97 ∧ Ev 1 (RL 1 (RI .i64)) s105 cs112 q107 ∧ q107.length = n111 ∧ Rep a 52 [(1, .pointer (some ⟨b51, 0, none⟩)), (3, .slice a108 n111 c109), (5, .pointer (some ⟨b82, 0, none⟩)), (9, .slice a0_0 x0.Trains.length c0_0), (10, .int .i64 ((x0.Trains).length : Int)), (11, .int .i64 ((k55 : Nat) : Int))] ∧ St w s105 (pt b82 (.cells #[.int .i64 x56.No, .int .i64 x56.Stock, .slice a76 x56.Stops.length c77, .slice a79 x56.Legs.length c80] 67 (0, 0)) :: vecC 23 1 a108 c109 n111 cs112 :: pt b51 (.cells #[.slice a0_0 x0.Trains.length c0_0, .slice a0_1 x0.Turns.length c0_1] 33 (0, 0)) :: R)) ?_ ?_
      · refine W.block ?_
        refine W.loop (fun m a w => ∃ (rest100 : List ApiStop) (k98 : Nat), ∃ (q107 : List (List Int)), ∃ (a108 : Option Addr), ∃ (c109 : Nat), ∃ (n111 : Nat), ∃ (cs112 : List Value), ∃ (s105 : Sg), rest100.length = m ∧ x56.Stops.drop k98 = rest100 ∧ s86.Le s105 ∧ Fishref2numbersIn.loop2 rest100 q107 = some q97 ∧ Ev 1 (RL 1 (RI .i64)) s105 cs112 q107 ∧ q107.length = n111 ∧ Rep a 52 [(1, .pointer (some ⟨b51, 0, none⟩)), (3, .slice a108 n111 c109), (5, .pointer (some ⟨b82, 0, none⟩)), (9, .slice a0_0 x0.Trains.length c0_0), (10, .int .i64 ((x0.Trains).length : Int)), (11, .int .i64 ((k55 : Nat) : Int)), (24, .slice a76 x56.Stops.length c77), (25, .int .i64 ((x56.Stops).length : Int)), (26, .int .i64 ((k98 : Nat) : Int))] ∧ St w s105 (pt b82 (.cells #[.int .i64 x56.No, .int .i64 x56.Stock, .slice a76 x56.Stops.length c77, .slice a79 x56.Legs.length c80] 67 (0, 0)) :: vecC 23 1 a108 c109 n111 cs112 :: pt b51 (.cells #[.slice a0_0 x0.Trains.length c0_0, .slice a0_1 x0.Turns.length c0_1] 33 (0, 0)) :: R)) (m := x56.Stops.length) ⟨x56.Stops, 0, x90, a92, c93, x90.length, cs94, s86, rfl, rfl, (Sg.Le.refl _), hq96, h95, (rfl), hE.pick _ ⟨rfl, rfl, rfl, rfl, rfl, rfl, rfl, rfl, rfl, trivial⟩, hS⟩ ?_
        clear hE hS a w hq96; rintro m104 a w ⟨rest100, k98, q107, a108, c109, n111, cs112, s105, rfl, hd101, hle106, hq96, h110, rfl, hE, hS⟩
        refine W.gen fun K114 hK114 => ?_
        replace h0_0 := Sl.mono RApiTrain.mono hle106 h0_0
        replace h78 := Sl.mono RApiStop.mono hle106 h78
        replace h81 := Sl.mono (RL.mono RI.mono) hle106 h81
        replace h88 := Sl.mono RI.mono hle106 h88
        replace h95 := Ev.mono (RL.mono RI.mono) hle106 h95
        replace h0_1 := Sl.mono (RL.mono RI.mono) hle106 h0_1
        rcases rest100 with _ | ⟨x99, rest100⟩
        · have hlt102 := drop_nil hd101
          refine W.seq ?_
          refine W.region ?_
          refine WL.vS hS hE (runs_plain rfl) (Gives.p hE rfl) rfl ?_; clear hE a; intro a hE
          refine WL.nil ?_
          refine W.seq ?_
          refine W.condF hE rfl (decide_eq_false (by omega)) ?_
          subst hK114
          refine W.exit rfl ?_
          exact ⟨q107, a108, c109, q107.length, cs112, s105, hle106, Option.some.inj hq96, h110, rfl, hE.pick _ ⟨rfl, rfl, rfl, rfl, rfl, rfl, trivial⟩, hS⟩
        · obtain ⟨hlt102, hx103, hd101⟩ := drop_cons hd101
          rw [Fishref2numbersIn.loop2] at hq96
          refine W.seq ?_
          refine W.region ?_
          refine WL.vS hS hE (runs_plain rfl) (Gives.p hE rfl) rfl ?_; clear hE a; intro a hE
          refine WL.nil ?_
          refine W.seq ?_
          refine W.condT hE rfl (decide_eq_true (by omega)) ?_
          refine W.skip ?_
          refine W.seq ?_
          refine W.block ?_
          refine W.seq ?_
          refine W.region ?_
          obtain ⟨cs115, hl116, hR117, hat118⟩ := h78.at hx103
          subst hR117
          refine WL.vS hS hE (runs_plain rfl) (Gives.idx hE k98 rfl rfl sl65 rfl hlt102 (h78.aok hlt102)) rfl ?_; clear hE a; intro a hE
          refine WL.vS hS hE (runs_plain rfl) (Gives.loadA hE rfl (fun w h => hat118 w _ h) ty64) rfl ?_; clear hE a; intro a hE
          refine WL.alloc hE hS (runs_plain rfl) zr64 rfl ?_; clear hE hS a w; intro b119 a w hE hS
          refine WL.storeI hE hS 0 rfl (ApiStop.cells x99) (runs_plain rfl) rfl rfl rfl ty64 rfl rfl rfl rfl ?_; clear hE hS a w; intro a w hE hS
          refine WL.nil ?_
          refine W.region ?_
          refine WL.vS hS hE (runs_plain rfl) (Gives.p hE rfl) rfl ?_; clear hE a; intro a hE
          refine WL.vS hS hE (runs_plain rfl) (Gives.fld hE rfl fl64_0) rfl ?_; clear hE a; intro a hE
          refine WL.vS hS hE (runs_plain rfl) (Gives.loadB hE 0 rfl rfl rfl ty3) rfl ?_; clear hE a; intro a hE
          refine WL.vS hS hE (runs_plain rfl) (Gives.fld hE rfl fl64_1) rfl ?_; clear hE a; intro a hE
          refine WL.vS hS hE (runs_plain rfl) (Gives.loadB hE 0 rfl rfl rfl ty3) rfl ?_; clear hE a; intro a hE
          refine WL.vS hS hE (runs_plain rfl) (Gives.fld hE rfl fl64_2) rfl ?_; clear hE a; intro a hE
          refine WL.vS hS hE (runs_plain rfl) (Gives.loadB hE 0 rfl rfl rfl ty3) rfl ?_; clear hE a; intro a hE
          refine WL.vS hS hE (runs_plain rfl) (Gives.fld hE rfl fl64_3) rfl ?_; clear hE a; intro a hE
          refine WL.vS hS hE (runs_plain rfl) (Gives.loadB hE 0 rfl rfl rfl ty3) rfl ?_; clear hE a; intro a hE
          refine WL.lit hE hS (e := 3) (es := 1) (vs := [(0, .int .i64 x99.Station), (1, .int .i64 x99.Track), (2, .int .i64 x99.Arr), (3, .int .i64 x99.Dep)]) (cs := [.int .i64 x99.Station, .int .i64 x99.Track, .int .i64 x99.Arr, .int .i64 x99.Dep]) (runs_plain rfl) rfl (by kernel_rfl) rfl ?_; clear hE hS a w; intro b120 a w hE hS
          replace hS := hS.ptVec (es := 1) (m := 4) rfl (by decide)
          have h122 : Ev 1 (RI .i64) s105 [.int .i64 x99.Station, .int .i64 x99.Track, .int .i64 x99.Arr, .int .i64 x99.Dep] [x99.Station, x99.Track, x99.Arr, x99.Dep] := (Ev.cons (c1 := [.int .i64 x99.Station]) rfl rfl (Ev.cons (c1 := [.int .i64 x99.Track]) rfl rfl (Ev.cons (c1 := [.int .i64 x99.Arr]) rfl rfl (Ev.cons (c1 := [.int .i64 x99.Dep]) rfl rfl (Ev.nil)))))
          have hF := hS.fixD RI.mono 0 rfl h122 (rfl); clear hS; obtain ⟨s123, hle124, hS, h125⟩ := hF
          replace h0_0 := Sl.mono RApiTrain.mono hle124 h0_0
          replace h78 := Sl.mono RApiStop.mono hle124 h78
          replace h81 := Sl.mono (RL.mono RI.mono) hle124 h81
          replace h110 := Ev.mono (RL.mono RI.mono) hle124 h110
          replace h0_1 := Sl.mono (RL.mono RI.mono) hle124 h0_1
          refine WL.lit hE hS (e := 23) (es := 1) (vs := [(0, .slice (some ⟨b120, 0, none⟩) 4 4)]) (cs := [.slice (some ⟨b120, 0, none⟩) 4 4]) (runs_plain rfl) rfl (by kernel_rfl) rfl ?_; clear hE hS a w; intro b126 a w hE hS
          obtain ⟨x127, hx128, hq96⟩ := bindS hq96
          refine WL.appD hE hS 2 (m := 1) (runs_plain rfl) rfl rfl rfl ap31 rfl h110 rfl (xs := [[x99.Station, x99.Track, x99.Arr, x99.Dep]]) (Ev.cons (c1 := [.slice (some ⟨b120, 0, none⟩) 4 4]) ⟨_, _, rfl, h125⟩ rfl (Ev.nil)) rfl rfl hx128 rfl ?_; clear hE hS a w; intro a129 c130 cs131 a w h132 hE hS
          refine WL.vS hS hE (runs_plain rfl) (Gives.p hE rfl) rfl ?_; clear hE a; intro a hE
          refine WL.nil ?_
          refine W.region ?_
          refine WL.vS hS hE (runs_plain rfl) (Gives.inc hE rfl (by have := h78.small; omega)) rfl ?_; clear hE a; intro a hE
          refine WL.vS hS hE (runs_plain rfl) (Gives.p hE rfl) rfl ?_; clear hE a; intro a hE
          refine WL.nil ?_
          replace hS := hS.tail
          subst hK114
          exact ⟨rest100.length, Nat.lt_succ_self _, rest100, k98 + 1, x127, a129, c130, x127.length, cs131, s123, rfl, hd101, (Sg.Le.trans hle106 hle124), hq96, h132, (rfl), hE.pick _ ⟨rfl, rfl, rfl, rfl, rfl, rfl, rfl, rfl, rfl, trivial⟩, hS⟩
      · clear hE hS a w; rintro a w ⟨q107, a108, c109, n111, cs112, s105, hle106, rfl, h110, rfl, hE, hS⟩
        replace h0_0 := Sl.mono RApiTrain.mono hle106 h0_0
        replace h78 := Sl.mono RApiStop.mono hle106 h78
        replace h81 := Sl.mono (RL.mono RI.mono) hle106 h81
        replace h88 := Sl.mono RI.mono hle106 h88
        replace h95 := Ev.mono (RL.mono RI.mono) hle106 h95
        replace h0_1 := Sl.mono (RL.mono RI.mono) hle106 h0_1
        refine W.region ?_
        refine WL.vS hS hE (runs_plain rfl) (Gives.p hE rfl) rfl ?_; clear hE a; intro a hE
        refine WL.vS hS hE (runs_plain rfl) (Gives.fld hE rfl fl67_3) rfl ?_; clear hE a; intro a hE
        refine WL.vS hS hE (runs_plain rfl) (Gives.loadB hE 0 rfl rfl rfl ty31) rfl ?_; clear hE a; intro a hE
        obtain ⟨x133, hx134, hq53⟩ := bindS hq53
        refine WL.appS hE hS 1 (runs_plain rfl) rfl rfl (xs := x56.Legs) rfl rfl ap31 RL.one h110 rfl h81 hx134 rfl ?_; clear hE hS a w; intro a135 c136 cs137 a w h138 hE hS
        refine WL.vS hS hE (runs_plain rfl) (Gives.p hE rfl) rfl ?_; clear hE a; intro a hE
        refine WL.nil ?_
        refine W.region ?_
        refine WL.vS hS hE (runs_plain rfl) (Gives.inc hE rfl (by have := h0_0.small; omega)) rfl ?_; clear hE a; intro a hE
        refine WL.vS hS hE (runs_plain rfl) (Gives.p hE rfl) rfl ?_; clear hE a; intro a hE
        refine WL.nil ?_
        replace hS := hS.tail
        subst hK71
        exact ⟨rest57.length, Nat.lt_succ_self _, rest57, k55 + 1, x133, a135, c136, x133.length, cs137, s105, rfl, hd58, (Sg.Le.trans (Sg.Le.trans hle63 hle87) hle106), hq53, h138, (rfl), hE.pick _ ⟨rfl, rfl, rfl, rfl, rfl, trivial⟩, hS⟩
  · clear hE hS a w; rintro a w ⟨q64, a65, c66, n68, cs69, s62, hle63, rfl, h67, rfl, hE, hS⟩
    replace h0_0 := Sl.mono RApiTrain.mono hle63 h0_0
    replace h0_1 := Sl.mono (RL.mono RI.mono) hle63 h0_1
    refine W.seq ?_
    refine W.region ?_
    refine WL.vS hS hE (runs_plain rfl) (Gives.p hE rfl) rfl ?_; clear hE a; intro a hE
    refine WL.vS hS hE (runs_plain rfl) (Gives.fld hE rfl fl33_1) rfl ?_; clear hE a; intro a hE
    refine WL.vS hS hE (runs_plain rfl) (Gives.loadB hE 1 rfl rfl rfl ty31) rfl ?_; clear hE a; intro a hE
    obtain ⟨x139, hx140, hr⟩ := bindS hr
    refine WL.appS hE hS 0 (runs_plain rfl) rfl rfl (xs := x0.Turns) rfl rfl ap31 RL.one h67 rfl h0_1 hx140 rfl ?_; clear hE hS a w; intro a141 c142 cs143 a w h144 hE hS
    refine WL.vS hS hE (runs_plain rfl) (Gives.p hE rfl) rfl ?_; clear hE a; intro a hE
    refine WL.nil ?_
    refine W.ret ?_
    refine finG (fn := Tryd.f37) (rs := [.tmp 2]) (vs := [_]) hE rfl ⟨rfl, trivial⟩ ?_
    obtain rfl := Option.some.inj hr
    replace hS := hS.dropAt 1
    exact ⟨a141, c142, x139.length, cs143, s62, rfl, hle63, h144, (rfl), hS⟩
set_option maxHeartbeats 8000000 in
theorem Fishref2within_ok  {w : World} {s : Sg} {R : List HP} {x0 : Int} {x1 : Int} {x2 : Int} (hS : St w s (R))  {r : Bool} (hr : Fishref2within x0 x1 x2 = r) :
    Calls Tryd.prog 30 [.int .i64 x0, .int .i64 x1, .int .i64 x2].toArray w (fun e w => e = .returned (.bool r) ∧ St w s (R)) := by
  refine enter Tryd.func30 rfl rfl rfl fun a hE => ?_
  rw [Fishref2within] at hr
  refine W.seq ?_
  refine W.region ?_
  refine WL.vS hS hE (runs_plain rfl) (Gives.p hE rfl) rfl ?_; clear hE a; intro a hE
  refine WL.nil ?_
  refine W.seq ?_
  obtain ⟨q52, hq51, hr⟩ := bndS hr
  refine W.cut (fun a w => ∃ (q55 : Bool), q55 = q52 ∧ Rep a 15 [(6, .bool q55)] ∧ St w s (R)) ?_ ?_
  · refine W.gen fun K56 hK56 => ?_
    refine W.region ?_
    refine WL.vS hS hE (runs_plain rfl) (Gives.p hE rfl) rfl ?_; clear hE a; intro a hE
    refine WL.vS hS hE (runs_plain rfl) (Gives.p hE rfl) rfl ?_; clear hE a; intro a hE
    refine WL.vS hS hE (runs_plain rfl) (Gives.p hE rfl) rfl ?_; clear hE a; intro a hE
    refine WL.vS hS hE (runs_plain rfl) (Gives.p hE rfl) rfl ?_; clear hE a; intro a hE
    rcases Bool.eq_false_or_eq_true (decide (x0 ≥ x1)) with hg57 | hg57
    · replace hq51 := iteT hg57 hq51
      refine WL.vS hS hE (runs_if hE rfl rfl rfl hg57) (Gives.p hE rfl) rfl ?_; clear hE a; intro a hE
      refine WL.vS hS hE (runs_if hE rfl rfl rfl hg57) (Gives.p hE rfl) rfl ?_; clear hE a; intro a hE
      refine WL.vS hS hE (runs_if hE rfl rfl rfl hg57) (Gives.p hE rfl) rfl ?_; clear hE a; intro a hE
      refine WL.vS hS hE (runs_plain rfl) (Gives.pickT hE rfl hg57 rfl) rfl ?_; clear hE a; intro a hE
      refine WL.vS hS hE (runs_plain rfl) (Gives.p hE rfl) rfl ?_; clear hE a; intro a hE
      refine WL.nil ?_
      subst hK56
      exact ⟨decide (x0 ≤ x2), hq51, hE.pick _ ⟨rfl, trivial⟩, hS⟩
    · replace hq51 := iteF hg57 hq51
      refine WL.no hE (runs_not hE rfl rfl rfl (by rw [hg57]; decide)) rfl ?_; clear hE a; intro a hE
      refine WL.no hE (runs_not hE rfl rfl rfl (by rw [hg57]; decide)) rfl ?_; clear hE a; intro a hE
      refine WL.no hE (runs_not hE rfl rfl rfl (by rw [hg57]; decide)) rfl ?_; clear hE a; intro a hE
      refine WL.vS hS hE (runs_plain rfl) (Gives.pickF hE rfl hg57 rfl) rfl ?_; clear hE a; intro a hE
      refine WL.vS hS hE (runs_plain rfl) (Gives.p hE rfl) rfl ?_; clear hE a; intro a hE
      refine WL.nil ?_
      subst hK56
      exact ⟨false, hq51, hE.pick _ ⟨rfl, trivial⟩, hS⟩
  · clear hE hS a w; rintro a w ⟨q55, rfl, hE, hS⟩
    refine W.ret ?_
    refine finG (fn := Tryd.f30) (rs := [.tmp 6]) (vs := [_]) hE rfl ⟨rfl, trivial⟩ ?_
    subst hr
    exact ⟨rfl, hS⟩
set_option maxHeartbeats 8000000 in
theorem Fishref2TextFault_ok  {w : World} {s : Sg} {R : List HP} {x0 : ApiDay} {a0_0 : Option Addr} {c0_0 : Nat} {a0_1 : Option Addr} {c0_1 : Nat} (hS : St w s (R)) (h0_0 : Sl 4 RApiTrain s a0_0 c0_0 x0.Trains) (h0_1 : Sl 1 (RL 1 (RI .i64)) s a0_1 c0_1 x0.Turns) {r : Int} (hr : Fishref2TextFault x0 = some r) :
    Calls Tryd.prog 13 [.agg (List.toArray [.slice a0_0 x0.Trains.length c0_0, .slice a0_1 x0.Turns.length c0_1])].toArray w (fun e w => e = .returned (.int .i64 r) ∧ St w s (R)) := by
  refine enter Tryd.func13 rfl rfl rfl fun a hE => ?_
  rw [Fishref2TextFault] at hr
  refine W.seq ?_
  refine W.region ?_
  refine WL.box hE hS (runs_plain rfl) rfl rfl rfl ?_; clear hE hS a w; intro b51 a w hE hS
  refine WL.vS hS hE (runs_plain rfl) (Gives.p hE rfl) rfl ?_; clear hE a; intro a hE
  refine WL.nil ?_
  refine W.seq ?_
  refine W.seq ?_
  obtain ⟨q53, hq52, hr⟩ := bndS hr
  refine W.cut (fun a w => ∃ (q56 : Bool), q56 = q53 ∧ Rep a 105 [(1, .pointer (some ⟨b51, 0, none⟩)), (24, .bool q56)] ∧ St w s (pt b51 (.cells #[.slice a0_0 x0.Trains.length c0_0, .slice a0_1 x0.Turns.length c0_1] 33 (0, 0)) :: R)) ?_ ?_
  · refine W.gen fun K57 hK57 => ?_
    refine W.region ?_
    refine WL.vS hS hE (runs_plain rfl) (Gives.fld hE rfl fl33_0) rfl ?_; clear hE a; intro a hE
    refine WL.vS hS hE (runs_plain rfl) (Gives.loadB hE 0 rfl rfl rfl ty30) rfl ?_; clear hE a; intro a hE
    refine WL.vS hS hE (runs_plain rfl) (Gives.len hE rfl sl30) rfl ?_; clear hE a; intro a hE
    refine WL.vS hS hE (runs_plain rfl) (Gives.p hE rfl) rfl ?_; clear hE a; intro a hE
    refine WL.vS hS hE (runs_plain rfl) (Gives.p hE rfl) rfl ?_; clear hE a; intro a hE
    rcases Bool.eq_false_or_eq_true (decide (((x0.Trains).length : Int) > 12)) with hg58 | hg58
    · replace hq52 := iteT hg58 hq52
      refine WL.no hE (runs_not hE rfl rfl rfl (by rw [hg58]; decide)) rfl ?_; clear hE a; intro a hE
      refine WL.no hE (runs_not hE rfl rfl rfl (by rw [hg58]; decide)) rfl ?_; clear hE a; intro a hE
      refine WL.no hE (runs_not hE rfl rfl rfl (by rw [hg58]; decide)) rfl ?_; clear hE a; intro a hE
      refine WL.no hE (runs_not hE rfl rfl rfl (by rw [hg58]; decide)) rfl ?_; clear hE a; intro a hE
      refine WL.vS hS hE (runs_plain rfl) (Gives.pickT hE rfl hg58 rfl) rfl ?_; clear hE a; intro a hE
      refine WL.nil ?_
      subst hK57
      exact ⟨true, hq52, hE.pick _ ⟨rfl, rfl, trivial⟩, hS⟩
    · replace hq52 := iteF hg58 hq52
      refine WL.vS hS hE (runs_if hE rfl rfl rfl hg58) (Gives.fld hE rfl fl33_1) rfl ?_; clear hE a; intro a hE
      refine WL.vS hS hE (runs_if hE rfl rfl rfl hg58) (Gives.loadB hE 0 rfl rfl rfl ty31) rfl ?_; clear hE a; intro a hE
      refine WL.vS hS hE (runs_if hE rfl rfl rfl hg58) (Gives.len hE rfl sl31) rfl ?_; clear hE a; intro a hE
      refine WL.vS hS hE (runs_if hE rfl rfl rfl hg58) (Gives.p hE rfl) rfl ?_; clear hE a; intro a hE
      refine WL.vS hS hE (runs_plain rfl) (Gives.pickF hE rfl hg58 rfl) rfl ?_; clear hE a; intro a hE
      refine WL.nil ?_
      subst hK57
      exact ⟨decide (((x0.Turns).length : Int) > 8), hq52, hE.pick _ ⟨rfl, rfl, trivial⟩, hS⟩
  · clear hE hS a w; rintro a w ⟨q56, rfl, hE, hS⟩
    refine W.cond hE rfl (fun hc59 => ?_) (fun hc59 => ?_)
    · replace hr := iteT hc59 hr
      refine W.seq ?_
      refine W.region ?_
      refine WL.vS hS hE (runs_plain rfl) (Gives.p hE rfl) rfl ?_; clear hE a; intro a hE
      refine WL.nil ?_
      refine W.ret ?_
      refine finG (fn := Tryd.f13) (rs := [.tmp 2]) (vs := [_]) hE rfl ⟨rfl, trivial⟩ ?_
      obtain rfl := Option.some.inj hr
      replace hS := hS.tail
      exact ⟨rfl, hS⟩
    · replace hr := iteF hc59 hr
      refine W.skip ?_
      refine W.seq ?_
      refine W.seq ?_
      refine W.region ?_
      refine WL.vS hS hE (runs_plain rfl) (Gives.fld hE rfl fl33_0) rfl ?_; clear hE a; intro a hE
      refine WL.vS hS hE (runs_plain rfl) (Gives.loadB hE 0 rfl rfl rfl ty30) rfl ?_; clear hE a; intro a hE
      refine WL.vS hS hE (runs_plain rfl) (Gives.len hE rfl sl30) rfl ?_; clear hE a; intro a hE
      refine WL.vS hS hE (runs_plain rfl) (Gives.p hE rfl) rfl ?_; clear hE a; intro a hE
      refine WL.nil ?_
      obtain ⟨q61, hq60, hr⟩ := bndS hr
      refine W.cut (fun a w => (.next ()) = q61 ∧ Rep a 105 [(1, .pointer (some ⟨b51, 0, none⟩))] ∧ St w s (pt b51 (.cells #[.slice a0_0 x0.Trains.length c0_0, .slice a0_1 x0.Turns.length c0_1] 33 (0, 0)) :: R)) ?_ ?_
      · refine W.block ?_
        refine W.loop (fun m a w => ∃ (rest64 : List ApiTrain) (k62 : Nat), rest64.length = m ∧ x0.Trains.drop k62 = rest64 ∧ Fishref2TextFault.loop1 rest64 = q61 ∧ Rep a 105 [(1, .pointer (some ⟨b51, 0, none⟩)), (26, .slice a0_0 x0.Trains.length c0_0), (27, .int .i64 ((x0.Trains).length : Int)), (28, .int .i64 ((k62 : Nat) : Int))] ∧ St w s (pt b51 (.cells #[.slice a0_0 x0.Trains.length c0_0, .slice a0_1 x0.Turns.length c0_1] 33 (0, 0)) :: R)) (m := x0.Trains.length) ⟨x0.Trains, 0, rfl, rfl, hq60, hE.pick _ ⟨rfl, rfl, rfl, rfl, trivial⟩, hS⟩ ?_
        clear hE hS a w hq60; rintro m68 a w ⟨rest64, k62, rfl, hd65, hq60, hE, hS⟩
        refine W.gen fun K71 hK71 => ?_
        rcases rest64 with _ | ⟨x63, rest64⟩
        · have hlt66 := drop_nil hd65
          refine W.seq ?_
          refine W.region ?_
          refine WL.vS hS hE (runs_plain rfl) (Gives.p hE rfl) rfl ?_; clear hE a; intro a hE
          refine WL.nil ?_
          refine W.seq ?_
          refine W.condF hE rfl (decide_eq_false (by omega)) ?_
          subst hK71
          refine W.exit rfl ?_
          exact ⟨hq60, hE.pick _ ⟨rfl, trivial⟩, hS⟩
        · obtain ⟨hlt66, hx67, hd65⟩ := drop_cons hd65
          rw [Fishref2TextFault.loop1] at hq60
          refine W.seq ?_
          refine W.region ?_
          refine WL.vS hS hE (runs_plain rfl) (Gives.p hE rfl) rfl ?_; clear hE a; intro a hE
          refine WL.nil ?_
          refine W.seq ?_
          refine W.condT hE rfl (decide_eq_true (by omega)) ?_
          refine W.skip ?_
          refine W.seq ?_
          refine W.block ?_
          refine W.seq ?_
          refine W.region ?_
          obtain ⟨cs72, hl73, hR74, hat75⟩ := h0_0.at hx67
          obtain ⟨a76, c77, a79, c80, rfl, h78, h81⟩ := hR74
          refine WL.vS hS hE (runs_plain rfl) (Gives.idx hE k62 rfl rfl sl30 rfl hlt66 (h0_0.aok hlt66)) rfl ?_; clear hE a; intro a hE
          refine WL.vS hS hE (runs_plain rfl) (Gives.loadA hE rfl (fun w h => hat75 w _ h) ty67) rfl ?_; clear hE a; intro a hE
          refine WL.alloc hE hS (runs_plain rfl) zr67 rfl ?_; clear hE hS a w; intro b82 a w hE hS
          refine WL.storeI hE hS 0 rfl [.int .i64 x63.No, .int .i64 x63.Stock, .slice a76 x63.Stops.length c77, .slice a79 x63.Legs.length c80] (runs_plain rfl) rfl rfl rfl ty67 rfl rfl rfl rfl ?_; clear hE hS a w; intro a w hE hS
          refine WL.nil ?_
          refine W.seq ?_
          refine W.seq ?_
          obtain ⟨q84, hq83, hq60⟩ := bndS hq60
          refine W.cut (fun a w => ∃ (q87 : Bool), q87 = q84 ∧ Rep a 105 [(1, .pointer (some ⟨b51, 0, none⟩)), (4, .pointer (some ⟨b82, 0, none⟩)), (26, .slice a0_0 x0.Trains.length c0_0), (27, .int .i64 ((x0.Trains).length : Int)), (28, .int .i64 ((k62 : Nat) : Int)), (45, .bool q87)] ∧ St w s (pt b82 (.cells #[.int .i64 x63.No, .int .i64 x63.Stock, .slice a76 x63.Stops.length c77, .slice a79 x63.Legs.length c80] 67 (0, 0)) :: pt b51 (.cells #[.slice a0_0 x0.Trains.length c0_0, .slice a0_1 x0.Turns.length c0_1] 33 (0, 0)) :: R)) ?_ ?_
          · refine W.gen fun K88 hK88 => ?_
            refine W.region ?_
            refine WL.vS hS hE (runs_plain rfl) (Gives.fld hE rfl fl67_2) rfl ?_; clear hE a; intro a hE
            refine WL.vS hS hE (runs_plain rfl) (Gives.loadB hE 0 rfl rfl rfl ty65) rfl ?_; clear hE a; intro a hE
            refine WL.vS hS hE (runs_plain rfl) (Gives.len hE rfl sl65) rfl ?_; clear hE a; intro a hE
            refine WL.vS hS hE (runs_plain rfl) (Gives.p hE rfl) rfl ?_; clear hE a; intro a hE
            refine WL.vS hS hE (runs_plain rfl) (Gives.p hE rfl) rfl ?_; clear hE a; intro a hE
            rcases Bool.eq_false_or_eq_true (((x63.Stops).length : Int) == 0) with hg89 | hg89
            · replace hq83 := iteT hg89 hq83
              refine WL.no hE (runs_not hE rfl rfl rfl (by rw [hg89]; decide)) rfl ?_; clear hE a; intro a hE
              refine WL.no hE (runs_not hE rfl rfl rfl (by rw [hg89]; decide)) rfl ?_; clear hE a; intro a hE
              refine WL.no hE (runs_not hE rfl rfl rfl (by rw [hg89]; decide)) rfl ?_; clear hE a; intro a hE
              refine WL.no hE (runs_not hE rfl rfl rfl (by rw [hg89]; decide)) rfl ?_; clear hE a; intro a hE
              refine WL.no hE (runs_not hE rfl rfl rfl (by rw [hg89]; decide)) rfl ?_; clear hE a; intro a hE
              refine WL.no hE (runs_not hE rfl rfl rfl (by rw [hg89]; decide)) rfl ?_; clear hE a; intro a hE
              refine WL.no hE (runs_not hE rfl rfl rfl (by rw [hg89]; decide)) rfl ?_; clear hE a; intro a hE
              refine WL.no hE (runs_not hE rfl rfl rfl (by rw [hg89]; decide)) rfl ?_; clear hE a; intro a hE
              refine WL.vS hS hE (runs_plain rfl) (Gives.pickT hE rfl hg89 rfl) rfl ?_; clear hE a; intro a hE
              refine WL.nil ?_
              subst hK88
              exact ⟨true, hq83, hE.pick _ ⟨rfl, rfl, rfl, rfl, rfl, rfl, trivial⟩, hS⟩
            · replace hq83 := iteF hg89 hq83
              refine WL.vS hS hE (runs_if hE rfl rfl rfl hg89) (Gives.fld hE rfl fl67_3) rfl ?_; clear hE a; intro a hE
              refine WL.vS hS hE (runs_if hE rfl rfl rfl hg89) (Gives.loadB hE 0 rfl rfl rfl ty31) rfl ?_; clear hE a; intro a hE
              refine WL.vS hS hE (runs_if hE rfl rfl rfl hg89) (Gives.len hE rfl sl31) rfl ?_; clear hE a; intro a hE
              refine WL.vS hS hE (runs_if hE rfl rfl rfl hg89) (Gives.fld hE rfl fl67_2) rfl ?_; clear hE a; intro a hE
              refine WL.vS hS hE (runs_if hE rfl rfl rfl hg89) (Gives.loadB hE 0 rfl rfl rfl ty65) rfl ?_; clear hE a; intro a hE
              refine WL.vS hS hE (runs_if hE rfl rfl rfl hg89) (Gives.len hE rfl sl65) rfl ?_; clear hE a; intro a hE
              refine WL.vS hS hE (runs_if hE rfl rfl rfl hg89) (Gives.p hE rfl) rfl ?_; clear hE a; intro a hE
              refine WL.vS hS hE (runs_if hE rfl rfl rfl hg89) (Gives.p hE rfl) rfl ?_; clear hE a; intro a hE
              refine WL.vS hS hE (runs_plain rfl) (Gives.pickF hE rfl hg89 rfl) rfl ?_; clear hE a; intro a hE
              refine WL.nil ?_
              subst hK88
              exact ⟨(((x63.Legs).length : Int) != (w64 (((x63.Stops).length : Int) - 1))), hq83, hE.pick _ ⟨rfl, rfl, rfl, rfl, rfl, rfl, trivial⟩, hS⟩
          · clear hE hS a w; rintro a w ⟨q87, rfl, hE, hS⟩
            refine W.cond hE rfl (fun hc90 => ?_) (fun hc90 => ?_)
            · replace hq60 := iteT hc90 hq60
              refine W.seq ?_
              refine W.region ?_
              refine WL.vS hS hE (runs_plain rfl) (Gives.p hE rfl) rfl ?_; clear hE a; intro a hE
              refine WL.nil ?_
              refine W.ret ?_
              subst hK71
              rw [← hq60] at hr
              dsimp only at hr
              refine finG (fn := Tryd.f13) (rs := [.tmp 2]) (vs := [_]) hE rfl ⟨rfl, trivial⟩ ?_
              obtain rfl := Option.some.inj hr
              replace hS := hS.tail
              replace hS := hS.tail
              exact ⟨rfl, hS⟩
            · replace hq60 := iteF hc90 hq60
              refine W.skip ?_
              refine W.seq ?_
              refine W.seq ?_
              refine W.region ?_
              refine WL.vS hS hE (runs_plain rfl) (Gives.fld hE rfl fl67_3) rfl ?_; clear hE a; intro a hE
              refine WL.vS hS hE (runs_plain rfl) (Gives.loadB hE 0 rfl rfl rfl ty31) rfl ?_; clear hE a; intro a hE
              refine WL.vS hS hE (runs_plain rfl) (Gives.len hE rfl sl31) rfl ?_; clear hE a; intro a hE
              refine WL.vS hS hE (runs_plain rfl) (Gives.p hE rfl) rfl ?_; clear hE a; intro a hE
              refine WL.nil ?_
              obtain ⟨q92, hq91, hq60⟩ := bndS hq60
              refine W.cut (fun a w => (.next ()) = q92 ∧ Rep a 105 [(1, .pointer (some ⟨b51, 0, none⟩)), (4, .pointer (some ⟨b82, 0, none⟩)), (26, .slice a0_0 x0.Trains.length c0_0), (27, .int .i64 ((x0.Trains).length : Int)), (28, .int .i64 ((k62 : Nat) : Int))] ∧ St w s (pt b82 (.cells #[.int .i64 x63.No, .int .i64 x63.Stock, .slice a76 x63.Stops.length c77, .slice a79 x63.Legs.length c80] 67 (0, 0)) :: pt b51 (.cells #[.slice a0_0 x0.Trains.length c0_0, .slice a0_1 x0.Turns.length c0_1] 33 (0, 0)) :: R)) ?_ ?_
              · refine W.block ?_
                refine W.loop (fun m a w => ∃ (rest95 : List (List Int)) (k93 : Nat), rest95.length = m ∧ x63.Legs.drop k93 = rest95 ∧ Fishref2TextFault.loop2 rest95 = q92 ∧ Rep a 105 [(1, .pointer (some ⟨b51, 0, none⟩)), (4, .pointer (some ⟨b82, 0, none⟩)), (26, .slice a0_0 x0.Trains.length c0_0), (27, .int .i64 ((x0.Trains).length : Int)), (28, .int .i64 ((k62 : Nat) : Int)), (47, .slice a79 x63.Legs.length c80), (48, .int .i64 ((x63.Legs).length : Int)), (49, .int .i64 ((k93 : Nat) : Int))] ∧ St w s (pt b82 (.cells #[.int .i64 x63.No, .int .i64 x63.Stock, .slice a76 x63.Stops.length c77, .slice a79 x63.Legs.length c80] 67 (0, 0)) :: pt b51 (.cells #[.slice a0_0 x0.Trains.length c0_0, .slice a0_1 x0.Turns.length c0_1] 33 (0, 0)) :: R)) (m := x63.Legs.length) ⟨x63.Legs, 0, rfl, rfl, hq91, hE.pick _ ⟨rfl, rfl, rfl, rfl, rfl, rfl, rfl, rfl, trivial⟩, hS⟩ ?_
                clear hE hS a w hq91; rintro m99 a w ⟨rest95, k93, rfl, hd96, hq91, hE, hS⟩
                refine W.gen fun K102 hK102 => ?_
                rcases rest95 with _ | ⟨x94, rest95⟩
                · have hlt97 := drop_nil hd96
                  refine W.seq ?_
                  refine W.region ?_
                  refine WL.vS hS hE (runs_plain rfl) (Gives.p hE rfl) rfl ?_; clear hE a; intro a hE
                  refine WL.nil ?_
                  refine W.seq ?_
                  refine W.condF hE rfl (decide_eq_false (by omega)) ?_
                  subst hK102
                  refine W.exit rfl ?_
                  exact ⟨hq91, hE.pick _ ⟨rfl, rfl, rfl, rfl, rfl, trivial⟩, hS⟩
                · obtain ⟨hlt97, hx98, hd96⟩ := drop_cons hd96
                  rw [Fishref2TextFault.loop2] at hq91
                  refine W.seq ?_
                  refine W.region ?_
                  refine WL.vS hS hE (runs_plain rfl) (Gives.p hE rfl) rfl ?_; clear hE a; intro a hE
                  refine WL.nil ?_
                  refine W.seq ?_
                  refine W.condT hE rfl (decide_eq_true (by omega)) ?_
                  refine W.skip ?_
                  refine W.seq ?_
                  refine W.block ?_
                  refine W.seq ?_
                  refine W.region ?_
                  obtain ⟨cs103, hl104, hR105, hat106⟩ := h81.at hx98
                  obtain ⟨a107, c108, rfl, h109⟩ := hR105
                  refine WL.vS hS hE (runs_plain rfl) (Gives.idx hE k93 rfl rfl sl31 rfl hlt97 (h81.aok hlt97)) rfl ?_; clear hE a; intro a hE
                  refine WL.vS hS hE (runs_plain rfl) (Gives.load1 hE rfl (fun w h => hat106 w _ h) ty23) rfl ?_; clear hE a; intro a hE
                  refine WL.vS hS hE (runs_plain rfl) (Gives.p hE rfl) rfl ?_; clear hE a; intro a hE
                  refine WL.nil ?_
                  refine W.seq ?_
                  refine W.region ?_
                  refine WL.vS hS hE (runs_plain rfl) (Gives.p hE rfl) rfl ?_; clear hE a; intro a hE
                  refine WL.vS hS hE (runs_plain rfl) (Gives.len hE rfl sl23) rfl ?_; clear hE a; intro a hE
                  refine WL.vS hS hE (runs_plain rfl) (Gives.p hE rfl) rfl ?_; clear hE a; intro a hE
                  refine WL.nil ?_
                  refine W.cond hE rfl (fun hc110 => ?_) (fun hc110 => ?_)
                  · replace hq91 := iteT hc110 hq91
                    refine W.seq ?_
                    refine W.region ?_
                    refine WL.vS hS hE (runs_plain rfl) (Gives.p hE rfl) rfl ?_; clear hE a; intro a hE
                    refine WL.nil ?_
                    refine W.ret ?_
                    subst hK102
                    subst hK71
                    rw [← hq91] at hq60
                    dsimp only at hq60
                    rw [← hq60] at hr
                    dsimp only at hr
                    refine finG (fn := Tryd.f13) (rs := [.tmp 2]) (vs := [_]) hE rfl ⟨rfl, trivial⟩ ?_
                    obtain rfl := Option.some.inj hr
                    replace hS := hS.tail
                    replace hS := hS.tail
                    exact ⟨rfl, hS⟩
                  · replace hq91 := iteF hc110 hq91
                    refine W.skip ?_
                    refine W.region ?_
                    refine WL.vS hS hE (runs_plain rfl) (Gives.inc hE rfl (by have := h81.small; omega)) rfl ?_; clear hE a; intro a hE
                    refine WL.vS hS hE (runs_plain rfl) (Gives.p hE rfl) rfl ?_; clear hE a; intro a hE
                    refine WL.nil ?_
                    subst hK102
                    exact ⟨rest95.length, Nat.lt_succ_self _, rest95, k93 + 1, rfl, hd96, hq91, hE.pick _ ⟨rfl, rfl, rfl, rfl, rfl, rfl, rfl, rfl, trivial⟩, hS⟩
              · clear hE hS a w; rintro a w ⟨rfl, hE, hS⟩
                dsimp only at hq60
                refine W.seq ?_
                refine W.seq ?_
                refine W.region ?_
                refine WL.vS hS hE (runs_plain rfl) (Gives.fld hE rfl fl67_2) rfl ?_; clear hE a; intro a hE
                refine WL.vS hS hE (runs_plain rfl) (Gives.loadB hE 0 rfl rfl rfl ty65) rfl ?_; clear hE a; intro a hE
                refine WL.vS hS hE (runs_plain rfl) (Gives.len hE rfl sl65) rfl ?_; clear hE a; intro a hE
                refine WL.vS hS hE (runs_plain rfl) (Gives.p hE rfl) rfl ?_; clear hE a; intro a hE
                refine WL.nil ?_
                refine W.cond hE rfl (fun hc111 => ?_) (fun hc111 => ?_)
                · replace hq60 := iteT hc111 hq60
                  refine W.seq ?_
                  refine W.region ?_
                  refine WL.vS hS hE (runs_plain rfl) (Gives.p hE rfl) rfl ?_; clear hE a; intro a hE
                  refine WL.nil ?_
                  refine W.ret ?_
                  subst hK71
                  rw [← hq60] at hr
                  dsimp only at hr
                  refine finG (fn := Tryd.f13) (rs := [.tmp 2]) (vs := [_]) hE rfl ⟨rfl, trivial⟩ ?_
                  obtain rfl := Option.some.inj hr
                  replace hS := hS.tail
                  replace hS := hS.tail
                  exact ⟨rfl, hS⟩
                · replace hq60 := iteF hc111 hq60
                  refine W.skip ?_
                  refine W.seq ?_
                  refine W.region ?_
                  refine WL.vS hS hE (runs_plain rfl) (Gives.fld hE rfl fl67_3) rfl ?_; clear hE a; intro a hE
                  refine WL.vS hS hE (runs_plain rfl) (Gives.loadB hE 0 rfl rfl rfl ty31) rfl ?_; clear hE a; intro a hE
                  refine WL.vS hS hE (runs_plain rfl) (Gives.len hE rfl sl31) rfl ?_; clear hE a; intro a hE
                  refine WL.vS hS hE (runs_plain rfl) (Gives.p hE rfl) rfl ?_; clear hE a; intro a hE
                  refine WL.nil ?_
                  obtain ⟨q113, hq112, hq60⟩ := bndS hq60
                  refine W.cut (fun a w => (.next ()) = q113 ∧ Rep a 105 [(1, .pointer (some ⟨b51, 0, none⟩)), (26, .slice a0_0 x0.Trains.length c0_0), (27, .int .i64 ((x0.Trains).length : Int)), (28, .int .i64 ((k62 : Nat) : Int))] ∧ St w s (pt b82 (.cells #[.int .i64 x63.No, .int .i64 x63.Stock, .slice a76 x63.Stops.length c77, .slice a79 x63.Legs.length c80] 67 (0, 0)) :: pt b51 (.cells #[.slice a0_0 x0.Trains.length c0_0, .slice a0_1 x0.Turns.length c0_1] 33 (0, 0)) :: R)) ?_ ?_
                  · refine W.block ?_
                    refine W.loop (fun m a w => ∃ (rest116 : List (List Int)) (k114 : Nat), rest116.length = m ∧ x63.Legs.drop k114 = rest116 ∧ Fishref2TextFault.loop3 rest116 = q113 ∧ Rep a 105 [(1, .pointer (some ⟨b51, 0, none⟩)), (26, .slice a0_0 x0.Trains.length c0_0), (27, .int .i64 ((x0.Trains).length : Int)), (28, .int .i64 ((k62 : Nat) : Int)), (62, .slice a79 x63.Legs.length c80), (63, .int .i64 ((x63.Legs).length : Int)), (64, .int .i64 ((k114 : Nat) : Int))] ∧ St w s (pt b82 (.cells #[.int .i64 x63.No, .int .i64 x63.Stock, .slice a76 x63.Stops.length c77, .slice a79 x63.Legs.length c80] 67 (0, 0)) :: pt b51 (.cells #[.slice a0_0 x0.Trains.length c0_0, .slice a0_1 x0.Turns.length c0_1] 33 (0, 0)) :: R)) (m := x63.Legs.length) ⟨x63.Legs, 0, rfl, rfl, hq112, hE.pick _ ⟨rfl, rfl, rfl, rfl, rfl, rfl, rfl, trivial⟩, hS⟩ ?_
                    clear hE hS a w hq112; rintro m120 a w ⟨rest116, k114, rfl, hd117, hq112, hE, hS⟩
                    refine W.gen fun K123 hK123 => ?_
                    rcases rest116 with _ | ⟨x115, rest116⟩
                    · have hlt118 := drop_nil hd117
                      refine W.seq ?_
                      refine W.region ?_
                      refine WL.vS hS hE (runs_plain rfl) (Gives.p hE rfl) rfl ?_; clear hE a; intro a hE
                      refine WL.nil ?_
                      refine W.seq ?_
                      refine W.condF hE rfl (decide_eq_false (by omega)) ?_
                      subst hK123
                      refine W.exit rfl ?_
                      exact ⟨hq112, hE.pick _ ⟨rfl, rfl, rfl, rfl, trivial⟩, hS⟩
                    · obtain ⟨hlt118, hx119, hd117⟩ := drop_cons hd117
                      rw [Fishref2TextFault.loop3] at hq112
                      refine W.seq ?_
                      refine W.region ?_
                      refine WL.vS hS hE (runs_plain rfl) (Gives.p hE rfl) rfl ?_; clear hE a; intro a hE
                      refine WL.nil ?_
                      refine W.seq ?_
                      refine W.condT hE rfl (decide_eq_true (by omega)) ?_
                      refine W.skip ?_
                      refine W.seq ?_
                      refine W.block ?_
                      refine W.seq ?_
                      refine W.region ?_
                      obtain ⟨cs124, hl125, hR126, hat127⟩ := h81.at hx119
                      obtain ⟨a128, c129, rfl, h130⟩ := hR126
                      refine WL.vS hS hE (runs_plain rfl) (Gives.idx hE k114 rfl rfl sl31 rfl hlt118 (h81.aok hlt118)) rfl ?_; clear hE a; intro a hE
                      refine WL.vS hS hE (runs_plain rfl) (Gives.load1 hE rfl (fun w h => hat127 w _ h) ty23) rfl ?_; clear hE a; intro a hE
                      refine WL.vS hS hE (runs_plain rfl) (Gives.p hE rfl) rfl ?_; clear hE a; intro a hE
                      refine WL.nil ?_
                      refine W.seq ?_
                      refine W.region ?_
                      refine WL.vS hS hE (runs_plain rfl) (Gives.p hE rfl) rfl ?_; clear hE a; intro a hE
                      refine WL.vS hS hE (runs_plain rfl) (Gives.len hE rfl sl23) rfl ?_; clear hE a; intro a hE
                      refine WL.vS hS hE (runs_plain rfl) (Gives.p hE rfl) rfl ?_; clear hE a; intro a hE
                      refine WL.nil ?_
                      refine W.cond hE rfl (fun hc131 => ?_) (fun hc131 => ?_)
                      · replace hq112 := iteT hc131 hq112
                        refine W.seq ?_
                        refine W.region ?_
                        refine WL.vS hS hE (runs_plain rfl) (Gives.p hE rfl) rfl ?_; clear hE a; intro a hE
                        refine WL.nil ?_
                        refine W.ret ?_
                        subst hK123
                        subst hK71
                        rw [← hq112] at hq60
                        dsimp only at hq60
                        rw [← hq60] at hr
                        dsimp only at hr
                        refine finG (fn := Tryd.f13) (rs := [.tmp 2]) (vs := [_]) hE rfl ⟨rfl, trivial⟩ ?_
                        obtain rfl := Option.some.inj hr
                        replace hS := hS.tail
                        replace hS := hS.tail
                        exact ⟨rfl, hS⟩
                      · replace hq112 := iteF hc131 hq112
                        refine W.skip ?_
                        refine W.region ?_
                        refine WL.vS hS hE (runs_plain rfl) (Gives.inc hE rfl (by have := h81.small; omega)) rfl ?_; clear hE a; intro a hE
                        refine WL.vS hS hE (runs_plain rfl) (Gives.p hE rfl) rfl ?_; clear hE a; intro a hE
                        refine WL.nil ?_
                        subst hK123
                        exact ⟨rest116.length, Nat.lt_succ_self _, rest116, k114 + 1, rfl, hd117, hq112, hE.pick _ ⟨rfl, rfl, rfl, rfl, rfl, rfl, rfl, trivial⟩, hS⟩
                  · clear hE hS a w; rintro a w ⟨rfl, hE, hS⟩
                    dsimp only at hq60
                    refine W.region ?_
                    refine WL.vS hS hE (runs_plain rfl) (Gives.inc hE rfl (by have := h0_0.small; omega)) rfl ?_; clear hE a; intro a hE
                    refine WL.vS hS hE (runs_plain rfl) (Gives.p hE rfl) rfl ?_; clear hE a; intro a hE
                    refine WL.nil ?_
                    replace hS := hS.tail
                    subst hK71
                    exact ⟨rest64.length, Nat.lt_succ_self _, rest64, k62 + 1, rfl, hd65, hq60, hE.pick _ ⟨rfl, rfl, rfl, rfl, trivial⟩, hS⟩
      · clear hE hS a w; rintro a w ⟨rfl, hE, hS⟩
        dsimp only at hr
        refine W.seq ?_
        refine W.seq ?_
        refine W.region ?_
        refine WL.vS hS hE (runs_plain rfl) (Gives.fld hE rfl fl33_1) rfl ?_; clear hE a; intro a hE
        refine WL.vS hS hE (runs_plain rfl) (Gives.loadB hE 0 rfl rfl rfl ty31) rfl ?_; clear hE a; intro a hE
        refine WL.vS hS hE (runs_plain rfl) (Gives.len hE rfl sl31) rfl ?_; clear hE a; intro a hE
        refine WL.vS hS hE (runs_plain rfl) (Gives.p hE rfl) rfl ?_; clear hE a; intro a hE
        refine WL.nil ?_
        obtain ⟨q133, hq132, hr⟩ := bndS hr
        refine W.cut (fun a w => (.next ()) = q133 ∧ Rep a 105 [(1, .pointer (some ⟨b51, 0, none⟩))] ∧ St w s (pt b51 (.cells #[.slice a0_0 x0.Trains.length c0_0, .slice a0_1 x0.Turns.length c0_1] 33 (0, 0)) :: R)) ?_ ?_
        · refine W.block ?_
          refine W.loop (fun m a w => ∃ (rest136 : List (List Int)) (k134 : Nat), rest136.length = m ∧ x0.Turns.drop k134 = rest136 ∧ Fishref2TextFault.loop4 rest136 = q133 ∧ Rep a 105 [(1, .pointer (some ⟨b51, 0, none⟩)), (74, .slice a0_1 x0.Turns.length c0_1), (75, .int .i64 ((x0.Turns).length : Int)), (76, .int .i64 ((k134 : Nat) : Int))] ∧ St w s (pt b51 (.cells #[.slice a0_0 x0.Trains.length c0_0, .slice a0_1 x0.Turns.length c0_1] 33 (0, 0)) :: R)) (m := x0.Turns.length) ⟨x0.Turns, 0, rfl, rfl, hq132, hE.pick _ ⟨rfl, rfl, rfl, rfl, trivial⟩, hS⟩ ?_
          clear hE hS a w hq132; rintro m140 a w ⟨rest136, k134, rfl, hd137, hq132, hE, hS⟩
          refine W.gen fun K143 hK143 => ?_
          rcases rest136 with _ | ⟨x135, rest136⟩
          · have hlt138 := drop_nil hd137
            refine W.seq ?_
            refine W.region ?_
            refine WL.vS hS hE (runs_plain rfl) (Gives.p hE rfl) rfl ?_; clear hE a; intro a hE
            refine WL.nil ?_
            refine W.seq ?_
            refine W.condF hE rfl (decide_eq_false (by omega)) ?_
            subst hK143
            refine W.exit rfl ?_
            exact ⟨hq132, hE.pick _ ⟨rfl, trivial⟩, hS⟩
          · obtain ⟨hlt138, hx139, hd137⟩ := drop_cons hd137
            rw [Fishref2TextFault.loop4] at hq132
            refine W.seq ?_
            refine W.region ?_
            refine WL.vS hS hE (runs_plain rfl) (Gives.p hE rfl) rfl ?_; clear hE a; intro a hE
            refine WL.nil ?_
            refine W.seq ?_
            refine W.condT hE rfl (decide_eq_true (by omega)) ?_
            refine W.skip ?_
            refine W.seq ?_
            refine W.block ?_
            refine W.seq ?_
            refine W.region ?_
            obtain ⟨cs144, hl145, hR146, hat147⟩ := h0_1.at hx139
            obtain ⟨a148, c149, rfl, h150⟩ := hR146
            refine WL.vS hS hE (runs_plain rfl) (Gives.idx hE k134 rfl rfl sl31 rfl hlt138 (h0_1.aok hlt138)) rfl ?_; clear hE a; intro a hE
            refine WL.vS hS hE (runs_plain rfl) (Gives.load1 hE rfl (fun w h => hat147 w _ h) ty23) rfl ?_; clear hE a; intro a hE
            refine WL.vS hS hE (runs_plain rfl) (Gives.p hE rfl) rfl ?_; clear hE a; intro a hE
            refine WL.nil ?_
            refine W.seq ?_
            refine W.seq ?_
            refine W.region ?_
            refine WL.vS hS hE (runs_plain rfl) (Gives.p hE rfl) rfl ?_; clear hE a; intro a hE
            refine WL.vS hS hE (runs_plain rfl) (Gives.len hE rfl sl23) rfl ?_; clear hE a; intro a hE
            refine WL.vS hS hE (runs_plain rfl) (Gives.p hE rfl) rfl ?_; clear hE a; intro a hE
            refine WL.nil ?_
            refine W.cond hE rfl (fun hc151 => ?_) (fun hc151 => ?_)
            · replace hq132 := iteT hc151 hq132
              refine W.seq ?_
              refine W.region ?_
              refine WL.vS hS hE (runs_plain rfl) (Gives.p hE rfl) rfl ?_; clear hE a; intro a hE
              refine WL.nil ?_
              refine W.ret ?_
              subst hK143
              rw [← hq132] at hr
              dsimp only at hr
              refine finG (fn := Tryd.f13) (rs := [.tmp 2]) (vs := [_]) hE rfl ⟨rfl, trivial⟩ ?_
              obtain rfl := Option.some.inj hr
              replace hS := hS.tail
              exact ⟨rfl, hS⟩
            · replace hq132 := iteF hc151 hq132
              refine W.skip ?_
              refine W.seq ?_
              refine W.region ?_
              refine WL.vS hS hE (runs_plain rfl) (Gives.p hE rfl) rfl ?_; clear hE a; intro a hE
              refine WL.vS hS hE (runs_plain rfl) (Gives.len hE rfl sl23) rfl ?_; clear hE a; intro a hE
              refine WL.vS hS hE (runs_plain rfl) (Gives.p hE rfl) rfl ?_; clear hE a; intro a hE
              refine WL.nil ?_
              refine W.cond hE rfl (fun hc152 => ?_) (fun hc152 => ?_)
              · replace hq132 := iteT hc152 hq132
                refine W.seq ?_
                refine W.region ?_
                refine WL.vS hS hE (runs_plain rfl) (Gives.p hE rfl) rfl ?_; clear hE a; intro a hE
                refine WL.nil ?_
                refine W.ret ?_
                subst hK143
                rw [← hq132] at hr
                dsimp only at hr
                refine finG (fn := Tryd.f13) (rs := [.tmp 2]) (vs := [_]) hE rfl ⟨rfl, trivial⟩ ?_
                obtain rfl := Option.some.inj hr
                replace hS := hS.tail
                exact ⟨rfl, hS⟩
              · replace hq132 := iteF hc152 hq132
                refine W.skip ?_
                refine W.region ?_
                refine WL.vS hS hE (runs_plain rfl) (Gives.inc hE rfl (by have := h0_1.small; omega)) rfl ?_; clear hE a; intro a hE
                refine WL.vS hS hE (runs_plain rfl) (Gives.p hE rfl) rfl ?_; clear hE a; intro a hE
                refine WL.nil ?_
                subst hK143
                exact ⟨rest136.length, Nat.lt_succ_self _, rest136, k134 + 1, rfl, hd137, hq132, hE.pick _ ⟨rfl, rfl, rfl, rfl, trivial⟩, hS⟩
        · clear hE hS a w; rintro a w ⟨rfl, hE, hS⟩
          dsimp only at hr
          refine W.seq ?_
          refine W.seq ?_
          refine W.region ?_
          refine WL.vS hS hE (runs_plain rfl) (Gives.loadBA hE 0 rfl rfl ty33) rfl ?_; clear hE a; intro a hE
          obtain ⟨q153, hq154, hr⟩ := bindS hr
          have hc_ := Fishref2numbersIn_ok hS h0_0 h0_1 hq154
          refine WL.fnq hE (hc_) (runs_plain rfl) bd37 rfl rfl rfl ?_
          clear hE hS hc_; rintro e w ⟨a155, c156, n157, cs158, s161, rfl, hle162, h159, rfl, hS⟩; refine ⟨_, rfl, ?_⟩; clear a; intro a hE
          replace h0_0 := Sl.mono RApiTrain.mono hle162 h0_0
          replace h0_1 := Sl.mono (RL.mono RI.mono) hle162 h0_1
          refine WL.vS hS hE (runs_plain rfl) (Gives.len hE rfl sl31) rfl ?_; clear hE a; intro a hE
          refine WL.vS hS hE (runs_plain rfl) (Gives.p hE rfl) rfl ?_; clear hE a; intro a hE
          refine WL.nil ?_
          have hb174 : q153.length ≤ 9223372036854775807 := by have := hS.vecCap 0 rfl; unfold maxLen at this; omega
          obtain ⟨q164, hq163, hr⟩ := bindS hr
          refine W.cut (fun a w => (.next ()) = q164 ∧ Rep a 105 [] ∧ St w s161 (vecC 23 1 a155 c156 q153.length cs158 :: pt b51 (.cells #[.slice a0_0 x0.Trains.length c0_0, .slice a0_1 x0.Turns.length c0_1] 33 (0, 0)) :: R)) ?_ ?_
          · refine W.block ?_
            refine W.loop (fun m a w => ∃ (rest167 : Nat) (k165 : Nat), rest167 = m ∧ k165 + rest167 = q153.length ∧ Fishref2TextFault.loop5 q153 rest167 k165 = some q164 ∧ Rep a 105 [(88, .slice a155 q153.length c156), (89, .int .i64 ((q153.length : Nat) : Int)), (90, .int .i64 ((k165 : Nat) : Int))] ∧ St w s161 (vecC 23 1 a155 c156 q153.length cs158 :: pt b51 (.cells #[.slice a0_0 x0.Trains.length c0_0, .slice a0_1 x0.Turns.length c0_1] 33 (0, 0)) :: R)) (m := q153.length) ⟨q153.length, 0, rfl, by omega, hq163, hE.pick _ ⟨rfl, rfl, rfl, trivial⟩, hS⟩ ?_
            clear hE hS a w hq163; rintro m171 a w ⟨rest167, k165, rfl, hd168, hq163, hE, hS⟩
            refine W.gen fun K175 hK175 => ?_
            rcases rest167 with _ | rest167
            · skip
              refine W.seq ?_
              refine W.region ?_
              refine WL.vS hS hE (runs_plain rfl) (Gives.p hE rfl) rfl ?_; clear hE a; intro a hE
              refine WL.nil ?_
              refine W.seq ?_
              refine W.condF hE rfl (decide_eq_false (by omega)) ?_
              subst hK175
              refine W.exit rfl ?_
              exact ⟨Option.some.inj hq163, hE.pick _ trivial, hS⟩
            · have hlt169 : k165 < q153.length := by omega
              rw [Fishref2TextFault.loop5] at hq163
              refine W.seq ?_
              refine W.region ?_
              refine WL.vS hS hE (runs_plain rfl) (Gives.p hE rfl) rfl ?_; clear hE a; intro a hE
              refine WL.nil ?_
              refine W.seq ?_
              refine W.condT hE rfl (decide_eq_true (by omega)) ?_
              refine W.skip ?_
              refine W.seq ?_
              refine W.block ?_
              refine W.seq ?_
              refine W.region ?_
              obtain ⟨x176, hx177, hq163⟩ := bindS hq163
              obtain ⟨hi178, hlt179, hy180⟩ := gx_some hx177
              obtain ⟨vs181, hl182, hR183, hd184, hget185⟩ := h159.at hy180
              obtain ⟨a186, c187, rfl, h188⟩ := hR183
              refine WL.vS hS hE (runs_plain rfl) (Gives.idx hE ((((k165 : Nat) : Int)).toNat) rfl rfl sl31 hi178 (by omega) (hS.vecAok 0 rfl (by omega : (((k165 : Nat) : Int)).toNat < q153.length))) rfl ?_; clear hE a; intro a hE
              refine WL.vS hS hE (runs_plain rfl) (Gives.load1 hE rfl (fun w h => St.vecSees h 0 rfl ((((k165 : Nat) : Int)).toNat * 1) _ hget185) ty23) rfl ?_; clear hE a; intro a hE
              refine WL.vS hS hE (runs_plain rfl) (Gives.p hE rfl) rfl ?_; clear hE a; intro a hE
              refine WL.nil ?_
              refine W.seq ?_
              refine W.region ?_
              refine WL.vS hS hE (runs_plain rfl) (Gives.p hE rfl) rfl ?_; clear hE a; intro a hE
              refine WL.vS hS hE (runs_plain rfl) (Gives.len hE rfl sl23) rfl ?_; clear hE a; intro a hE
              refine WL.vS hS hE (runs_plain rfl) (Gives.p hE rfl) rfl ?_; clear hE a; intro a hE
              refine WL.nil ?_
              obtain ⟨q190, hq189, hq163⟩ := bndS hq163
              refine W.cut (fun a w => (.next ()) = q190 ∧ Rep a 105 [(88, .slice a155 q153.length c156), (89, .int .i64 ((q153.length : Nat) : Int)), (90, .int .i64 ((k165 : Nat) : Int))] ∧ St w s161 (vecC 23 1 a155 c156 q153.length cs158 :: pt b51 (.cells #[.slice a0_0 x0.Trains.length c0_0, .slice a0_1 x0.Turns.length c0_1] 33 (0, 0)) :: R)) ?_ ?_
              · refine W.block ?_
                refine W.loop (fun m a w => ∃ (rest193 : List Int) (k191 : Nat), rest193.length = m ∧ x176.drop k191 = rest193 ∧ Fishref2TextFault.loop6 rest193 = q190 ∧ Rep a 105 [(88, .slice a155 q153.length c156), (89, .int .i64 ((q153.length : Nat) : Int)), (90, .int .i64 ((k165 : Nat) : Int)), (94, .slice a186 x176.length c187), (95, .int .i64 ((x176).length : Int)), (96, .int .i64 ((k191 : Nat) : Int))] ∧ St w s161 (vecC 23 1 a155 c156 q153.length cs158 :: pt b51 (.cells #[.slice a0_0 x0.Trains.length c0_0, .slice a0_1 x0.Turns.length c0_1] 33 (0, 0)) :: R)) (m := x176.length) ⟨x176, 0, rfl, rfl, hq189, hE.pick _ ⟨rfl, rfl, rfl, rfl, rfl, rfl, trivial⟩, hS⟩ ?_
                clear hE hS a w hq189; rintro m197 a w ⟨rest193, k191, rfl, hd194, hq189, hE, hS⟩
                refine W.gen fun K200 hK200 => ?_
                rcases rest193 with _ | ⟨x192, rest193⟩
                · have hlt195 := drop_nil hd194
                  refine W.seq ?_
                  refine W.region ?_
                  refine WL.vS hS hE (runs_plain rfl) (Gives.p hE rfl) rfl ?_; clear hE a; intro a hE
                  refine WL.nil ?_
                  refine W.seq ?_
                  refine W.condF hE rfl (decide_eq_false (by omega)) ?_
                  subst hK200
                  refine W.exit rfl ?_
                  exact ⟨hq189, hE.pick _ ⟨rfl, rfl, rfl, trivial⟩, hS⟩
                · obtain ⟨hlt195, hx196, hd194⟩ := drop_cons hd194
                  rw [Fishref2TextFault.loop6] at hq189
                  refine W.seq ?_
                  refine W.region ?_
                  refine WL.vS hS hE (runs_plain rfl) (Gives.p hE rfl) rfl ?_; clear hE a; intro a hE
                  refine WL.nil ?_
                  refine W.seq ?_
                  refine W.condT hE rfl (decide_eq_true (by omega)) ?_
                  refine W.skip ?_
                  refine W.seq ?_
                  refine W.block ?_
                  refine W.seq ?_
                  refine W.region ?_
                  obtain ⟨cs201, hl202, hR203, hat204⟩ := h188.at hx196
                  subst hR203
                  refine WL.vS hS hE (runs_plain rfl) (Gives.idx hE k191 rfl rfl sl23 rfl hlt195 (h188.aok hlt195)) rfl ?_; clear hE a; intro a hE
                  refine WL.vS hS hE (runs_plain rfl) (Gives.load1 hE rfl (fun w h => hat204 w _ h) ty3) rfl ?_; clear hE a; intro a hE
                  refine WL.vS hS hE (runs_plain rfl) (Gives.p hE rfl) rfl ?_; clear hE a; intro a hE
                  refine WL.nil ?_
                  refine W.seq ?_
                  refine W.region ?_
                  refine WL.vS hS hE (runs_plain rfl) (Gives.p hE rfl) rfl ?_; clear hE a; intro a hE
                  refine WL.fnq hE (Fishref2within_ok hS  rfl (r := Fishref2within x192 0 999999)) (runs_plain rfl) bd30 rfl rfl rfl ?_
                  clear hE hS; rintro e w ⟨rfl, hS⟩; refine ⟨_, rfl, ?_⟩; clear a; intro a hE
                  refine WL.vS hS hE (runs_plain rfl) (Gives.p hE rfl) rfl ?_; clear hE a; intro a hE
                  refine WL.nil ?_
                  refine W.cond hE rfl (fun hc205 => ?_) (fun hc205 => ?_)
                  · replace hq189 := iteT hc205 hq189
                    refine W.seq ?_
                    refine W.region ?_
                    refine WL.vS hS hE (runs_plain rfl) (Gives.p hE rfl) rfl ?_; clear hE a; intro a hE
                    refine WL.nil ?_
                    refine W.ret ?_
                    subst hK200
                    subst hK175
                    rw [← hq189] at hq163
                    dsimp only at hq163
                    rw [← Option.some.inj hq163] at hr
                    dsimp only at hr
                    refine finG (fn := Tryd.f13) (rs := [.tmp 2]) (vs := [_]) hE rfl ⟨rfl, trivial⟩ ?_
                    obtain rfl := Option.some.inj hr
                    replace hS := hS.tail
                    replace hS := hS.tail
                    exact ⟨rfl, (hS.down hle162)⟩
                  · replace hq189 := iteF hc205 hq189
                    refine W.skip ?_
                    refine W.region ?_
                    refine WL.vS hS hE (runs_plain rfl) (Gives.inc hE rfl (by have := h188.small; omega)) rfl ?_; clear hE a; intro a hE
                    refine WL.vS hS hE (runs_plain rfl) (Gives.p hE rfl) rfl ?_; clear hE a; intro a hE
                    refine WL.nil ?_
                    subst hK200
                    exact ⟨rest193.length, Nat.lt_succ_self _, rest193, k191 + 1, rfl, hd194, hq189, hE.pick _ ⟨rfl, rfl, rfl, rfl, rfl, rfl, trivial⟩, hS⟩
              · clear hE hS a w; rintro a w ⟨rfl, hE, hS⟩
                dsimp only at hq163
                refine W.region ?_
                refine WL.vS hS hE (runs_plain rfl) (Gives.inc hE rfl (by omega)) rfl ?_; clear hE a; intro a hE
                refine WL.vS hS hE (runs_plain rfl) (Gives.p hE rfl) rfl ?_; clear hE a; intro a hE
                refine WL.nil ?_
                subst hK175
                exact ⟨rest167, Nat.lt_succ_self _, rest167, k165 + 1, rfl, (by omega), hq163, hE.pick _ ⟨rfl, rfl, rfl, trivial⟩, hS⟩
          · clear hE hS a w; rintro a w ⟨rfl, hE, hS⟩
            dsimp only at hr
            refine W.seq ?_
            refine W.region ?_
            refine WL.vS hS hE (runs_plain rfl) (Gives.p hE rfl) rfl ?_; clear hE a; intro a hE
            refine WL.nil ?_
            refine W.ret ?_
            refine finG (fn := Tryd.f13) (rs := [.tmp 2]) (vs := [_]) hE rfl ⟨rfl, trivial⟩ ?_
            obtain rfl := Option.some.inj hr
            replace hS := hS.tail
            replace hS := hS.tail
            exact ⟨rfl, (hS.down hle162)⟩
set_option maxHeartbeats 8000000 in
theorem Fishref2ReadDay_ok {fu : Nat}  {w : World} {s : Sg} {R : List HP} {x0 : ByteArray} (hS : St w s (R)) (hTab : TabX s) {r : ApiDay × Int} (hr : Fishref2ReadDay fu x0 = some r) :
    Calls Tryd.prog 17 [.string x0].toArray w (fun e w => ∃ (cs0 : List Value) (t : Sg), e = .returned (.tuple #[.agg cs0.toArray, .int .i64 r.2]) ∧ s.Le t ∧ RApiDay t cs0 r.1 ∧ St w t (R)) := by
  refine enter Tryd.func17 rfl rfl rfl fun a hE => ?_
  rw [Fishref2ReadDay] at hr
  refine W.seq ?_
  refine W.region ?_
  refine WL.alloc hE hS (runs_plain rfl) zr33 rfl ?_; clear hE hS a w; intro b51 a w hE hS
  refine WL.vS hS hE (runs_plain rfl) (Gives.p hE rfl) rfl ?_; clear hE a; intro a hE
  refine WL.nil ?_
  refine W.seq ?_
  refine W.seq ?_
  refine W.region ?_
  refine WL.vS hS hE (runs_plain rfl) (Gives.p hE rfl) rfl ?_; clear hE a; intro a hE
  refine WL.vS hS hE (runs_plain rfl) (Gives.lenS hE rfl st9) rfl ?_; clear hE a; intro a hE
  refine WL.vS hS hE (runs_plain rfl) (Gives.p hE rfl) rfl ?_; clear hE a; intro a hE
  refine WL.nil ?_
  refine W.cond hE rfl (fun hc52 => ?_) (fun hc52 => ?_)
  · replace hr := iteT hc52 hr
    refine W.seq ?_
    refine W.region ?_
    refine WL.vS hS hE (runs_plain rfl) (Gives.build hE (vs := []) [.slice none 0 0, .slice none 0 0] rfl (by kernel_rfl)) rfl ?_; clear hE a; intro a hE
    refine WL.storeI hE hS 0 rfl [.slice none 0 0, .slice none 0 0] (runs_plain rfl) rfl rfl rfl ty33 rfl rfl rfl rfl ?_; clear hE hS a w; intro a w hE hS
    refine WL.vS hS hE (runs_plain rfl) (Gives.p hE rfl) rfl ?_; clear hE a; intro a hE
    refine WL.nil ?_
    refine W.ret ?_
    refine finG (fn := Tryd.f17) (rs := [.cell 2 33, .tmp 3]) (vs := [_, _]) hE rfl ⟨⟨_, rfl, .inl ⟨_, rfl, hS.seesAt 0 rfl, ty33⟩⟩, rfl, trivial⟩ ?_
    obtain rfl := Option.some.inj hr
    replace hS := hS.tail
    exact ⟨_, s, rfl, (Sg.Le.refl _), ⟨_, _, _, _, rfl, Sl.nil, Sl.nil⟩, hS⟩
  · replace hr := iteF hc52 hr
    refine W.skip ?_
    refine W.seq ?_
    refine W.region ?_
    refine WL.vS hS hE (runs_plain rfl) (Gives.p hE rfl) rfl ?_; clear hE a; intro a hE
    obtain ⟨q53, hq54, hr⟩ := bindS hr
    have hc_ := Fishref1Lines_ok hS (TabG.mono (Sg.Le.refl _) hTab) hq54
    refine WL.fnq hE (hc_) (runs_plain rfl) bd47 rfl rfl rfl ?_
    clear hE hS hc_; rintro e w ⟨a55, c56, n57, cs58, rfl, h59, rfl, hS⟩; refine ⟨_, rfl, ?_⟩; clear a; intro a hE
    refine WL.vS hS hE (runs_plain rfl) (Gives.p hE rfl) rfl ?_; clear hE a; intro a hE
    refine WL.vS hS hE (runs_plain rfl) (Gives.p hE rfl) rfl ?_; clear hE a; intro a hE
    refine WL.vS hS hE (runs_plain rfl) (Gives.p hE rfl) rfl ?_; clear hE a; intro a hE
    refine WL.vS hS hE (runs_plain rfl) (Gives.p hE rfl) rfl ?_; clear hE a; intro a hE
    refine WL.vS hS hE (runs_plain rfl) (Gives.p hE rfl) rfl ?_; clear hE a; intro a hE
    refine WL.nil ?_
    refine W.seq ?_
    refine W.seq ?_
    refine W.region ?_
    refine WL.vS hS hE (runs_plain rfl) (Gives.p hE rfl) rfl ?_; clear hE a; intro a hE
    refine WL.vS hS hE (runs_plain rfl) (Gives.p hE rfl) rfl ?_; clear hE a; intro a hE
    refine WL.nil ?_
    refine W.cond hE rfl (fun hc61 => ?_) (fun hc61 => ?_)
    · replace hr := iteT hc61 hr
      refine W.seq ?_
      refine W.region ?_
      refine WL.vS hS hE (runs_plain rfl) (Gives.build hE (vs := []) [.slice none 0 0, .slice none 0 0] rfl (by kernel_rfl)) rfl ?_; clear hE a; intro a hE
      refine WL.storeI hE hS 1 rfl [.slice none 0 0, .slice none 0 0] (runs_plain rfl) rfl rfl rfl ty33 rfl rfl rfl rfl ?_; clear hE hS a w; intro a w hE hS
      refine WL.vS hS hE (runs_plain rfl) (Gives.p hE rfl) rfl ?_; clear hE a; intro a hE
      refine WL.nil ?_
      refine W.ret ?_
      refine finG (fn := Tryd.f17) (rs := [.cell 2 33, .tmp 3]) (vs := [_, _]) hE rfl ⟨⟨_, rfl, .inl ⟨_, rfl, hS.seesAt 1 rfl, ty33⟩⟩, rfl, trivial⟩ ?_
      obtain rfl := Option.some.inj hr
      replace hS := hS.tail
      replace hS := hS.tail
      exact ⟨_, s, rfl, (Sg.Le.refl _), ⟨_, _, _, _, rfl, Sl.nil, Sl.nil⟩, hS⟩
    · replace hr := iteF hc61 hr
      refine W.skip ?_
      refine W.seq ?_
      refine W.region ?_
      refine WL.vS hS hE (runs_plain rfl) (Gives.p hE rfl) rfl ?_; clear hE a; intro a hE
      have hF := hS.fixD RS.mono 0 rfl h59 rfl; clear hS; obtain ⟨s62, hle63, hS, h64⟩ := hF
      obtain ⟨q65, hq66, hr⟩ := bindS hr
      have hc_ := Fishref2dayOf_ok hS (TabG.mono hle63 hTab) h64 hq66
      refine WL.fnq hE (hc_) (runs_plain rfl) bd48 rfl rfl rfl ?_
      clear hE hS hc_; rintro e w ⟨cs67, s69, rfl, hle70, h68, hS⟩; refine ⟨_, rfl, ?_⟩; clear a; intro a hE
      replace h64 := Sl.mono RS.mono hle70 h64
      obtain ⟨a71, c72, a74, c75, rfl, h73, h76⟩ := h68
      refine WL.vS hS hE (runs_plain rfl) (Gives.p hE rfl) rfl ?_; clear hE a; intro a hE
      refine WL.vS hS hE (runs_plain rfl) (Gives.p hE rfl) rfl ?_; clear hE a; intro a hE
      refine WL.vS hS hE (runs_plain rfl) (Gives.p hE rfl) rfl ?_; clear hE a; intro a hE
      refine WL.alloc hE hS (runs_plain rfl) zr33 rfl ?_; clear hE hS a w; intro b77 a w hE hS
      refine WL.storeI hE hS 0 rfl [.slice a71 q65.1.Trains.length c72, .slice a74 q65.1.Turns.length c75] (runs_plain rfl) rfl rfl rfl ty33 rfl rfl rfl rfl ?_; clear hE hS a w; intro a w hE hS
      refine WL.vS hS hE (runs_plain rfl) (Gives.p hE rfl) rfl ?_; clear hE a; intro a hE
      refine WL.nil ?_
      refine W.seq ?_
      refine W.seq ?_
      refine W.region ?_
      refine WL.vS hS hE (runs_plain rfl) (Gives.p hE rfl) rfl ?_; clear hE a; intro a hE
      refine WL.vS hS hE (runs_plain rfl) (Gives.p hE rfl) rfl ?_; clear hE a; intro a hE
      refine WL.nil ?_
      refine W.cond hE rfl (fun hc78 => ?_) (fun hc78 => ?_)
      · replace hr := iteT hc78 hr
        refine W.seq ?_
        refine W.region ?_
        refine WL.vS hS hE (runs_plain rfl) (Gives.build hE (vs := []) [.slice none 0 0, .slice none 0 0] rfl (by kernel_rfl)) rfl ?_; clear hE a; intro a hE
        refine WL.storeI hE hS 1 rfl [.slice none 0 0, .slice none 0 0] (runs_plain rfl) rfl rfl rfl ty33 rfl rfl rfl rfl ?_; clear hE hS a w; intro a w hE hS
        refine WL.vS hS hE (runs_plain rfl) (Gives.p hE rfl) rfl ?_; clear hE a; intro a hE
        refine WL.nil ?_
        refine W.ret ?_
        refine finG (fn := Tryd.f17) (rs := [.cell 2 33, .tmp 3]) (vs := [_, _]) hE rfl ⟨⟨_, rfl, .inl ⟨_, rfl, hS.seesAt 1 rfl, ty33⟩⟩, rfl, trivial⟩ ?_
        obtain rfl := Option.some.inj hr
        replace hS := hS.tail
        replace hS := hS.tail
        exact ⟨_, s69, rfl, (Sg.Le.trans hle63 hle70), ⟨_, _, _, _, rfl, Sl.nil, Sl.nil⟩, hS⟩
      · replace hr := iteF hc78 hr
        refine W.skip ?_
        refine W.seq ?_
        refine W.seq ?_
        refine W.region ?_
        refine WL.vS hS hE (runs_plain rfl) (Gives.loadBA hE 0 rfl rfl ty33) rfl ?_; clear hE a; intro a hE
        obtain ⟨q79, hq80, hr⟩ := bindS hr
        have hc_ := Fishref2TextFault_ok hS h73 h76 hq80
        refine WL.fnq hE (hc_) (runs_plain rfl) bd13 rfl rfl rfl ?_
        clear hE hS hc_; rintro e w ⟨rfl, hS⟩; refine ⟨_, rfl, ?_⟩; clear a; intro a hE
        refine WL.vS hS hE (runs_plain rfl) (Gives.p hE rfl) rfl ?_; clear hE a; intro a hE
        refine WL.nil ?_
        refine W.seq ?_
        refine W.region ?_
        refine WL.vS hS hE (runs_plain rfl) (Gives.p hE rfl) rfl ?_; clear hE a; intro a hE
        refine WL.vS hS hE (runs_plain rfl) (Gives.p hE rfl) rfl ?_; clear hE a; intro a hE
        refine WL.nil ?_
        refine W.cond hE rfl (fun hc81 => ?_) (fun hc81 => ?_)
        · replace hr := iteT hc81 hr
          refine W.seq ?_
          refine W.region ?_
          refine WL.vS hS hE (runs_plain rfl) (Gives.build hE (vs := []) [.slice none 0 0, .slice none 0 0] rfl (by kernel_rfl)) rfl ?_; clear hE a; intro a hE
          refine WL.vS hS hE (runs_plain rfl) (Gives.p hE rfl) rfl ?_; clear hE a; intro a hE
          refine WL.storeI hE hS 1 rfl [.slice none 0 0, .slice none 0 0] (runs_plain rfl) rfl rfl rfl ty33 rfl rfl rfl rfl ?_; clear hE hS a w; intro a w hE hS
          refine WL.vS hS hE (runs_plain rfl) (Gives.p hE rfl) rfl ?_; clear hE a; intro a hE
          refine WL.nil ?_
          refine W.ret ?_
          refine finG (fn := Tryd.f17) (rs := [.cell 2 33, .tmp 3]) (vs := [_, _]) hE rfl ⟨⟨_, rfl, .inl ⟨_, rfl, hS.seesAt 1 rfl, ty33⟩⟩, rfl, trivial⟩ ?_
          obtain rfl := Option.some.inj hr
          replace hS := hS.tail
          replace hS := hS.tail
          exact ⟨_, s69, rfl, (Sg.Le.trans hle63 hle70), ⟨_, _, _, _, rfl, Sl.nil, Sl.nil⟩, hS⟩
        · replace hr := iteF hc81 hr
          refine W.skip ?_
          refine W.seq ?_
          refine W.region ?_
          refine WL.vS hS hE (runs_plain rfl) (Gives.loadBA hE 0 rfl rfl ty33) rfl ?_; clear hE a; intro a hE
          refine WL.storeI hE hS 1 rfl [.slice a71 q65.1.Trains.length c72, .slice a74 q65.1.Turns.length c75] (runs_plain rfl) rfl rfl rfl ty33 rfl rfl rfl rfl ?_; clear hE hS a w; intro a w hE hS
          refine WL.vS hS hE (runs_plain rfl) (Gives.p hE rfl) rfl ?_; clear hE a; intro a hE
          refine WL.nil ?_
          refine W.ret ?_
          refine finG (fn := Tryd.f17) (rs := [.cell 2 33, .tmp 3]) (vs := [_, _]) hE rfl ⟨⟨_, rfl, .inl ⟨_, rfl, hS.seesAt 1 rfl, ty33⟩⟩, rfl, trivial⟩ ?_
          obtain rfl := Option.some.inj hr
          replace hS := hS.tail
          replace hS := hS.tail
          exact ⟨_, s69, rfl, (Sg.Le.trans hle63 hle70), ⟨_, _, _, _, rfl, h73, h76⟩, hS⟩
set_option maxHeartbeats 8000000 in
theorem Fishlaw2plans_ok  {w : World} {s : Sg} {R : List HP}  (hS : St w s (R)) (hTab : TabX s) {r : Bool} (hr : Fishlaw2plans = some r) :
    Calls Tryd.prog 10 [].toArray w (fun e w => e = .returned (.bool r) ∧ St w s (R)) := by
  refine enter Tryd.func10 rfl rfl rfl fun a hE => ?_
  rw [Fishlaw2plans] at hr
  refine W.seq ?_
  refine W.region ?_
  refine WL.vS hS hE (runs_plain rfl) (Gives.p hE rfl) rfl ?_; clear hE a; intro a hE
  refine WL.nil ?_
  refine W.seq ?_
  refine W.region ?_
  refine WL.vS hS hE (runs_plain rfl) (Gives.build hE (vs := [(3, .int .i64 3)]) [.int .i64 0, .int .i64 0, .int .i64 0, .int .i64 3] rfl (by kernel_rfl)) rfl ?_; clear hE a; intro a hE
  refine WL.vS hS hE (runs_plain rfl) (Gives.build hE (vs := [(0, .int .i64 1), (1, .int .i64 5), (2, .int .i64 9), (3, .int .i64 9)]) [.int .i64 1, .int .i64 5, .int .i64 9, .int .i64 9] rfl (by kernel_rfl)) rfl ?_; clear hE a; intro a hE
  refine WL.lit hE hS (e := 64) (es := 4) (vs := [(0, .agg (List.toArray [.int .i64 0, .int .i64 0, .int .i64 0, .int .i64 3])), (1, .agg (List.toArray [.int .i64 1, .int .i64 5, .int .i64 9, .int .i64 9]))]) (cs := [.int .i64 0, .int .i64 0, .int .i64 0, .int .i64 3, .int .i64 1, .int .i64 5, .int .i64 9, .int .i64 9]) (runs_plain rfl) rfl (by kernel_rfl) rfl ?_; clear hE hS a w; intro b51 a w hE hS
  replace hS := hS.ptVec (es := 4) (m := 2) rfl (by decide)
  have h53 : Ev 4 RApiStop s [.int .i64 0, .int .i64 0, .int .i64 0, .int .i64 3, .int .i64 1, .int .i64 5, .int .i64 9, .int .i64 9] [(ApiStop.mk 0 0 0 3), (ApiStop.mk 1 5 9 9)] := (Ev.cons (c1 := [.int .i64 0, .int .i64 0, .int .i64 0, .int .i64 3]) rfl rfl (Ev.cons (c1 := [.int .i64 1, .int .i64 5, .int .i64 9, .int .i64 9]) rfl rfl (Ev.nil)))
  have hF := hS.fixD RApiStop.mono 0 rfl h53 (rfl); clear hS; obtain ⟨s54, hle55, hS, h56⟩ := hF
  refine WL.lit hE hS (e := 3) (es := 1) (vs := [(0, .int .i64 0), (1, .int .i64 3)]) (cs := [.int .i64 0, .int .i64 3]) (runs_plain rfl) rfl (by kernel_rfl) rfl ?_; clear hE hS a w; intro b57 a w hE hS
  replace hS := hS.ptVec (es := 1) (m := 2) rfl (by decide)
  have h59 : Ev 1 (RI .i64) s54 [.int .i64 0, .int .i64 3] [0, 3] := (Ev.cons (c1 := [.int .i64 0]) rfl rfl (Ev.cons (c1 := [.int .i64 3]) rfl rfl (Ev.nil)))
  have hF := hS.fixD RI.mono 0 rfl h59 (rfl); clear hS; obtain ⟨s60, hle61, hS, h62⟩ := hF
  replace h56 := Sl.mono RApiStop.mono hle61 h56
  refine WL.lit hE hS (e := 23) (es := 1) (vs := [(0, .slice (some ⟨b57, 0, none⟩) 2 2)]) (cs := [.slice (some ⟨b57, 0, none⟩) 2 2]) (runs_plain rfl) rfl (by kernel_rfl) rfl ?_; clear hE hS a w; intro b63 a w hE hS
  replace hS := hS.ptVec (es := 1) (m := 1) rfl (by decide)
  have h65 : Ev 1 (RL 1 (RI .i64)) s60 [.slice (some ⟨b57, 0, none⟩) 2 2] [[0, 3]] := (Ev.cons (c1 := [.slice (some ⟨b57, 0, none⟩) 2 2]) ⟨_, _, rfl, h62⟩ rfl (Ev.nil))
  have hF := hS.fixD (RL.mono RI.mono) 0 rfl h65 (rfl); clear hS; obtain ⟨s66, hle67, hS, h68⟩ := hF
  replace h56 := Sl.mono RApiStop.mono hle67 h56
  replace h62 := Sl.mono RI.mono hle67 h62
  refine WL.vS hS hE (runs_plain rfl) (Gives.build hE (vs := [(0, .int .i64 7), (2, .slice (some ⟨b51, 0, none⟩) 2 2), (3, .slice (some ⟨b63, 0, none⟩) 1 1)]) [.int .i64 7, .int .i64 0, .slice (some ⟨b51, 0, none⟩) 2 2, .slice (some ⟨b63, 0, none⟩) 1 1] rfl (by kernel_rfl)) rfl ?_; clear hE a; intro a hE
  refine WL.lit hE hS (e := 67) (es := 4) (vs := [(0, .agg (List.toArray [.int .i64 7, .int .i64 0, .slice (some ⟨b51, 0, none⟩) 2 2, .slice (some ⟨b63, 0, none⟩) 1 1]))]) (cs := [.int .i64 7, .int .i64 0, .slice (some ⟨b51, 0, none⟩) 2 2, .slice (some ⟨b63, 0, none⟩) 1 1]) (runs_plain rfl) rfl (by kernel_rfl) rfl ?_; clear hE hS a w; intro b69 a w hE hS
  replace hS := hS.ptVec (es := 4) (m := 1) rfl (by decide)
  have h71 : Ev 4 RApiTrain s66 [.int .i64 7, .int .i64 0, .slice (some ⟨b51, 0, none⟩) 2 2, .slice (some ⟨b63, 0, none⟩) 1 1] [(ApiTrain.mk 7 0 [(ApiStop.mk 0 0 0 3), (ApiStop.mk 1 5 9 9)] [[0, 3]])] := (Ev.cons (c1 := [.int .i64 7, .int .i64 0, .slice (some ⟨b51, 0, none⟩) 2 2, .slice (some ⟨b63, 0, none⟩) 1 1]) ⟨_, _, _, _, rfl, h56, h68⟩ rfl (Ev.nil))
  have hF := hS.fixD RApiTrain.mono 0 rfl h71 (rfl); clear hS; obtain ⟨s72, hle73, hS, h74⟩ := hF
  replace h56 := Sl.mono RApiStop.mono hle73 h56
  replace h62 := Sl.mono RI.mono hle73 h62
  replace h68 := Sl.mono (RL.mono RI.mono) hle73 h68
  refine WL.lit hE hS (e := 3) (es := 1) (vs := [(0, .int .i64 0)]) (cs := [.int .i64 0]) (runs_plain rfl) rfl (by kernel_rfl) rfl ?_; clear hE hS a w; intro b75 a w hE hS
  replace hS := hS.ptVec (es := 1) (m := 1) rfl (by decide)
  have h77 : Ev 1 (RI .i64) s72 [.int .i64 0] [0] := (Ev.cons (c1 := [.int .i64 0]) rfl rfl (Ev.nil))
  have hF := hS.fixD RI.mono 0 rfl h77 (rfl); clear hS; obtain ⟨s78, hle79, hS, h80⟩ := hF
  replace h56 := Sl.mono RApiStop.mono hle79 h56
  replace h62 := Sl.mono RI.mono hle79 h62
  replace h68 := Sl.mono (RL.mono RI.mono) hle79 h68
  replace h74 := Sl.mono RApiTrain.mono hle79 h74
  refine WL.lit hE hS (e := 23) (es := 1) (vs := [(0, .slice (some ⟨b75, 0, none⟩) 1 1)]) (cs := [.slice (some ⟨b75, 0, none⟩) 1 1]) (runs_plain rfl) rfl (by kernel_rfl) rfl ?_; clear hE hS a w; intro b81 a w hE hS
  replace hS := hS.ptVec (es := 1) (m := 1) rfl (by decide)
  have h83 : Ev 1 (RL 1 (RI .i64)) s78 [.slice (some ⟨b75, 0, none⟩) 1 1] [[0]] := (Ev.cons (c1 := [.slice (some ⟨b75, 0, none⟩) 1 1]) ⟨_, _, rfl, h80⟩ rfl (Ev.nil))
  have hF := hS.fixD (RL.mono RI.mono) 0 rfl h83 (rfl); clear hS; obtain ⟨s84, hle85, hS, h86⟩ := hF
  replace h56 := Sl.mono RApiStop.mono hle85 h56
  replace h62 := Sl.mono RI.mono hle85 h62
  replace h68 := Sl.mono (RL.mono RI.mono) hle85 h68
  replace h74 := Sl.mono RApiTrain.mono hle85 h74
  replace h80 := Sl.mono RI.mono hle85 h80
  refine WL.vS hS hE (runs_plain rfl) (Gives.build hE (vs := [(0, .slice (some ⟨b69, 0, none⟩) 1 1), (1, .slice (some ⟨b81, 0, none⟩) 1 1)]) [.slice (some ⟨b69, 0, none⟩) 1 1, .slice (some ⟨b81, 0, none⟩) 1 1] rfl (by kernel_rfl)) rfl ?_; clear hE a; intro a hE
  obtain ⟨q87, hq88, hr⟩ := bindS hr
  have hc_ := PlanText_ok hS (TabG.mono (Sg.Le.trans (Sg.Le.trans (Sg.Le.trans (Sg.Le.trans (Sg.Le.trans hle55 hle61) hle67) hle73) hle79) hle85) hTab) h74 h86 hq88
  refine WL.fnq hE (hc_) (runs_plain rfl) bd12 rfl rfl rfl ?_
  clear hE hS hc_; rintro e w ⟨rfl, hS⟩; refine ⟨_, rfl, ?_⟩; clear a; intro a hE
  refine WL.vS hS hE (runs_plain rfl) (Gives.p hE rfl) rfl ?_; clear hE a; intro a hE
  refine WL.vS hS hE (runs_plain rfl) (Gives.p hE rfl) rfl ?_; clear hE a; intro a hE
  refine WL.vS hS hE (runs_plain rfl) (Gives.p hE rfl) rfl ?_; clear hE a; intro a hE
  refine WL.vS hS hE (runs_plain rfl) (Gives.p hE rfl) rfl ?_; clear hE a; intro a hE
  refine WL.vS hS hE (runs_plain rfl) (Gives.p hE rfl) rfl ?_; clear hE a; intro a hE
  refine WL.nil ?_
  refine W.seq ?_
  obtain ⟨q90, hq89, hr⟩ := bndS hr
  refine W.cut (fun a w => ∃ (q93 : Bool), q93 = q90 ∧ Rep a 23 [(0, .bool q93)] ∧ St w s84 (R)) ?_ ?_
  · refine W.gen fun K94 hK94 => ?_
    refine W.region ?_
    refine WL.vS hS hE (runs_plain rfl) (Gives.p hE rfl) rfl ?_; clear hE a; intro a hE
    refine WL.vS hS hE (runs_plain rfl) (Gives.p hE rfl) rfl ?_; clear hE a; intro a hE
    refine WL.vS hS hE (runs_plain rfl) (Gives.p hE rfl) rfl ?_; clear hE a; intro a hE
    rcases Bool.eq_false_or_eq_true (q87.2 == 0) with hg95 | hg95
    · replace hq89 := iteT hg95 hq89
      refine WL.vS hS hE (runs_if hE rfl rfl rfl hg95) (Gives.p hE rfl) rfl ?_; clear hE a; intro a hE
      refine WL.vS hS hE (runs_if hE rfl rfl rfl hg95) (Gives.eqSt hE rfl rfl) rfl ?_; clear hE a; intro a hE
      refine WL.vS hS hE (runs_plain rfl) (Gives.pickT hE rfl hg95 rfl) rfl ?_; clear hE a; intro a hE
      refine WL.vS hS hE (runs_plain rfl) (Gives.p hE rfl) rfl ?_; clear hE a; intro a hE
      refine WL.nil ?_
      subst hK94
      exact ⟨(seq q87.1 (str [116, 114, 97, 105, 110, 32, 55, 32, 48, 10, 115, 116, 111, 112, 32, 48, 32, 48, 32, 48, 32, 51, 10, 115, 116, 111, 112, 32, 49, 32, 53, 32, 57, 32, 57, 10, 108, 101, 103, 32, 48, 32, 51, 10, 116, 117, 114, 110, 32, 48, 10])), hq89, hE.pick _ ⟨rfl, trivial⟩, hS⟩
    · replace hq89 := iteF hg95 hq89
      refine WL.no hE (runs_not hE rfl rfl rfl (by rw [hg95]; decide)) rfl ?_; clear hE a; intro a hE
      refine WL.no hE (runs_not hE rfl rfl rfl (by rw [hg95]; decide)) rfl ?_; clear hE a; intro a hE
      refine WL.vS hS hE (runs_plain rfl) (Gives.pickF hE rfl hg95 rfl) rfl ?_; clear hE a; intro a hE
      refine WL.vS hS hE (runs_plain rfl) (Gives.p hE rfl) rfl ?_; clear hE a; intro a hE
      refine WL.nil ?_
      subst hK94
      exact ⟨false, hq89, hE.pick _ ⟨rfl, trivial⟩, hS⟩
  · clear hE hS a w; rintro a w ⟨q93, rfl, hE, hS⟩
    refine W.ret ?_
    refine finG (fn := Tryd.f10) (rs := [.tmp 0]) (vs := [_]) hE rfl ⟨rfl, trivial⟩ ?_
    obtain rfl := Option.some.inj hr
    exact ⟨rfl, (hS.down (Sg.Le.trans (Sg.Le.trans (Sg.Le.trans (Sg.Le.trans (Sg.Le.trans hle55 hle61) hle67) hle73) hle79) hle85))⟩
set_option maxHeartbeats 8000000 in
theorem SlicesEqualLapiStop_ok  {w : World} {s : Sg} {R : List HP} {x0 : List ApiStop} {a0 : Option Addr} {c0 : Nat} {x1 : List ApiStop} {a1 : Option Addr} {c1 : Nat} (hS : St w s (R)) (h0 : Sl 4 RApiStop s a0 c0 x0) (h1 : Sl 4 RApiStop s a1 c1 x1) {r : Bool} (hr : SlicesEqualLapiStop x0 x1 = some r) :
    Calls Tryd.prog 72 [.slice a0 x0.length c0, .slice a1 x1.length c1].toArray w (fun e w => e = .returned (.bool r) ∧ St w s (R)) := by
  refine enter Tryd.func72 rfl rfl rfl fun a hE => ?_
  rw [SlicesEqualLapiStop] at hr
  refine W.seq ?_
  refine W.region ?_
  refine WL.vS hS hE (runs_plain rfl) (Gives.p hE rfl) rfl ?_; clear hE a; intro a hE
  refine WL.nil ?_
  refine W.seq ?_
  refine W.seq ?_
  refine W.region ?_
  refine WL.vS hS hE (runs_plain rfl) (Gives.p hE rfl) rfl ?_; clear hE a; intro a hE
  refine WL.vS hS hE (runs_plain rfl) (Gives.len hE rfl sl65) rfl ?_; clear hE a; intro a hE
  refine WL.vS hS hE (runs_plain rfl) (Gives.p hE rfl) rfl ?_; clear hE a; intro a hE
  refine WL.vS hS hE (runs_plain rfl) (Gives.len hE rfl sl65) rfl ?_; clear hE a; intro a hE
  refine WL.vS hS hE (runs_plain rfl) (Gives.p hE rfl) rfl ?_; clear hE a; intro a hE
  refine WL.nil ?_
  refine W.cond hE rfl (fun hc51 => ?_) (fun hc51 => ?_)
  · replace hr := iteT hc51 hr
    refine W.seq ?_
    refine W.region ?_
    refine WL.vS hS hE (runs_plain rfl) (Gives.p hE rfl) rfl ?_; clear hE a; intro a hE
    refine WL.nil ?_
    refine W.ret ?_
    refine finG (fn := Tryd.f72) (rs := [.tmp 4]) (vs := [_]) hE rfl ⟨rfl, trivial⟩ ?_
    obtain rfl := Option.some.inj hr
    exact ⟨rfl, hS⟩
  · replace hr := iteF hc51 hr
    refine W.skip ?_
    refine W.seq ?_
    refine W.seq ?_
    refine W.region ?_
    refine WL.vS hS hE (runs_plain rfl) (Gives.p hE rfl) rfl ?_; clear hE a; intro a hE
    refine WL.vS hS hE (runs_plain rfl) (Gives.len hE rfl sl65) rfl ?_; clear hE a; intro a hE
    refine WL.vS hS hE (runs_plain rfl) (Gives.p hE rfl) rfl ?_; clear hE a; intro a hE
    refine WL.nil ?_
    obtain ⟨q53, hq52, hr⟩ := bindS hr
    refine W.cut (fun a w => (.next ()) = q53 ∧ Rep a 26 [] ∧ St w s (R)) ?_ ?_
    · refine W.block ?_
      refine W.loop (fun m a w => ∃ (rest56 : List ApiStop) (k54 : Nat), rest56.length = m ∧ x0.drop k54 = rest56 ∧ SlicesEqualLapiStop.loop1 x1 rest56 k54 = some q53 ∧ Rep a 26 [(0, .slice a0 x0.length c0), (1, .slice a1 x1.length c1), (12, .int .i64 ((x0).length : Int)), (13, .int .i64 ((k54 : Nat) : Int))] ∧ St w s (R)) (m := x0.length) ⟨x0, 0, rfl, rfl, hq52, hE.pick _ ⟨rfl, rfl, rfl, rfl, trivial⟩, hS⟩ ?_
      clear hE hS a w hq52; rintro m60 a w ⟨rest56, k54, rfl, hd57, hq52, hE, hS⟩
      refine W.gen fun K63 hK63 => ?_
      rcases rest56 with _ | ⟨x55, rest56⟩
      · have hlt58 := drop_nil hd57
        refine W.seq ?_
        refine W.region ?_
        refine WL.vS hS hE (runs_plain rfl) (Gives.p hE rfl) rfl ?_; clear hE a; intro a hE
        refine WL.nil ?_
        refine W.seq ?_
        refine W.condF hE rfl (decide_eq_false (by omega)) ?_
        subst hK63
        refine W.exit rfl ?_
        exact ⟨Option.some.inj hq52, hE.pick _ trivial, hS⟩
      · obtain ⟨hlt58, hx59, hd57⟩ := drop_cons hd57
        rw [SlicesEqualLapiStop.loop1] at hq52
        refine W.seq ?_
        refine W.region ?_
        refine WL.vS hS hE (runs_plain rfl) (Gives.p hE rfl) rfl ?_; clear hE a; intro a hE
        refine WL.nil ?_
        refine W.seq ?_
        refine W.condT hE rfl (decide_eq_true (by omega)) ?_
        refine W.skip ?_
        refine W.seq ?_
        refine W.block ?_
        refine W.seq ?_
        refine W.region ?_
        refine WL.vS hS hE (runs_plain rfl) (Gives.p hE rfl) rfl ?_; clear hE a; intro a hE
        refine WL.vS hS hE (runs_plain rfl) (Gives.p hE rfl) rfl ?_; clear hE a; intro a hE
        refine WL.nil ?_
        refine W.seq ?_
        refine W.regionQ (C := fun w => St w s (R)) mixed (by kernel_rfl) hS.drew ?_
        refine QL.v hE (runs_plain rfl) (Gives.p hE rfl) rfl ?_; clear hE a; intro a hE
        refine QL.v hE (runs_plain rfl) (Gives.p hE rfl) rfl ?_; clear hE a; intro a hE
        obtain ⟨cs64, hl65, hR66, hat67⟩ := h0.at hx59
        subst hR66
        refine QL.v hE (runs_plain rfl) (Gives.idx hE k54 rfl rfl sl65 rfl hlt58 (h0.aok hlt58)) rfl ?_; clear hE a; intro a hE
        refine QL.v hE (runs_plain rfl) (Gives.loadA hE rfl (fun w h => hat67 w _ h) ty64) rfl ?_; clear hE a; intro a hE
        refine QL.v hE (runs_plain rfl) (Gives.p hE rfl) rfl ?_; clear hE a; intro a hE
        refine QL.v hE (runs_plain rfl) (Gives.p hE rfl) rfl ?_; clear hE a; intro a hE
        obtain ⟨x68, hx69, hq52⟩ := bindS hq52
        obtain ⟨hi70, hlt71, hy72⟩ := gx_some hx69
        obtain ⟨cs73, hl74, hR75, hat76⟩ := h1.at hy72
        subst hR75
        refine QL.v hE (runs_plain rfl) (Gives.idx hE (((k54 : Nat) : Int)).toNat rfl rfl sl65 hi70 hlt71 (h1.aok hlt71)) rfl ?_; clear hE a; intro a hE
        refine QL.v hE (runs_plain rfl) (Gives.loadA hE rfl (fun w h => hat76 w _ h) ty64) rfl ?_; clear hE a; intro a hE
        refine QL.v hE (runs_plain rfl) (show Gives _ _ _ _ (Value.bool (!((x55.Station == x68.Station) && ((x55.Track == x68.Track) && ((x55.Arr == x68.Arr) && (x55.Dep == x68.Dep)))))) from Gives.neS hE [.i .i64, .i .i64, .i .i64, .i .i64] [.i .i64 x55.Station, .i .i64 x55.Track, .i .i64 x55.Arr, .i .i64 x55.Dep] [.i .i64 x68.Station, .i .i64 x68.Track, .i .i64 x68.Arr, .i .i64 x68.Dep] rfl rfl se64 rfl rfl rfl rfl) rfl ?_; clear hE a; intro a hE
        refine QL.nil ?_; clear hS w; intro w hS
        refine W.cond hE rfl (fun hc77 => ?_) (fun hc77 => ?_)
        · replace hq52 := iteT hc77 hq52
          refine W.seq ?_
          refine W.region ?_
          refine WL.vS hS hE (runs_plain rfl) (Gives.p hE rfl) rfl ?_; clear hE a; intro a hE
          refine WL.nil ?_
          refine W.ret ?_
          subst hK63
          rw [← Option.some.inj hq52] at hr
          dsimp only at hr
          refine finG (fn := Tryd.f72) (rs := [.tmp 4]) (vs := [_]) hE rfl ⟨rfl, trivial⟩ ?_
          obtain rfl := Option.some.inj hr
          exact ⟨rfl, hS⟩
        · replace hq52 := iteF hc77 hq52
          refine W.skip ?_
          refine W.region ?_
          refine WL.vS hS hE (runs_plain rfl) (Gives.inc hE rfl (by have := h0.small; omega)) rfl ?_; clear hE a; intro a hE
          refine WL.vS hS hE (runs_plain rfl) (Gives.p hE rfl) rfl ?_; clear hE a; intro a hE
          refine WL.nil ?_
          subst hK63
          exact ⟨rest56.length, Nat.lt_succ_self _, rest56, k54 + 1, rfl, hd57, hq52, hE.pick _ ⟨rfl, rfl, rfl, rfl, trivial⟩, hS⟩
    · clear hE hS a w; rintro a w ⟨rfl, hE, hS⟩
      dsimp only at hr
      refine W.seq ?_
      refine W.region ?_
      refine WL.vS hS hE (runs_plain rfl) (Gives.p hE rfl) rfl ?_; clear hE a; intro a hE
      refine WL.nil ?_
      refine W.ret ?_
      refine finG (fn := Tryd.f72) (rs := [.tmp 4]) (vs := [_]) hE rfl ⟨rfl, trivial⟩ ?_
      obtain rfl := Option.some.inj hr
      exact ⟨rfl, hS⟩
set_option maxHeartbeats 8000000 in
theorem SlicesEqualLint_ok  {w : World} {s : Sg} {R : List HP} {x0 : List Int} {a0 : Option Addr} {c0 : Nat} {x1 : List Int} {a1 : Option Addr} {c1 : Nat} (hS : St w s (R)) (h0 : Sl 1 (RI .i64) s a0 c0 x0) (h1 : Sl 1 (RI .i64) s a1 c1 x1) {r : Bool} (hr : SlicesEqualLint x0 x1 = some r) :
    Calls Tryd.prog 11 [.slice a0 x0.length c0, .slice a1 x1.length c1].toArray w (fun e w => e = .returned (.bool r) ∧ St w s (R)) := by
  refine enter Tryd.func11 rfl rfl rfl fun a hE => ?_
  rw [SlicesEqualLint] at hr
  refine W.seq ?_
  refine W.region ?_
  refine WL.vS hS hE (runs_plain rfl) (Gives.p hE rfl) rfl ?_; clear hE a; intro a hE
  refine WL.nil ?_
  refine W.seq ?_
  refine W.seq ?_
  refine W.region ?_
  refine WL.vS hS hE (runs_plain rfl) (Gives.p hE rfl) rfl ?_; clear hE a; intro a hE
  refine WL.vS hS hE (runs_plain rfl) (Gives.len hE rfl sl23) rfl ?_; clear hE a; intro a hE
  refine WL.vS hS hE (runs_plain rfl) (Gives.p hE rfl) rfl ?_; clear hE a; intro a hE
  refine WL.vS hS hE (runs_plain rfl) (Gives.len hE rfl sl23) rfl ?_; clear hE a; intro a hE
  refine WL.vS hS hE (runs_plain rfl) (Gives.p hE rfl) rfl ?_; clear hE a; intro a hE
  refine WL.nil ?_
  refine W.cond hE rfl (fun hc51 => ?_) (fun hc51 => ?_)
  · replace hr := iteT hc51 hr
    refine W.seq ?_
    refine W.region ?_
    refine WL.vS hS hE (runs_plain rfl) (Gives.p hE rfl) rfl ?_; clear hE a; intro a hE
    refine WL.nil ?_
    refine W.ret ?_
    refine finG (fn := Tryd.f11) (rs := [.tmp 4]) (vs := [_]) hE rfl ⟨rfl, trivial⟩ ?_
    obtain rfl := Option.some.inj hr
    exact ⟨rfl, hS⟩
  · replace hr := iteF hc51 hr
    refine W.skip ?_
    refine W.seq ?_
    refine W.seq ?_
    refine W.region ?_
    refine WL.vS hS hE (runs_plain rfl) (Gives.p hE rfl) rfl ?_; clear hE a; intro a hE
    refine WL.vS hS hE (runs_plain rfl) (Gives.len hE rfl sl23) rfl ?_; clear hE a; intro a hE
    refine WL.vS hS hE (runs_plain rfl) (Gives.p hE rfl) rfl ?_; clear hE a; intro a hE
    refine WL.nil ?_
    obtain ⟨q53, hq52, hr⟩ := bindS hr
    refine W.cut (fun a w => (.next ()) = q53 ∧ Rep a 26 [] ∧ St w s (R)) ?_ ?_
    · refine W.block ?_
      refine W.loop (fun m a w => ∃ (rest56 : List Int) (k54 : Nat), rest56.length = m ∧ x0.drop k54 = rest56 ∧ SlicesEqualLint.loop1 x1 rest56 k54 = some q53 ∧ Rep a 26 [(0, .slice a0 x0.length c0), (1, .slice a1 x1.length c1), (12, .int .i64 ((x0).length : Int)), (13, .int .i64 ((k54 : Nat) : Int))] ∧ St w s (R)) (m := x0.length) ⟨x0, 0, rfl, rfl, hq52, hE.pick _ ⟨rfl, rfl, rfl, rfl, trivial⟩, hS⟩ ?_
      clear hE hS a w hq52; rintro m60 a w ⟨rest56, k54, rfl, hd57, hq52, hE, hS⟩
      refine W.gen fun K63 hK63 => ?_
      rcases rest56 with _ | ⟨x55, rest56⟩
      · have hlt58 := drop_nil hd57
        refine W.seq ?_
        refine W.region ?_
        refine WL.vS hS hE (runs_plain rfl) (Gives.p hE rfl) rfl ?_; clear hE a; intro a hE
        refine WL.nil ?_
        refine W.seq ?_
        refine W.condF hE rfl (decide_eq_false (by omega)) ?_
        subst hK63
        refine W.exit rfl ?_
        exact ⟨Option.some.inj hq52, hE.pick _ trivial, hS⟩
      · obtain ⟨hlt58, hx59, hd57⟩ := drop_cons hd57
        rw [SlicesEqualLint.loop1] at hq52
        refine W.seq ?_
        refine W.region ?_
        refine WL.vS hS hE (runs_plain rfl) (Gives.p hE rfl) rfl ?_; clear hE a; intro a hE
        refine WL.nil ?_
        refine W.seq ?_
        refine W.condT hE rfl (decide_eq_true (by omega)) ?_
        refine W.skip ?_
        refine W.seq ?_
        refine W.block ?_
        refine W.seq ?_
        refine W.region ?_
        refine WL.vS hS hE (runs_plain rfl) (Gives.p hE rfl) rfl ?_; clear hE a; intro a hE
        refine WL.vS hS hE (runs_plain rfl) (Gives.p hE rfl) rfl ?_; clear hE a; intro a hE
        refine WL.nil ?_
        refine W.seq ?_
        refine W.regionQ (C := fun w => St w s (R)) mixed (by kernel_rfl) hS.drew ?_
        refine QL.v hE (runs_plain rfl) (Gives.p hE rfl) rfl ?_; clear hE a; intro a hE
        refine QL.v hE (runs_plain rfl) (Gives.p hE rfl) rfl ?_; clear hE a; intro a hE
        obtain ⟨cs64, hl65, hR66, hat67⟩ := h0.at hx59
        subst hR66
        refine QL.v hE (runs_plain rfl) (Gives.idx hE k54 rfl rfl sl23 rfl hlt58 (h0.aok hlt58)) rfl ?_; clear hE a; intro a hE
        refine QL.v hE (runs_plain rfl) (Gives.load1 hE rfl (fun w h => hat67 w _ h) ty3) rfl ?_; clear hE a; intro a hE
        refine QL.v hE (runs_plain rfl) (Gives.p hE rfl) rfl ?_; clear hE a; intro a hE
        refine QL.v hE (runs_plain rfl) (Gives.p hE rfl) rfl ?_; clear hE a; intro a hE
        obtain ⟨x68, hx69, hq52⟩ := bindS hq52
        obtain ⟨hi70, hlt71, hy72⟩ := gx_some hx69
        obtain ⟨cs73, hl74, hR75, hat76⟩ := h1.at hy72
        subst hR75
        refine QL.v hE (runs_plain rfl) (Gives.idx hE (((k54 : Nat) : Int)).toNat rfl rfl sl23 hi70 hlt71 (h1.aok hlt71)) rfl ?_; clear hE a; intro a hE
        refine QL.v hE (runs_plain rfl) (Gives.load1 hE rfl (fun w h => hat76 w _ h) ty3) rfl ?_; clear hE a; intro a hE
        refine QL.v hE (runs_plain rfl) (Gives.p hE rfl) rfl ?_; clear hE a; intro a hE
        refine QL.nil ?_; clear hS w; intro w hS
        refine W.cond hE rfl (fun hc77 => ?_) (fun hc77 => ?_)
        · replace hq52 := iteT hc77 hq52
          refine W.seq ?_
          refine W.region ?_
          refine WL.vS hS hE (runs_plain rfl) (Gives.p hE rfl) rfl ?_; clear hE a; intro a hE
          refine WL.nil ?_
          refine W.ret ?_
          subst hK63
          rw [← Option.some.inj hq52] at hr
          dsimp only at hr
          refine finG (fn := Tryd.f11) (rs := [.tmp 4]) (vs := [_]) hE rfl ⟨rfl, trivial⟩ ?_
          obtain rfl := Option.some.inj hr
          exact ⟨rfl, hS⟩
        · replace hq52 := iteF hc77 hq52
          refine W.skip ?_
          refine W.region ?_
          refine WL.vS hS hE (runs_plain rfl) (Gives.inc hE rfl (by have := h0.small; omega)) rfl ?_; clear hE a; intro a hE
          refine WL.vS hS hE (runs_plain rfl) (Gives.p hE rfl) rfl ?_; clear hE a; intro a hE
          refine WL.nil ?_
          subst hK63
          exact ⟨rest56.length, Nat.lt_succ_self _, rest56, k54 + 1, rfl, hd57, hq52, hE.pick _ ⟨rfl, rfl, rfl, rfl, trivial⟩, hS⟩
    · clear hE hS a w; rintro a w ⟨rfl, hE, hS⟩
      dsimp only at hr
      refine W.seq ?_
      refine W.region ?_
      refine WL.vS hS hE (runs_plain rfl) (Gives.p hE rfl) rfl ?_; clear hE a; intro a hE
      refine WL.nil ?_
      refine W.ret ?_
      refine finG (fn := Tryd.f11) (rs := [.tmp 4]) (vs := [_]) hE rfl ⟨rfl, trivial⟩ ?_
      obtain rfl := Option.some.inj hr
      exact ⟨rfl, hS⟩
set_option maxHeartbeats 8000000 in
theorem SlicesEqualFuncLLint_v1_ok  {w : World} {s : Sg} {R : List HP} {x0 : List (List Int)} {a0 : Option Addr} {c0 : Nat} {x1 : List (List Int)} {a1 : Option Addr} {c1 : Nat} (hS : St w s (R)) (h0 : Sl 1 (RL 1 (RI .i64)) s a0 c0 x0) (h1 : Sl 1 (RL 1 (RI .i64)) s a1 c1 x1) {r : Bool} (hr : SlicesEqualFuncLLint_v1 x0 x1 = some r) :
    Calls Tryd.prog 46 [.slice a0 x0.length c0, .slice a1 x1.length c1, .func (.func 11) #[] #[]].toArray w (fun e w => e = .returned (.bool r) ∧ St w s (R)) := by
  refine enter Tryd.func46 rfl rfl rfl fun a hE => ?_
  rw [SlicesEqualFuncLLint_v1] at hr
  refine W.seq ?_
  refine W.region ?_
  refine WL.vS hS hE (runs_plain rfl) (Gives.p hE rfl) rfl ?_; clear hE a; intro a hE
  refine WL.nil ?_
  refine W.seq ?_
  refine W.seq ?_
  refine W.region ?_
  refine WL.vS hS hE (runs_plain rfl) (Gives.p hE rfl) rfl ?_; clear hE a; intro a hE
  refine WL.vS hS hE (runs_plain rfl) (Gives.len hE rfl sl31) rfl ?_; clear hE a; intro a hE
  refine WL.vS hS hE (runs_plain rfl) (Gives.p hE rfl) rfl ?_; clear hE a; intro a hE
  refine WL.vS hS hE (runs_plain rfl) (Gives.len hE rfl sl31) rfl ?_; clear hE a; intro a hE
  refine WL.vS hS hE (runs_plain rfl) (Gives.p hE rfl) rfl ?_; clear hE a; intro a hE
  refine WL.nil ?_
  refine W.cond hE rfl (fun hc51 => ?_) (fun hc51 => ?_)
  · replace hr := iteT hc51 hr
    refine W.seq ?_
    refine W.region ?_
    refine WL.vS hS hE (runs_plain rfl) (Gives.p hE rfl) rfl ?_; clear hE a; intro a hE
    refine WL.nil ?_
    refine W.ret ?_
    refine finG (fn := Tryd.f46) (rs := [.tmp 6]) (vs := [_]) hE rfl ⟨rfl, trivial⟩ ?_
    obtain rfl := Option.some.inj hr
    exact ⟨rfl, hS⟩
  · replace hr := iteF hc51 hr
    refine W.skip ?_
    refine W.seq ?_
    refine W.seq ?_
    refine W.region ?_
    refine WL.vS hS hE (runs_plain rfl) (Gives.p hE rfl) rfl ?_; clear hE a; intro a hE
    refine WL.vS hS hE (runs_plain rfl) (Gives.len hE rfl sl31) rfl ?_; clear hE a; intro a hE
    refine WL.vS hS hE (runs_plain rfl) (Gives.p hE rfl) rfl ?_; clear hE a; intro a hE
    refine WL.nil ?_
    obtain ⟨q53, hq52, hr⟩ := bindS hr
    refine W.cut (fun a w => (.next ()) = q53 ∧ Rep a 32 [] ∧ St w s (R)) ?_ ?_
    · refine W.block ?_
      refine W.loop (fun m a w => ∃ (rest56 : List (List Int)) (k54 : Nat), rest56.length = m ∧ x0.drop k54 = rest56 ∧ SlicesEqualFuncLLint_v1.loop1 x1 rest56 k54 = some q53 ∧ Rep a 32 [(1, .slice a1 x1.length c1), (2, .func (.func 11) #[] #[]), (15, .slice a0 x0.length c0), (16, .int .i64 ((x0).length : Int)), (17, .int .i64 ((k54 : Nat) : Int))] ∧ St w s (R)) (m := x0.length) ⟨x0, 0, rfl, rfl, hq52, hE.pick _ ⟨rfl, rfl, rfl, rfl, rfl, trivial⟩, hS⟩ ?_
      clear hE hS a w hq52; rintro m60 a w ⟨rest56, k54, rfl, hd57, hq52, hE, hS⟩
      refine W.gen fun K63 hK63 => ?_
      rcases rest56 with _ | ⟨x55, rest56⟩
      · have hlt58 := drop_nil hd57
        refine W.seq ?_
        refine W.region ?_
        refine WL.vS hS hE (runs_plain rfl) (Gives.p hE rfl) rfl ?_; clear hE a; intro a hE
        refine WL.nil ?_
        refine W.seq ?_
        refine W.condF hE rfl (decide_eq_false (by omega)) ?_
        subst hK63
        refine W.exit rfl ?_
        exact ⟨Option.some.inj hq52, hE.pick _ trivial, hS⟩
      · obtain ⟨hlt58, hx59, hd57⟩ := drop_cons hd57
        rw [SlicesEqualFuncLLint_v1.loop1] at hq52
        refine W.seq ?_
        refine W.region ?_
        refine WL.vS hS hE (runs_plain rfl) (Gives.p hE rfl) rfl ?_; clear hE a; intro a hE
        refine WL.nil ?_
        refine W.seq ?_
        refine W.condT hE rfl (decide_eq_true (by omega)) ?_
        refine W.skip ?_
        refine W.seq ?_
        refine W.block ?_
        refine W.seq ?_
        refine W.region ?_
        refine WL.vS hS hE (runs_plain rfl) (Gives.p hE rfl) rfl ?_; clear hE a; intro a hE
        obtain ⟨cs64, hl65, hR66, hat67⟩ := h0.at hx59
        obtain ⟨a68, c69, rfl, h70⟩ := hR66
        refine WL.vS hS hE (runs_plain rfl) (Gives.idx hE k54 rfl rfl sl31 rfl hlt58 (h0.aok hlt58)) rfl ?_; clear hE a; intro a hE
        refine WL.vS hS hE (runs_plain rfl) (Gives.load1 hE rfl (fun w h => hat67 w _ h) ty23) rfl ?_; clear hE a; intro a hE
        refine WL.vS hS hE (runs_plain rfl) (Gives.p hE rfl) rfl ?_; clear hE a; intro a hE
        refine WL.vS hS hE (runs_plain rfl) (Gives.p hE rfl) rfl ?_; clear hE a; intro a hE
        refine WL.nil ?_
        refine W.seq ?_
        refine W.region ?_
        refine WL.vS hS hE (runs_plain rfl) (Gives.p hE rfl) rfl ?_; clear hE a; intro a hE
        refine WL.vS hS hE (runs_plain rfl) (Gives.p hE rfl) rfl ?_; clear hE a; intro a hE
        obtain ⟨x71, hx72, hq52⟩ := bindS hq52
        obtain ⟨hi73, hlt74, hy75⟩ := gx_some hx72
        obtain ⟨cs76, hl77, hR78, hat79⟩ := h1.at hy75
        obtain ⟨a80, c81, rfl, h82⟩ := hR78
        refine WL.vS hS hE (runs_plain rfl) (Gives.idx hE (((k54 : Nat) : Int)).toNat rfl rfl sl31 hi73 hlt74 (h1.aok hlt74)) rfl ?_; clear hE a; intro a hE
        refine WL.vS hS hE (runs_plain rfl) (Gives.load1 hE rfl (fun w h => hat79 w _ h) ty23) rfl ?_; clear hE a; intro a hE
        refine WL.vS hS hE (runs_plain rfl) (Gives.p hE rfl) rfl ?_; clear hE a; intro a hE
        refine WL.nil ?_
        refine W.seq ?_
        refine W.region ?_
        refine WL.vS hS hE (runs_plain rfl) (Gives.p hE rfl) rfl ?_; clear hE a; intro a hE
        refine WL.vS hS hE (runs_plain rfl) (Gives.p hE rfl) rfl ?_; clear hE a; intro a hE
        refine WL.vS hS hE (runs_plain rfl) (Gives.p hE rfl) rfl ?_; clear hE a; intro a hE
        obtain ⟨q83, hq84, hq52⟩ := bindS hq52
        have hc_ := SlicesEqualLint_ok hS h70 h82 hq84
        refine WL.fnw hE (hc_) rfl (runs_plain rfl) bd11 rfl rfl rfl ?_
        clear hE hS hc_; rintro e w ⟨rfl, hS⟩; refine ⟨_, rfl, ?_⟩; clear a; intro a hE
        refine WL.vS hS hE (runs_plain rfl) (Gives.p hE rfl) rfl ?_; clear hE a; intro a hE
        refine WL.nil ?_
        refine W.cond hE rfl (fun hc85 => ?_) (fun hc85 => ?_)
        · replace hq52 := iteT hc85 hq52
          refine W.seq ?_
          refine W.region ?_
          refine WL.vS hS hE (runs_plain rfl) (Gives.p hE rfl) rfl ?_; clear hE a; intro a hE
          refine WL.nil ?_
          refine W.ret ?_
          subst hK63
          rw [← Option.some.inj hq52] at hr
          dsimp only at hr
          refine finG (fn := Tryd.f46) (rs := [.tmp 6]) (vs := [_]) hE rfl ⟨rfl, trivial⟩ ?_
          obtain rfl := Option.some.inj hr
          exact ⟨rfl, hS⟩
        · replace hq52 := iteF hc85 hq52
          refine W.skip ?_
          refine W.region ?_
          refine WL.vS hS hE (runs_plain rfl) (Gives.inc hE rfl (by have := h0.small; omega)) rfl ?_; clear hE a; intro a hE
          refine WL.vS hS hE (runs_plain rfl) (Gives.p hE rfl) rfl ?_; clear hE a; intro a hE
          refine WL.nil ?_
          subst hK63
          exact ⟨rest56.length, Nat.lt_succ_self _, rest56, k54 + 1, rfl, hd57, hq52, hE.pick _ ⟨rfl, rfl, rfl, rfl, rfl, trivial⟩, hS⟩
    · clear hE hS a w; rintro a w ⟨rfl, hE, hS⟩
      dsimp only at hr
      refine W.seq ?_
      refine W.region ?_
      refine WL.vS hS hE (runs_plain rfl) (Gives.p hE rfl) rfl ?_; clear hE a; intro a hE
      refine WL.nil ?_
      refine W.ret ?_
      refine finG (fn := Tryd.f46) (rs := [.tmp 6]) (vs := [_]) hE rfl ⟨rfl, trivial⟩ ?_
      obtain rfl := Option.some.inj hr
      exact ⟨rfl, hS⟩
set_option maxHeartbeats 8000000 in
theorem Fishref2SameTrain_ok  {w : World} {s : Sg} {R : List HP} {x0 : ApiTrain} {a0_0 : Option Addr} {c0_0 : Nat} {a0_1 : Option Addr} {c0_1 : Nat} {x1 : ApiTrain} {a1_0 : Option Addr} {c1_0 : Nat} {a1_1 : Option Addr} {c1_1 : Nat} (hS : St w s (R)) (h0_0 : Sl 4 RApiStop s a0_0 c0_0 x0.Stops) (h0_1 : Sl 1 (RL 1 (RI .i64)) s a0_1 c0_1 x0.Legs) (h1_0 : Sl 4 RApiStop s a1_0 c1_0 x1.Stops) (h1_1 : Sl 1 (RL 1 (RI .i64)) s a1_1 c1_1 x1.Legs) {r : Bool} (hr : Fishref2SameTrain x0 x1 = some r) :
    Calls Tryd.prog 45 [.agg (List.toArray [.int .i64 x0.No, .int .i64 x0.Stock, .slice a0_0 x0.Stops.length c0_0, .slice a0_1 x0.Legs.length c0_1]), .agg (List.toArray [.int .i64 x1.No, .int .i64 x1.Stock, .slice a1_0 x1.Stops.length c1_0, .slice a1_1 x1.Legs.length c1_1])].toArray w (fun e w => e = .returned (.bool r) ∧ St w s (R)) := by
  refine enter Tryd.func45 rfl rfl rfl fun a hE => ?_
  rw [Fishref2SameTrain] at hr
  refine W.seq ?_
  refine W.region ?_
  refine WL.box hE hS (runs_plain rfl) rfl rfl rfl ?_; clear hE hS a w; intro b51 a w hE hS
  refine WL.box hE hS (runs_plain rfl) rfl rfl rfl ?_; clear hE hS a w; intro b52 a w hE hS
  refine WL.vS hS hE (runs_plain rfl) (Gives.p hE rfl) rfl ?_; clear hE a; intro a hE
  refine WL.nil ?_
  refine W.seq ?_
  obtain ⟨q54, hq53, hr⟩ := bindS hr
  refine W.cut (fun a w => ∃ (q57 : Bool), q57 = q54 ∧ Rep a 31 [(4, .bool q57)] ∧ St w s (pt b52 (.cells #[.int .i64 x1.No, .int .i64 x1.Stock, .slice a1_0 x1.Stops.length c1_0, .slice a1_1 x1.Legs.length c1_1] 67 (0, 0)) :: pt b51 (.cells #[.int .i64 x0.No, .int .i64 x0.Stock, .slice a0_0 x0.Stops.length c0_0, .slice a0_1 x0.Legs.length c0_1] 67 (0, 0)) :: R)) ?_ ?_
  · refine W.gen fun K58 hK58 => ?_
    refine W.region ?_
    refine WL.vS hS hE (runs_plain rfl) (Gives.fld hE rfl fl67_0) rfl ?_; clear hE a; intro a hE
    refine WL.vS hS hE (runs_plain rfl) (Gives.loadB hE 1 rfl rfl rfl ty3) rfl ?_; clear hE a; intro a hE
    refine WL.vS hS hE (runs_plain rfl) (Gives.fld hE rfl fl67_0) rfl ?_; clear hE a; intro a hE
    refine WL.vS hS hE (runs_plain rfl) (Gives.loadB hE 0 rfl rfl rfl ty3) rfl ?_; clear hE a; intro a hE
    refine WL.vS hS hE (runs_plain rfl) (Gives.p hE rfl) rfl ?_; clear hE a; intro a hE
    refine WL.vS hS hE (runs_plain rfl) (Gives.p hE rfl) rfl ?_; clear hE a; intro a hE
    rcases Bool.eq_false_or_eq_true (x0.No == x1.No) with hg59 | hg59
    · replace hq53 := iteT hg59 hq53
      refine WL.vS hS hE (runs_if hE rfl rfl rfl hg59) (Gives.fld hE rfl fl67_1) rfl ?_; clear hE a; intro a hE
      refine WL.vS hS hE (runs_if hE rfl rfl rfl hg59) (Gives.loadB hE 1 rfl rfl rfl ty3) rfl ?_; clear hE a; intro a hE
      refine WL.vS hS hE (runs_if hE rfl rfl rfl hg59) (Gives.fld hE rfl fl67_1) rfl ?_; clear hE a; intro a hE
      refine WL.vS hS hE (runs_if hE rfl rfl rfl hg59) (Gives.loadB hE 0 rfl rfl rfl ty3) rfl ?_; clear hE a; intro a hE
      refine WL.vS hS hE (runs_if hE rfl rfl rfl hg59) (Gives.p hE rfl) rfl ?_; clear hE a; intro a hE
      refine WL.vS hS hE (runs_plain rfl) (Gives.pickT hE rfl hg59 rfl) rfl ?_; clear hE a; intro a hE
      refine WL.vS hS hE (runs_plain rfl) (Gives.p hE rfl) rfl ?_; clear hE a; intro a hE
      rcases Bool.eq_false_or_eq_true (x0.Stock == x1.Stock) with hg60 | hg60
      · replace hq53 := iteT hg60 hq53
        refine WL.vS hS hE (runs_if hE rfl rfl rfl hg60) (Gives.fld hE rfl fl67_2) rfl ?_; clear hE a; intro a hE
        refine WL.vS hS hE (runs_if hE rfl rfl rfl hg60) (Gives.loadB hE 1 rfl rfl rfl ty65) rfl ?_; clear hE a; intro a hE
        refine WL.vS hS hE (runs_if hE rfl rfl rfl hg60) (Gives.fld hE rfl fl67_2) rfl ?_; clear hE a; intro a hE
        refine WL.vS hS hE (runs_if hE rfl rfl rfl hg60) (Gives.loadB hE 0 rfl rfl rfl ty65) rfl ?_; clear hE a; intro a hE
        obtain ⟨q61, hq62, hq53⟩ := bindS hq53
        have hc_ := SlicesEqualLapiStop_ok hS h0_0 h1_0 hq62
        refine WL.fnq hE (hc_) (runs_if hE rfl rfl rfl hg60) bd72 rfl rfl rfl ?_
        clear hE hS hc_; rintro e w ⟨rfl, hS⟩; refine ⟨_, rfl, ?_⟩; clear a; intro a hE
        refine WL.vS hS hE (runs_plain rfl) (Gives.pickT hE rfl hg60 rfl) rfl ?_; clear hE a; intro a hE
        refine WL.vS hS hE (runs_plain rfl) (Gives.p hE rfl) rfl ?_; clear hE a; intro a hE
        rcases Bool.eq_false_or_eq_true q61 with hg63 | hg63
        · replace hq53 := iteT hg63 hq53
          refine WL.vS hS hE (runs_if hE rfl rfl rfl hg63) (Gives.fld hE rfl fl67_3) rfl ?_; clear hE a; intro a hE
          refine WL.vS hS hE (runs_if hE rfl rfl rfl hg63) (Gives.loadB hE 1 rfl rfl rfl ty31) rfl ?_; clear hE a; intro a hE
          refine WL.vS hS hE (runs_if hE rfl rfl rfl hg63) (Gives.fld hE rfl fl67_3) rfl ?_; clear hE a; intro a hE
          refine WL.vS hS hE (runs_if hE rfl rfl rfl hg63) (Gives.loadB hE 0 rfl rfl rfl ty31) rfl ?_; clear hE a; intro a hE
          obtain ⟨q64, hq65, hq53⟩ := bindS hq53
          have hc_ := SlicesEqualFuncLLint_v1_ok hS h0_1 h1_1 hq65
          refine WL.fnq hE (hc_) (runs_if hE rfl rfl rfl hg63) bd46 rfl rfl rfl ?_
          clear hE hS hc_; rintro e w ⟨rfl, hS⟩; refine ⟨_, rfl, ?_⟩; clear a; intro a hE
          refine WL.vS hS hE (runs_plain rfl) (Gives.pickT hE rfl hg63 rfl) rfl ?_; clear hE a; intro a hE
          refine WL.vS hS hE (runs_plain rfl) (Gives.p hE rfl) rfl ?_; clear hE a; intro a hE
          refine WL.nil ?_
          subst hK58
          exact ⟨q64, Option.some.inj hq53, hE.pick _ ⟨rfl, trivial⟩, hS⟩
        · replace hq53 := iteF hg63 hq53
          refine WL.no hE (runs_not hE rfl rfl rfl (by rw [hg63]; decide)) rfl ?_; clear hE a; intro a hE
          refine WL.no hE (runs_not hE rfl rfl rfl (by rw [hg63]; decide)) rfl ?_; clear hE a; intro a hE
          refine WL.no hE (runs_not hE rfl rfl rfl (by rw [hg63]; decide)) rfl ?_; clear hE a; intro a hE
          refine WL.no hE (runs_not hE rfl rfl rfl (by rw [hg63]; decide)) rfl ?_; clear hE a; intro a hE
          refine WL.no hE (runs_not hE rfl rfl rfl (by rw [hg63]; decide)) rfl ?_; clear hE a; intro a hE
          refine WL.vS hS hE (runs_plain rfl) (Gives.pickF hE rfl hg63 rfl) rfl ?_; clear hE a; intro a hE
          refine WL.vS hS hE (runs_plain rfl) (Gives.p hE rfl) rfl ?_; clear hE a; intro a hE
          refine WL.nil ?_
          subst hK58
          exact ⟨false, Option.some.inj hq53, hE.pick _ ⟨rfl, trivial⟩, hS⟩
      · replace hq53 := iteF hg60 hq53
        refine WL.no hE (runs_not hE rfl rfl rfl (by rw [hg60]; decide)) rfl ?_; clear hE a; intro a hE
        refine WL.no hE (runs_not hE rfl rfl rfl (by rw [hg60]; decide)) rfl ?_; clear hE a; intro a hE
        refine WL.no hE (runs_not hE rfl rfl rfl (by rw [hg60]; decide)) rfl ?_; clear hE a; intro a hE
        refine WL.no hE (runs_not hE rfl rfl rfl (by rw [hg60]; decide)) rfl ?_; clear hE a; intro a hE
        refine WL.no hE (runs_not hE rfl rfl rfl (by rw [hg60]; decide)) rfl ?_; clear hE a; intro a hE
        refine WL.vS hS hE (runs_plain rfl) (Gives.pickF hE rfl hg60 rfl) rfl ?_; clear hE a; intro a hE
        refine WL.vS hS hE (runs_plain rfl) (Gives.p hE rfl) rfl ?_; clear hE a; intro a hE
        refine WL.no hE (runs_not hE rfl rfl rfl (by decide)) rfl ?_; clear hE a; intro a hE
        refine WL.no hE (runs_not hE rfl rfl rfl (by decide)) rfl ?_; clear hE a; intro a hE
        refine WL.no hE (runs_not hE rfl rfl rfl (by decide)) rfl ?_; clear hE a; intro a hE
        refine WL.no hE (runs_not hE rfl rfl rfl (by decide)) rfl ?_; clear hE a; intro a hE
        refine WL.no hE (runs_not hE rfl rfl rfl (by decide)) rfl ?_; clear hE a; intro a hE
        refine WL.vS hS hE (runs_plain rfl) (Gives.pickF hE rfl rfl rfl) rfl ?_; clear hE a; intro a hE
        refine WL.vS hS hE (runs_plain rfl) (Gives.p hE rfl) rfl ?_; clear hE a; intro a hE
        refine WL.nil ?_
        subst hK58
        exact ⟨false, Option.some.inj hq53, hE.pick _ ⟨rfl, trivial⟩, hS⟩
    · replace hq53 := iteF hg59 hq53
      refine WL.no hE (runs_not hE rfl rfl rfl (by rw [hg59]; decide)) rfl ?_; clear hE a; intro a hE
      refine WL.no hE (runs_not hE rfl rfl rfl (by rw [hg59]; decide)) rfl ?_; clear hE a; intro a hE
      refine WL.no hE (runs_not hE rfl rfl rfl (by rw [hg59]; decide)) rfl ?_; clear hE a; intro a hE
      refine WL.no hE (runs_not hE rfl rfl rfl (by rw [hg59]; decide)) rfl ?_; clear hE a; intro a hE
      refine WL.no hE (runs_not hE rfl rfl rfl (by rw [hg59]; decide)) rfl ?_; clear hE a; intro a hE
      refine WL.vS hS hE (runs_plain rfl) (Gives.pickF hE rfl hg59 rfl) rfl ?_; clear hE a; intro a hE
      refine WL.vS hS hE (runs_plain rfl) (Gives.p hE rfl) rfl ?_; clear hE a; intro a hE
      refine WL.no hE (runs_not hE rfl rfl rfl (by decide)) rfl ?_; clear hE a; intro a hE
      refine WL.no hE (runs_not hE rfl rfl rfl (by decide)) rfl ?_; clear hE a; intro a hE
      refine WL.no hE (runs_not hE rfl rfl rfl (by decide)) rfl ?_; clear hE a; intro a hE
      refine WL.no hE (runs_not hE rfl rfl rfl (by decide)) rfl ?_; clear hE a; intro a hE
      refine WL.no hE (runs_not hE rfl rfl rfl (by decide)) rfl ?_; clear hE a; intro a hE
      refine WL.vS hS hE (runs_plain rfl) (Gives.pickF hE rfl rfl rfl) rfl ?_; clear hE a; intro a hE
      refine WL.vS hS hE (runs_plain rfl) (Gives.p hE rfl) rfl ?_; clear hE a; intro a hE
      refine WL.no hE (runs_not hE rfl rfl rfl (by decide)) rfl ?_; clear hE a; intro a hE
      refine WL.no hE (runs_not hE rfl rfl rfl (by decide)) rfl ?_; clear hE a; intro a hE
      refine WL.no hE (runs_not hE rfl rfl rfl (by decide)) rfl ?_; clear hE a; intro a hE
      refine WL.no hE (runs_not hE rfl rfl rfl (by decide)) rfl ?_; clear hE a; intro a hE
      refine WL.no hE (runs_not hE rfl rfl rfl (by decide)) rfl ?_; clear hE a; intro a hE
      refine WL.vS hS hE (runs_plain rfl) (Gives.pickF hE rfl rfl rfl) rfl ?_; clear hE a; intro a hE
      refine WL.vS hS hE (runs_plain rfl) (Gives.p hE rfl) rfl ?_; clear hE a; intro a hE
      refine WL.nil ?_
      subst hK58
      exact ⟨false, Option.some.inj hq53, hE.pick _ ⟨rfl, trivial⟩, hS⟩
  · clear hE hS a w; rintro a w ⟨q57, rfl, hE, hS⟩
    refine W.ret ?_
    refine finG (fn := Tryd.f45) (rs := [.tmp 4]) (vs := [_]) hE rfl ⟨rfl, trivial⟩ ?_
    obtain rfl := Option.some.inj hr
    replace hS := hS.tail
    replace hS := hS.tail
    exact ⟨rfl, hS⟩
set_option maxHeartbeats 8000000 in
theorem SlicesEqualFuncLapiTrain_v1_ok  {w : World} {s : Sg} {R : List HP} {x0 : List ApiTrain} {a0 : Option Addr} {c0 : Nat} {x1 : List ApiTrain} {a1 : Option Addr} {c1 : Nat} (hS : St w s (R)) (h0 : Sl 4 RApiTrain s a0 c0 x0) (h1 : Sl 4 RApiTrain s a1 c1 x1) {r : Bool} (hr : SlicesEqualFuncLapiTrain_v1 x0 x1 = some r) :
    Calls Tryd.prog 44 [.slice a0 x0.length c0, .slice a1 x1.length c1, .func (.func 45) #[] #[]].toArray w (fun e w => e = .returned (.bool r) ∧ St w s (R)) := by
  refine enter Tryd.func44 rfl rfl rfl fun a hE => ?_
  rw [SlicesEqualFuncLapiTrain_v1] at hr
  refine W.seq ?_
  refine W.region ?_
  refine WL.vS hS hE (runs_plain rfl) (Gives.p hE rfl) rfl ?_; clear hE a; intro a hE
  refine WL.nil ?_
  refine W.seq ?_
  refine W.seq ?_
  refine W.region ?_
  refine WL.vS hS hE (runs_plain rfl) (Gives.p hE rfl) rfl ?_; clear hE a; intro a hE
  refine WL.vS hS hE (runs_plain rfl) (Gives.len hE rfl sl30) rfl ?_; clear hE a; intro a hE
  refine WL.vS hS hE (runs_plain rfl) (Gives.p hE rfl) rfl ?_; clear hE a; intro a hE
  refine WL.vS hS hE (runs_plain rfl) (Gives.len hE rfl sl30) rfl ?_; clear hE a; intro a hE
  refine WL.vS hS hE (runs_plain rfl) (Gives.p hE rfl) rfl ?_; clear hE a; intro a hE
  refine WL.nil ?_
  refine W.cond hE rfl (fun hc51 => ?_) (fun hc51 => ?_)
  · replace hr := iteT hc51 hr
    refine W.seq ?_
    refine W.region ?_
    refine WL.vS hS hE (runs_plain rfl) (Gives.p hE rfl) rfl ?_; clear hE a; intro a hE
    refine WL.nil ?_
    refine W.ret ?_
    refine finG (fn := Tryd.f44) (rs := [.tmp 6]) (vs := [_]) hE rfl ⟨rfl, trivial⟩ ?_
    obtain rfl := Option.some.inj hr
    exact ⟨rfl, hS⟩
  · replace hr := iteF hc51 hr
    refine W.skip ?_
    refine W.seq ?_
    refine W.seq ?_
    refine W.region ?_
    refine WL.vS hS hE (runs_plain rfl) (Gives.p hE rfl) rfl ?_; clear hE a; intro a hE
    refine WL.vS hS hE (runs_plain rfl) (Gives.len hE rfl sl30) rfl ?_; clear hE a; intro a hE
    refine WL.vS hS hE (runs_plain rfl) (Gives.p hE rfl) rfl ?_; clear hE a; intro a hE
    refine WL.nil ?_
    obtain ⟨q53, hq52, hr⟩ := bindS hr
    refine W.cut (fun a w => (.next ()) = q53 ∧ Rep a 32 [] ∧ St w s (R)) ?_ ?_
    · refine W.block ?_
      refine W.loop (fun m a w => ∃ (rest56 : List ApiTrain) (k54 : Nat), rest56.length = m ∧ x0.drop k54 = rest56 ∧ SlicesEqualFuncLapiTrain_v1.loop1 x1 rest56 k54 = some q53 ∧ Rep a 32 [(1, .slice a1 x1.length c1), (2, .func (.func 45) #[] #[]), (15, .slice a0 x0.length c0), (16, .int .i64 ((x0).length : Int)), (17, .int .i64 ((k54 : Nat) : Int))] ∧ St w s (R)) (m := x0.length) ⟨x0, 0, rfl, rfl, hq52, hE.pick _ ⟨rfl, rfl, rfl, rfl, rfl, trivial⟩, hS⟩ ?_
      clear hE hS a w hq52; rintro m60 a w ⟨rest56, k54, rfl, hd57, hq52, hE, hS⟩
      refine W.gen fun K63 hK63 => ?_
      rcases rest56 with _ | ⟨x55, rest56⟩
      · have hlt58 := drop_nil hd57
        refine W.seq ?_
        refine W.region ?_
        refine WL.vS hS hE (runs_plain rfl) (Gives.p hE rfl) rfl ?_; clear hE a; intro a hE
        refine WL.nil ?_
        refine W.seq ?_
        refine W.condF hE rfl (decide_eq_false (by omega)) ?_
        subst hK63
        refine W.exit rfl ?_
        exact ⟨Option.some.inj hq52, hE.pick _ trivial, hS⟩
      · obtain ⟨hlt58, hx59, hd57⟩ := drop_cons hd57
        rw [SlicesEqualFuncLapiTrain_v1.loop1] at hq52
        refine W.seq ?_
        refine W.region ?_
        refine WL.vS hS hE (runs_plain rfl) (Gives.p hE rfl) rfl ?_; clear hE a; intro a hE
        refine WL.nil ?_
        refine W.seq ?_
        refine W.condT hE rfl (decide_eq_true (by omega)) ?_
        refine W.skip ?_
        refine W.seq ?_
        refine W.block ?_
        refine W.seq ?_
        refine W.region ?_
        refine WL.vS hS hE (runs_plain rfl) (Gives.p hE rfl) rfl ?_; clear hE a; intro a hE
        obtain ⟨cs64, hl65, hR66, hat67⟩ := h0.at hx59
        obtain ⟨a68, c69, a71, c72, rfl, h70, h73⟩ := hR66
        refine WL.vS hS hE (runs_plain rfl) (Gives.idx hE k54 rfl rfl sl30 rfl hlt58 (h0.aok hlt58)) rfl ?_; clear hE a; intro a hE
        refine WL.vS hS hE (runs_plain rfl) (Gives.loadA hE rfl (fun w h => hat67 w _ h) ty67) rfl ?_; clear hE a; intro a hE
        refine WL.alloc hE hS (runs_plain rfl) zr67 rfl ?_; clear hE hS a w; intro b74 a w hE hS
        refine WL.vS hS hE (runs_plain rfl) (Gives.p hE rfl) rfl ?_; clear hE a; intro a hE
        refine WL.storeI hE hS 0 rfl [.int .i64 x55.No, .int .i64 x55.Stock, .slice a68 x55.Stops.length c69, .slice a71 x55.Legs.length c72] (runs_plain rfl) rfl rfl rfl ty67 rfl rfl rfl rfl ?_; clear hE hS a w; intro a w hE hS
        refine WL.nil ?_
        refine W.seq ?_
        refine W.region ?_
        refine WL.vS hS hE (runs_plain rfl) (Gives.p hE rfl) rfl ?_; clear hE a; intro a hE
        refine WL.vS hS hE (runs_plain rfl) (Gives.p hE rfl) rfl ?_; clear hE a; intro a hE
        obtain ⟨x75, hx76, hq52⟩ := bindS hq52
        obtain ⟨hi77, hlt78, hy79⟩ := gx_some hx76
        obtain ⟨cs80, hl81, hR82, hat83⟩ := h1.at hy79
        obtain ⟨a84, c85, a87, c88, rfl, h86, h89⟩ := hR82
        refine WL.vS hS hE (runs_plain rfl) (Gives.idx hE (((k54 : Nat) : Int)).toNat rfl rfl sl30 hi77 hlt78 (h1.aok hlt78)) rfl ?_; clear hE a; intro a hE
        refine WL.vS hS hE (runs_plain rfl) (Gives.loadA hE rfl (fun w h => hat83 w _ h) ty67) rfl ?_; clear hE a; intro a hE
        refine WL.alloc hE hS (runs_plain rfl) zr67 rfl ?_; clear hE hS a w; intro b90 a w hE hS
        refine WL.storeI hE hS 0 rfl [.int .i64 x75.No, .int .i64 x75.Stock, .slice a84 x75.Stops.length c85, .slice a87 x75.Legs.length c88] (runs_plain rfl) rfl rfl rfl ty67 rfl rfl rfl rfl ?_; clear hE hS a w; intro a w hE hS
        refine WL.nil ?_
        refine W.seq ?_
        refine W.region ?_
        refine WL.vS hS hE (runs_plain rfl) (Gives.p hE rfl) rfl ?_; clear hE a; intro a hE
        refine WL.vS hS hE (runs_plain rfl) (Gives.loadBA hE 1 rfl rfl ty67) rfl ?_; clear hE a; intro a hE
        refine WL.vS hS hE (runs_plain rfl) (Gives.loadBA hE 0 rfl rfl ty67) rfl ?_; clear hE a; intro a hE
        obtain ⟨q91, hq92, hq52⟩ := bindS hq52
        have hc_ := Fishref2SameTrain_ok hS h70 h73 h86 h89 hq92
        refine WL.fnw hE (hc_) rfl (runs_plain rfl) bd45 rfl rfl rfl ?_
        clear hE hS hc_; rintro e w ⟨rfl, hS⟩; refine ⟨_, rfl, ?_⟩; clear a; intro a hE
        refine WL.vS hS hE (runs_plain rfl) (Gives.p hE rfl) rfl ?_; clear hE a; intro a hE
        refine WL.nil ?_
        refine W.cond hE rfl (fun hc93 => ?_) (fun hc93 => ?_)
        · replace hq52 := iteT hc93 hq52
          refine W.seq ?_
          refine W.region ?_
          refine WL.vS hS hE (runs_plain rfl) (Gives.p hE rfl) rfl ?_; clear hE a; intro a hE
          refine WL.nil ?_
          refine W.ret ?_
          subst hK63
          rw [← Option.some.inj hq52] at hr
          dsimp only at hr
          refine finG (fn := Tryd.f44) (rs := [.tmp 6]) (vs := [_]) hE rfl ⟨rfl, trivial⟩ ?_
          obtain rfl := Option.some.inj hr
          replace hS := hS.tail
          replace hS := hS.tail
          exact ⟨rfl, hS⟩
        · replace hq52 := iteF hc93 hq52
          refine W.skip ?_
          refine W.region ?_
          refine WL.vS hS hE (runs_plain rfl) (Gives.inc hE rfl (by have := h0.small; omega)) rfl ?_; clear hE a; intro a hE
          refine WL.vS hS hE (runs_plain rfl) (Gives.p hE rfl) rfl ?_; clear hE a; intro a hE
          refine WL.nil ?_
          replace hS := hS.tail
          replace hS := hS.tail
          subst hK63
          exact ⟨rest56.length, Nat.lt_succ_self _, rest56, k54 + 1, rfl, hd57, hq52, hE.pick _ ⟨rfl, rfl, rfl, rfl, rfl, trivial⟩, hS⟩
    · clear hE hS a w; rintro a w ⟨rfl, hE, hS⟩
      dsimp only at hr
      refine W.seq ?_
      refine W.region ?_
      refine WL.vS hS hE (runs_plain rfl) (Gives.p hE rfl) rfl ?_; clear hE a; intro a hE
      refine WL.nil ?_
      refine W.ret ?_
      refine finG (fn := Tryd.f44) (rs := [.tmp 6]) (vs := [_]) hE rfl ⟨rfl, trivial⟩ ?_
      obtain rfl := Option.some.inj hr
      exact ⟨rfl, hS⟩
set_option maxHeartbeats 8000000 in
theorem Fishref2SameDay_ok  {w : World} {s : Sg} {R : List HP} {x0 : ApiDay} {a0_0 : Option Addr} {c0_0 : Nat} {a0_1 : Option Addr} {c0_1 : Nat} {x1 : ApiDay} {a1_0 : Option Addr} {c1_0 : Nat} {a1_1 : Option Addr} {c1_1 : Nat} (hS : St w s (R)) (h0_0 : Sl 4 RApiTrain s a0_0 c0_0 x0.Trains) (h0_1 : Sl 1 (RL 1 (RI .i64)) s a0_1 c0_1 x0.Turns) (h1_0 : Sl 4 RApiTrain s a1_0 c1_0 x1.Trains) (h1_1 : Sl 1 (RL 1 (RI .i64)) s a1_1 c1_1 x1.Turns) {r : Bool} (hr : Fishref2SameDay x0 x1 = some r) :
    Calls Tryd.prog 16 [.agg (List.toArray [.slice a0_0 x0.Trains.length c0_0, .slice a0_1 x0.Turns.length c0_1]), .agg (List.toArray [.slice a1_0 x1.Trains.length c1_0, .slice a1_1 x1.Turns.length c1_1])].toArray w (fun e w => e = .returned (.bool r) ∧ St w s (R)) := by
  refine enter Tryd.func16 rfl rfl rfl fun a hE => ?_
  rw [Fishref2SameDay] at hr
  refine W.seq ?_
  refine W.region ?_
  refine WL.box hE hS (runs_plain rfl) rfl rfl rfl ?_; clear hE hS a w; intro b51 a w hE hS
  refine WL.box hE hS (runs_plain rfl) rfl rfl rfl ?_; clear hE hS a w; intro b52 a w hE hS
  refine WL.vS hS hE (runs_plain rfl) (Gives.p hE rfl) rfl ?_; clear hE a; intro a hE
  refine WL.nil ?_
  refine W.seq ?_
  obtain ⟨q54, hq53, hr⟩ := bindS hr
  refine W.cut (fun a w => ∃ (q57 : Bool), q57 = q54 ∧ Rep a 17 [(4, .bool q57)] ∧ St w s (pt b52 (.cells #[.slice a1_0 x1.Trains.length c1_0, .slice a1_1 x1.Turns.length c1_1] 33 (0, 0)) :: pt b51 (.cells #[.slice a0_0 x0.Trains.length c0_0, .slice a0_1 x0.Turns.length c0_1] 33 (0, 0)) :: R)) ?_ ?_
  · refine W.gen fun K58 hK58 => ?_
    refine W.region ?_
    refine WL.vS hS hE (runs_plain rfl) (Gives.fld hE rfl fl33_0) rfl ?_; clear hE a; intro a hE
    refine WL.vS hS hE (runs_plain rfl) (Gives.loadB hE 1 rfl rfl rfl ty30) rfl ?_; clear hE a; intro a hE
    refine WL.vS hS hE (runs_plain rfl) (Gives.fld hE rfl fl33_0) rfl ?_; clear hE a; intro a hE
    refine WL.vS hS hE (runs_plain rfl) (Gives.loadB hE 0 rfl rfl rfl ty30) rfl ?_; clear hE a; intro a hE
    obtain ⟨q59, hq60, hq53⟩ := bindS hq53
    have hc_ := SlicesEqualFuncLapiTrain_v1_ok hS h0_0 h1_0 hq60
    refine WL.fnq hE (hc_) (runs_plain rfl) bd44 rfl rfl rfl ?_
    clear hE hS hc_; rintro e w ⟨rfl, hS⟩; refine ⟨_, rfl, ?_⟩; clear a; intro a hE
    refine WL.vS hS hE (runs_plain rfl) (Gives.p hE rfl) rfl ?_; clear hE a; intro a hE
    rcases Bool.eq_false_or_eq_true q59 with hg61 | hg61
    · replace hq53 := iteT hg61 hq53
      refine WL.vS hS hE (runs_if hE rfl rfl rfl hg61) (Gives.fld hE rfl fl33_1) rfl ?_; clear hE a; intro a hE
      refine WL.vS hS hE (runs_if hE rfl rfl rfl hg61) (Gives.loadB hE 1 rfl rfl rfl ty31) rfl ?_; clear hE a; intro a hE
      refine WL.vS hS hE (runs_if hE rfl rfl rfl hg61) (Gives.fld hE rfl fl33_1) rfl ?_; clear hE a; intro a hE
      refine WL.vS hS hE (runs_if hE rfl rfl rfl hg61) (Gives.loadB hE 0 rfl rfl rfl ty31) rfl ?_; clear hE a; intro a hE
      obtain ⟨q62, hq63, hq53⟩ := bindS hq53
      have hc_ := SlicesEqualFuncLLint_v1_ok hS h0_1 h1_1 hq63
      refine WL.fnq hE (hc_) (runs_if hE rfl rfl rfl hg61) bd46 rfl rfl rfl ?_
      clear hE hS hc_; rintro e w ⟨rfl, hS⟩; refine ⟨_, rfl, ?_⟩; clear a; intro a hE
      refine WL.vS hS hE (runs_plain rfl) (Gives.pickT hE rfl hg61 rfl) rfl ?_; clear hE a; intro a hE
      refine WL.vS hS hE (runs_plain rfl) (Gives.p hE rfl) rfl ?_; clear hE a; intro a hE
      refine WL.nil ?_
      subst hK58
      exact ⟨q62, Option.some.inj hq53, hE.pick _ ⟨rfl, trivial⟩, hS⟩
    · replace hq53 := iteF hg61 hq53
      refine WL.no hE (runs_not hE rfl rfl rfl (by rw [hg61]; decide)) rfl ?_; clear hE a; intro a hE
      refine WL.no hE (runs_not hE rfl rfl rfl (by rw [hg61]; decide)) rfl ?_; clear hE a; intro a hE
      refine WL.no hE (runs_not hE rfl rfl rfl (by rw [hg61]; decide)) rfl ?_; clear hE a; intro a hE
      refine WL.no hE (runs_not hE rfl rfl rfl (by rw [hg61]; decide)) rfl ?_; clear hE a; intro a hE
      refine WL.no hE (runs_not hE rfl rfl rfl (by rw [hg61]; decide)) rfl ?_; clear hE a; intro a hE
      refine WL.vS hS hE (runs_plain rfl) (Gives.pickF hE rfl hg61 rfl) rfl ?_; clear hE a; intro a hE
      refine WL.vS hS hE (runs_plain rfl) (Gives.p hE rfl) rfl ?_; clear hE a; intro a hE
      refine WL.nil ?_
      subst hK58
      exact ⟨false, Option.some.inj hq53, hE.pick _ ⟨rfl, trivial⟩, hS⟩
  · clear hE hS a w; rintro a w ⟨q57, rfl, hE, hS⟩
    refine W.ret ?_
    refine finG (fn := Tryd.f16) (rs := [.tmp 4]) (vs := [_]) hE rfl ⟨rfl, trivial⟩ ?_
    obtain rfl := Option.some.inj hr
    replace hS := hS.tail
    replace hS := hS.tail
    exact ⟨rfl, hS⟩
end Go.Proofs.YtledekclojpbbaaDoor
