/- The walks of the functions that FareTexts reaches: each call comes to what its mirror says. The conditions are those of each contract. -/
import Derived.Test.YtfdifpegldailaaGreatDoorProg
import Derived.Test.YtfdifpegldailaaGreatDoorFareTextsM
import Derived.Test.YtfdifpegldailaaGreatDoorFpAllT
import Derived.Test.YtfdifpegldailaaGreatDoorFareTextsS
import Derived.Test.YtfdifpegldailaaGreatDoorFpDfr
import Derived.Test.YtfdifpegldailaaGreatDoorFpErr
import Derived.Test.YtfdifpegldailaaGreatDoorFpJoin
import Derived.Test.YtfdifpegldailaaGreatDoorFpKeyB
import Derived.Test.YtfdifpegldailaaGreatDoorFpMeth
import Derived.Test.YtfdifpegldailaaGreatDoorFpPan
import Derived.Test.YtfdifpegldailaaGreatDoorFpRgP
import Derived.Test.YtfdifpegldailaaGreatDoorFpRgn
import Derived.Test.YtfdifpegldailaaGreatDoorFpRune
import Derived.Test.YtfdifpegldailaaGreatDoorFareTextsW2
set_option maxRecDepth 10000
namespace Go.Proofs.YtfdifpegldailaaGreatDoor
open Go Go.Fp
set_option maxHeartbeats 8000000 in
theorem Farenumber_ok  {w : World} {s : Sg} {R : List HP} {x0 : ByteArray} (hS : St w s (R)) (hTab : TabX s) {r : Option Int} (hr : Farenumber x0 = some r) :
  Calls Tryz.prog 65 [.string x0].toArray w (fun e w => (r = none ∧ e = .panicked [{ v := .iface 54 (.agg #[]), recovered := false }] ∧ ∃ (t : Sg), s.Le t ∧ St w t R) ∨ (∃ rr, r = some rr ∧ e = .returned (.int .i64 rr) ∧ St w s (R))) := by
 refine enter Tryz.func65 rfl rfl rfl fun a hE => ?_
 rw [Farenumber] at hr
 refine W.seq (W.region ?_)
 refine vP hS hE (Gives.p hE rfl) rfl ?_; clear hE a; intro a hE
 refine WL.nil ?_
 refine W.seq (W.region ?_)
 refine vP hS hE (Gives.p hE rfl) rfl ?_; clear hE a; intro a hE
 obtain ⟨q51, hq52, hr⟩ := bindS hr
 refine WL.fnq hE (atoi_ok hS (TabG.mono (Sg.Le.refl _) hTab) hq52) (runs_plain rfl) bd71 rfl rfl rfl ?_
 clear hE hS; rintro e w ⟨ev53, rfl, h54, hS⟩; refine ⟨_, rfl, ?_⟩; clear a; intro a hE
 refine vP hS hE (Gives.p hE rfl) rfl ?_; clear hE a; intro a hE
 refine vP hS hE (Gives.p hE rfl) rfl ?_; clear hE a; intro a hE
 refine vP hS hE (Gives.p hE rfl) rfl ?_; clear hE a; intro a hE
 refine vP hS hE (Gives.p hE rfl) rfl ?_; clear hE a; intro a hE
 refine vP hS hE (Gives.p hE rfl) rfl ?_; clear hE a; intro a hE
 refine WL.nil ?_
 refine W.seq ?_
 refine W.seq ?_
 obtain ⟨q56, hq55, hr⟩ := bindS hr
 refine W.cut (fun a w => ∃ (q59 : Bool), q59 = q56 ∧ Rep a 25 [(3, .int .i64 q51.1), (21, .bool q59)] ∧ St w s (R)) ?_ ?_
 ·refine W.gen fun K60 hK60 => ?_
  refine W.region ?_
  refine vP hS hE (Gives.p hE rfl) rfl ?_; clear hE a; intro a hE
  refine vP hS hE (Gives.errNe hE if72 h54 rfl) rfl ?_; clear hE a; intro a hE
  refine vP hS hE (Gives.p hE rfl) rfl ?_; clear hE a; intro a hE
  rcases Bool.eq_false_or_eq_true (!(q51.2)) with hg61 | hg61
  ·replace hq55 := iteT hg61 hq55
   refine WL.no hE (runs_not hE rfl rfl rfl (by rw [hg61]; decide)) rfl ?_; clear hE a; intro a hE
   refine WL.no hE (runs_not hE rfl rfl rfl (by rw [hg61]; decide)) rfl ?_; clear hE a; intro a hE
   refine vP hS hE (Gives.pickT hE rfl hg61 rfl) rfl ?_; clear hE a; intro a hE
   refine vP hS hE (Gives.p hE rfl) rfl ?_; clear hE a; intro a hE
   refine WL.no hE (runs_not hE rfl rfl rfl (by decide)) rfl ?_; clear hE a; intro a hE
   refine WL.no hE (runs_not hE rfl rfl rfl (by decide)) rfl ?_; clear hE a; intro a hE
   refine WL.no hE (runs_not hE rfl rfl rfl (by decide)) rfl ?_; clear hE a; intro a hE
   refine WL.no hE (runs_not hE rfl rfl rfl (by decide)) rfl ?_; clear hE a; intro a hE
   refine vP hS hE (Gives.pickT hE rfl rfl rfl) rfl ?_; clear hE a; intro a hE
   refine WL.nil ?_
   subst hK60
   exact ⟨true, Option.some.inj hq55, hE.pick _ ⟨rfl, rfl, trivial⟩, hS⟩
  ·replace hq55 := iteF hg61 hq55
   refine WL.vS hS hE (runs_if hE rfl rfl rfl hg61) (Gives.p hE rfl) rfl ?_; clear hE a; intro a hE
   refine WL.vS hS hE (runs_if hE rfl rfl rfl hg61) (Gives.p hE rfl) rfl ?_; clear hE a; intro a hE
   refine vP hS hE (Gives.pickF hE rfl hg61 rfl) rfl ?_; clear hE a; intro a hE
   refine vP hS hE (Gives.p hE rfl) rfl ?_; clear hE a; intro a hE
   rcases Bool.eq_false_or_eq_true (decide (q51.1 < 0)) with hg62 | hg62
   ·replace hq55 := iteT hg62 hq55
    refine WL.no hE (runs_not hE rfl rfl rfl (by rw [hg62]; decide)) rfl ?_; clear hE a; intro a hE
    refine WL.no hE (runs_not hE rfl rfl rfl (by rw [hg62]; decide)) rfl ?_; clear hE a; intro a hE
    refine WL.no hE (runs_not hE rfl rfl rfl (by rw [hg62]; decide)) rfl ?_; clear hE a; intro a hE
    refine WL.no hE (runs_not hE rfl rfl rfl (by rw [hg62]; decide)) rfl ?_; clear hE a; intro a hE
    refine vP hS hE (Gives.pickT hE rfl hg62 rfl) rfl ?_; clear hE a; intro a hE
    refine WL.nil ?_
    subst hK60
    exact ⟨true, Option.some.inj hq55, hE.pick _ ⟨rfl, rfl, trivial⟩, hS⟩
   ·replace hq55 := iteF hg62 hq55
    refine WL.vS hS hE (runs_if hE rfl rfl rfl hg62) (Gives.p hE rfl) rfl ?_; clear hE a; intro a hE
    obtain ⟨q63, hq64, hq55⟩ := bindS hq55
    refine WL.fnq hE (itoa_ok hS (TabG.mono (Sg.Le.refl _) hTab).tab hq64) (runs_if hE rfl rfl rfl hg62) bd20 rfl rfl rfl ?_
    clear hE hS; rintro e w ⟨rfl, hS⟩; refine ⟨_, rfl, ?_⟩; clear a; intro a hE
    refine WL.vS hS hE (runs_if hE rfl rfl rfl hg62) (Gives.p hE rfl) rfl ?_; clear hE a; intro a hE
    refine WL.vS hS hE (runs_if hE rfl rfl rfl hg62) (Gives.neSt hE rfl rfl) rfl ?_; clear hE a; intro a hE
    refine vP hS hE (Gives.pickF hE rfl hg62 rfl) rfl ?_; clear hE a; intro a hE
    refine WL.nil ?_
    subst hK60
    exact ⟨!(seq q63 x0), Option.some.inj hq55, hE.pick _ ⟨rfl, rfl, trivial⟩, hS⟩
 ·clear hE hS a w; rintro a w ⟨q59, rfl, hE, hS⟩
  refine W.cond hE rfl (fun hc65 => ?_) (fun hc65 => ?_)
  ·replace hr := iteT hc65 hr
   refine W.region ?_
   refine vP hS hE (Gives.build hE (vs := []) [] rfl (by kernel_rfl)) rfl ?_; clear hE a; intro a hE
   refine vP hS hE (Gives.iface hE rfl ifc54) rfl ?_; clear hE a; intro a hE
   refine WL.panic hE rfl (runs_plain rfl) ?_; clear hE a; intro a hE
   refine ⟨hE.defers.trans rfl, ?_⟩
   obtain rfl := Option.some.inj hr
   exact .inl ⟨rfl, rfl, s, (Sg.Le.refl _), hS⟩
  ·replace hr := iteF hc65 hr
   refine W.skip ?_
   refine W.seq (W.region ?_)
   refine vP hS hE (Gives.p hE rfl) rfl ?_; clear hE a; intro a hE
   refine vP hS hE (Gives.p hE rfl) rfl ?_; clear hE a; intro a hE
   refine WL.nil ?_
   refine W.ret ?_
   refine finG (fn := Tryz.f65) (rs := [.tmp 2]) (vs := [_]) hE rfl ⟨rfl, trivial⟩ ?_
   obtain rfl := Option.some.inj hr
   exact .inr ⟨_, rfl, ⟨rfl, hS⟩⟩
set_option maxHeartbeats 8000000 in
theorem FareReadernumber_v1_ok  {w : World} {s : Sg} {R : List HP} {pb0 : Nat} {y0 : FareReader} {a_v0 : Option Addr} {c_v0 n_v0 : Nat} {cs_v0 : List Value} (hS : St w s (pt pb0 (.cells #[.slice a_v0 n_v0 c_v0, .int .i64 y0.at_] 89 (0, 0)) :: vecC 9 1 a_v0 c_v0 n_v0 cs_v0 :: R)) (hTab : TabX s) (h_v0 : Ev 1 RS s cs_v0 y0.words) (hn_v0 : y0.words.length = n_v0) {r : Option (Int × Int)} (hr : FareReadernumber_v1 y0 = some r) :
  Calls Tryz.prog 42 [.pointer (some ⟨pb0, 0, none⟩)].toArray w (fun e w => (r = none ∧ e = .panicked [{ v := .iface 54 (.agg #[]), recovered := false }] ∧ ∃ (t : Sg), s.Le t ∧ St w t R) ∨ (∃ rr, r = some rr ∧ e = .returned (.int .i64 rr.1) ∧ St w s (pt pb0 (.cells #[.slice a_v0 n_v0 c_v0, .int .i64 rr.2] 89 (0, 0)) :: vecC 9 1 a_v0 c_v0 n_v0 cs_v0 :: R))) := by
 refine enter Tryz.func42 rfl rfl rfl fun a hE => ?_
 rw [FareReadernumber_v1] at hr
 subst hn_v0
 refine W.seq (W.region ?_)
 refine vP hS hE (Gives.p hE rfl) rfl ?_; clear hE a; intro a hE
 refine WL.nil ?_
 refine W.seq (W.region ?_)
 refine vP hS hE (Gives.p hE rfl) rfl ?_; clear hE a; intro a hE
 obtain ⟨q52, hq53, hr⟩ := bindS hr
 have hc_ := FareReaderword_v1_ok (y0 := y0) hS h_v0 (rfl) hq53
 refine WL.fnP hE (hc_) (runs_plain rfl) bd66 rfl rfl rfl ?_
 clear hE hS hc_; rintro e w (⟨hz55, rfl, t57, hle58, hS⟩ | ⟨rr54, hz56, rfl, hS⟩)
 ·refine .inr ⟨_, rfl, ?_⟩; clear a; intro a hE
  rw [hz55] at hr; dsimp only at hr
  replace hS := hS.down hle58
  refine ⟨hE.defers.trans rfl, ?_⟩
  obtain rfl := Option.some.inj hr
  exact .inl ⟨rfl, rfl, s, (Sg.Le.refl _), hS⟩
 refine .inl ⟨_, rfl, ?_⟩; clear a; intro a hE
 rw [hz56] at hr; dsimp only at hr
 obtain ⟨q59, hq60, hr⟩ := bindS hr
 have hc_ := Farenumber_ok hS (TabG.mono (Sg.Le.refl _) hTab) hq60
 refine WL.fnP hE (hc_) (runs_plain rfl) bd65 rfl rfl rfl ?_
 clear hE hS hc_; rintro e w (⟨hz62, rfl, t64, hle65, hS⟩ | ⟨rr61, hz63, rfl, hS⟩)
 ·refine .inr ⟨_, rfl, ?_⟩; clear a; intro a hE
  rw [hz62] at hr; dsimp only at hr
  replace hS := hS.down hle65
  refine ⟨hE.defers.trans rfl, ?_⟩
  obtain rfl := Option.some.inj hr
  replace hS := hS.tail
  replace hS := hS.tail
  exact .inl ⟨rfl, rfl, s, (Sg.Le.refl _), hS⟩
 refine .inl ⟨_, rfl, ?_⟩; clear a; intro a hE
 rw [hz63] at hr; dsimp only at hr
 refine vP hS hE (Gives.p hE rfl) rfl ?_; clear hE a; intro a hE
 refine WL.nil ?_
 refine W.ret ?_
 refine finG (fn := Tryz.f42) (rs := [.tmp 2]) (vs := [_]) hE rfl ⟨rfl, trivial⟩ ?_
 obtain rfl := Option.some.inj hr
 exact .inr ⟨_, rfl, ⟨rfl, hS⟩⟩
set_option maxHeartbeats 8000000 in
theorem FareReaderlist_v6_ok {fu : Nat}  {self_FareReaderone_v1 : FareReader → Option (Option (FareCond × Int))} (ih_FareReaderone_v1 : ∀ {w : World} {s : Sg} {R : List HP} {pb0 : Nat} {y0 : FareReader} {a_v0 : Option Addr} {c_v0 n_v0 : Nat} {cs_v0 : List Value} (_hS : St w s (pt pb0 (.cells #[.slice a_v0 n_v0 c_v0, .int .i64 y0.at_] 89 (0, 0)) :: vecC 9 1 a_v0 c_v0 n_v0 cs_v0 :: R)) (_hTab : TabX s) (_h_v0 : Ev 1 RS s cs_v0 y0.words) (_hn_v0 : y0.words.length = n_v0) {r : Option (FareCond × Int)} (_hr : self_FareReaderone_v1 y0 = some r), Calls Tryz.prog 103 [.pointer (some ⟨pb0, 0, none⟩)].toArray w (fun e w => (r = none ∧ e = .panicked [{ v := .iface 54 (.agg #[]), recovered := false }] ∧ ∃ (t : Sg), s.Le t ∧ St w t R) ∨ (∃ rr, r = some rr ∧ ∃ (cs0 : List Value) (t : Sg), e = .returned (.agg cs0.toArray) ∧ s.Le t ∧ RFareCond t cs0 rr.1 ∧ St w t (pt pb0 (.cells #[.slice a_v0 n_v0 c_v0, .int .i64 rr.2] 89 (0, 0)) :: vecC 9 1 a_v0 c_v0 n_v0 cs_v0 :: R)))) {w : World} {s : Sg} {R : List HP} {pb0 : Nat} {x1 : Int} {x2 : ByteArray} {y0 : FareReader} {a_v0 : Option Addr} {c_v0 n_v0 : Nat} {cs_v0 : List Value} (hS : St w s (pt pb0 (.cells #[.slice a_v0 n_v0 c_v0, .int .i64 y0.at_] 89 (0, 0)) :: vecC 9 1 a_v0 c_v0 n_v0 cs_v0 :: R)) (hTab : TabX s) (h_v0 : Ev 1 RS s cs_v0 y0.words) (hn_v0 : y0.words.length = n_v0) {r : Option (FareCond × Int)} (hr : FareReaderlist_v6 fu self_FareReaderone_v1 x1 x2 y0 = some r) :
  Calls Tryz.prog 85 [.pointer (some ⟨pb0, 0, none⟩), .int .i64 x1, .string x2, .func (.func 103) #[.pointer (some ⟨pb0, 0, none⟩)] #[]].toArray w (fun e w => (r = none ∧ e = .panicked [{ v := .iface 54 (.agg #[]), recovered := false }] ∧ ∃ (t : Sg), s.Le t ∧ St w t R) ∨ (∃ rr, r = some rr ∧ ∃ (cs0 : List Value) (t : Sg), e = .returned (.agg cs0.toArray) ∧ s.Le t ∧ RFareCond t cs0 rr.1 ∧ St w t (pt pb0 (.cells #[.slice a_v0 n_v0 c_v0, .int .i64 rr.2] 89 (0, 0)) :: vecC 9 1 a_v0 c_v0 n_v0 cs_v0 :: R))) := by
 refine enter Tryz.func85 rfl rfl rfl fun a hE => ?_
 rw [FareReaderlist_v6] at hr
 subst hn_v0
 refine W.seq (W.region ?_)
 refine WL.alloc hE hS (runs_plain rfl) zr43 rfl ?_; clear hE hS a w; intro b53 a w hE hS
 refine WL.nil ?_
 refine W.seq (W.region ?_)
 refine vP hS hE (Gives.p hE rfl) rfl ?_; clear hE a; intro a hE
 obtain ⟨q54, hq55, hr⟩ := bindS hr
 replace hS := hS.front 2 rfl
 replace hS := hS.front 2 rfl
 have hc_ := ih_FareReaderone_v1 (y0 := y0) hS (TabG.mono (Sg.Le.refl _) hTab) h_v0 (rfl) hq55
 refine WL.fnzP hE (hc_) rfl (runs_plain rfl) bd103 rfl rfl rfl ?_
 clear hE hS hc_; rintro e w (⟨hz57, rfl, t59, hle60, hS⟩ | ⟨rr56, hz58, cs61, s63, rfl, hle64, h62, hS⟩)
 ·refine .inr ⟨_, rfl, ?_⟩; clear a; intro a hE
  rw [hz57] at hr; dsimp only at hr
  replace hS := hS.down hle60
  refine ⟨hE.defers.trans rfl, ?_⟩
  obtain rfl := Option.some.inj hr
  replace hS := hS.tail
  exact .inl ⟨rfl, rfl, s, (Sg.Le.refl _), hS⟩
 refine .inl ⟨_, rfl, ?_⟩; clear a; intro a hE
 rw [hz58] at hr; dsimp only at hr
 replace h_v0 := Ev.mono RS.mono hle64 h_v0
 obtain ⟨a65, c66, rfl, h67⟩ := h62.unf
 refine WL.lit hE hS (e := 43) (es := 4) (vs := [(0, .agg (List.toArray [.int .i64 rr56.1.Kind, .int .i64 rr56.1.A, .int .i64 rr56.1.B, .slice a65 rr56.1.Kids.length c66]))]) (cs := [.int .i64 rr56.1.Kind, .int .i64 rr56.1.A, .int .i64 rr56.1.B, .slice a65 rr56.1.Kids.length c66]) (runs_plain rfl) rfl (by kernel_rfl) rfl ?_; clear hE hS a w; intro b68 a w hE hS
 replace hS := hS.ptVec (es := 4) (m := 1) rfl (by decide)
 have h70 : Ev 4 RFareCond s63 [.int .i64 rr56.1.Kind, .int .i64 rr56.1.A, .int .i64 rr56.1.B, .slice a65 rr56.1.Kids.length c66] [rr56.1] := (Ev.cons (c1 := [.int .i64 rr56.1.Kind, .int .i64 rr56.1.A, .int .i64 rr56.1.B, .slice a65 rr56.1.Kids.length c66]) (RFareCond.fold ⟨_, _, rfl, h67⟩) rfl (Ev.nil))
 refine vP hS hE (Gives.p hE rfl) rfl ?_; clear hE a; intro a hE
 refine WL.nil ?_
 refine W.seq ?_
 obtain ⟨q72, hq71, hr⟩ := bindS hr
 refine W.cut (fun a w => ∃ (q77 : List FareCond), ∃ (q84 : Int), ∃ (a78 : Option Addr), ∃ (c79 : Nat), ∃ (n81 : Nat), ∃ (cs82 : List Value), ∃ (s75 : Sg), s63.Le s75 ∧ (.next (q77, q84)) = q72 ∧ Ev 4 RFareCond s75 cs82 q77 ∧ q77.length = n81 ∧ Rep a 30 [(1, .int .i64 x1), (8, .pointer (some ⟨b53, 0, none⟩)), (9, .slice a78 n81 c79)] ∧ St w s75 (vecC 43 4 a78 c79 n81 cs82 :: pt pb0 (.cells #[.slice a_v0 y0.words.length c_v0, .int .i64 q84] 89 (0, 0)) :: vecC 9 1 a_v0 c_v0 y0.words.length cs_v0 :: pt b53 (.cells #[.int .i64 0, .int .i64 0, .int .i64 0, .slice none 0 0] 43 (0, 0)) :: R)) ?_ ?_
 ·refine W.block ?_
  refine W.loop (fun m a w => ∃ (n73 : Nat), ∃ (q77 : List FareCond), ∃ (q84 : Int), ∃ (a78 : Option Addr), ∃ (c79 : Nat), ∃ (n81 : Nat), ∃ (cs82 : List Value), ∃ (s75 : Sg), n73 = m ∧ s63.Le s75 ∧ FareReaderlist_v6.loop1 x2 y0 self_FareReaderone_v1 n73 q77 q84 = some q72 ∧ Ev 4 RFareCond s75 cs82 q77 ∧ q77.length = n81 ∧ Rep a 30 [(0, .pointer (some ⟨pb0, 0, none⟩)), (1, .int .i64 x1), (2, .string x2), (3, .func (.func 103) #[.pointer (some ⟨pb0, 0, none⟩)] #[]), (8, .pointer (some ⟨b53, 0, none⟩)), (9, .slice a78 n81 c79)] ∧ St w s75 (vecC 43 4 a78 c79 n81 cs82 :: pt pb0 (.cells #[.slice a_v0 y0.words.length c_v0, .int .i64 q84] 89 (0, 0)) :: vecC 9 1 a_v0 c_v0 y0.words.length cs_v0 :: pt b53 (.cells #[.int .i64 0, .int .i64 0, .int .i64 0, .slice none 0 0] 43 (0, 0)) :: R)) (m := fu) ⟨fu, [rr56.1], rr56.2, (some ⟨b68, 0, none⟩), 1, 1, [.int .i64 rr56.1.Kind, .int .i64 rr56.1.A, .int .i64 rr56.1.B, .slice a65 rr56.1.Kids.length c66], s63, rfl, (Sg.Le.refl _), hq71, h70, (rfl), hE.pick _ ⟨rfl, rfl, rfl, rfl, rfl, rfl, trivial⟩, hS⟩ ?_
  clear hE hS a w hq71; rintro m74 a w ⟨n73, q77, q84, a78, c79, n81, cs82, s75, rfl, hle76, hq71, h80, rfl, hE, hS⟩
  refine W.gen fun K85 hK85 => ?_
  replace h67 := Sl.mono RFareCond.mono hle76 h67
  replace h70 := Ev.mono RFareCond.mono hle76 h70
  replace h_v0 := Ev.mono RS.mono hle76 h_v0
  rcases n73 with _ | n73
  ·rw [FareReaderlist_v6.loop1] at hq71; exact absurd hq71 (by simp)
  rw [FareReaderlist_v6.loop1] at hq71
  refine W.seq ?_
  refine W.seq (W.region ?_)
  refine vP hS hE (Gives.p hE rfl) rfl ?_; clear hE a; intro a hE
  refine vP hS hE (Gives.p hE rfl) rfl ?_; clear hE a; intro a hE
  obtain ⟨q86, hq87, hq71⟩ := bindS hq71
  replace hS := hS.front 2 rfl
  replace hS := hS.front 2 rfl
  have hc_ := FareReadertake_v1_ok (y0 := (FareReader.mk y0.words q84)) hS h_v0 (rfl) hq87
  refine WL.fnq hE (hc_) (runs_plain rfl) bd40 rfl rfl rfl ?_
  clear hE hS hc_; rintro e w ⟨rfl, hS⟩; refine ⟨_, rfl, ?_⟩; clear a; intro a hE
  refine WL.nil ?_
  refine W.cond hE rfl (fun hc88 => ?_) (fun hc88 => ?_)
  ·replace hq71 := iteT hc88 hq71
   refine W.skip ?_
   refine W.block ?_
   refine W.region ?_
   refine vP hS hE (Gives.p hE rfl) rfl ?_; clear hE a; intro a hE
   refine vP hS hE (Gives.p hE rfl) rfl ?_; clear hE a; intro a hE
   obtain ⟨q89, hq90, hq71⟩ := bindS hq71
   have hc_ := ih_FareReaderone_v1 (y0 := (FareReader.mk y0.words q86.2)) hS (TabG.mono (Sg.Le.trans hle64 hle76) hTab) h_v0 (rfl) hq90
   refine WL.fnzP hE (hc_) rfl (runs_plain rfl) bd103 rfl rfl rfl ?_
   clear hE hS hc_; rintro e w (⟨hz92, rfl, t94, hle95, hS⟩ | ⟨rr91, hz93, cs96, s98, rfl, hle99, h97, hS⟩)
   ·refine .inr ⟨_, rfl, ?_⟩; clear a; intro a hE
    rw [hz92] at hq71; dsimp only at hq71
    replace hS := hS.down hle95
    subst hK85
    rw [← Option.some.inj hq71] at hr
    dsimp only at hr
    refine ⟨hE.defers.trans rfl, ?_⟩
    obtain rfl := Option.some.inj hr
    replace hS := hS.tail
    replace hS := hS.tail
    exact .inl ⟨rfl, rfl, s75, (Sg.Le.trans hle64 hle76), hS⟩
   refine .inl ⟨_, rfl, ?_⟩; clear a; intro a hE
   rw [hz93] at hq71; dsimp only at hq71
   replace h_v0 := Ev.mono RS.mono hle99 h_v0
   replace h80 := Ev.mono RFareCond.mono hle99 h80
   obtain ⟨a100, c101, rfl, h102⟩ := h97.unf
   refine WL.lit hE hS (e := 43) (es := 4) (vs := [(0, .agg (List.toArray [.int .i64 rr91.1.Kind, .int .i64 rr91.1.A, .int .i64 rr91.1.B, .slice a100 rr91.1.Kids.length c101]))]) (cs := [.int .i64 rr91.1.Kind, .int .i64 rr91.1.A, .int .i64 rr91.1.B, .slice a100 rr91.1.Kids.length c101]) (runs_plain rfl) rfl (by kernel_rfl) rfl ?_; clear hE hS a w; intro b103 a w hE hS
   obtain ⟨x104, hx105, hq71⟩ := bindS hq71
   refine WL.appD hE hS 2 (m := 1) (runs_plain rfl) rfl rfl rfl ap41 rfl h80 rfl (xs := [rr91.1]) (Ev.cons (c1 := [.int .i64 rr91.1.Kind, .int .i64 rr91.1.A, .int .i64 rr91.1.B, .slice a100 rr91.1.Kids.length c101]) (RFareCond.fold ⟨_, _, rfl, h102⟩) rfl (Ev.nil)) rfl rfl hx105 rfl ?_; clear hE hS a w; intro a106 c107 cs108 a w h109 hE hS
   refine vP hS hE (Gives.p hE rfl) rfl ?_; clear hE a; intro a hE
   refine WL.nil ?_
   replace hS := hS.front 3 rfl
   replace hS := hS.front 2 rfl
   replace hS := hS.front 2 rfl
   replace hS := hS.front 3 rfl
   subst hK85
   exact ⟨n73, Nat.lt_succ_self _, n73, x104, rr91.2, a106, c107, x104.length, cs108, s98, rfl, (Sg.Le.trans hle76 hle99), hq71, h109, (rfl), hE.pick _ ⟨rfl, rfl, rfl, rfl, rfl, rfl, trivial⟩, hS⟩
  ·replace hq71 := iteF hc88 hq71
   subst hK85
   refine W.exit rfl ?_
   replace hS := hS.front 3 rfl
   replace hS := hS.front 2 rfl
   replace hS := hS.front 2 rfl
   replace hS := hS.front 3 rfl
   exact ⟨q77, q86.2, a78, c79, q77.length, cs82, s75, hle76, Option.some.inj hq71, h80, rfl, hE.pick _ ⟨rfl, rfl, rfl, trivial⟩, hS⟩
 ·clear hE hS a w; rintro a w ⟨q77, q84, a78, c79, n81, cs82, s75, hle76, rfl, h80, rfl, hE, hS⟩
  dsimp only at hr
  replace h67 := Sl.mono RFareCond.mono hle76 h67
  replace h70 := Ev.mono RFareCond.mono hle76 h70
  replace h_v0 := Ev.mono RS.mono hle76 h_v0
  refine W.seq ?_
  refine W.seq (W.region ?_)
  refine vP hS hE (Gives.p hE rfl) rfl ?_; clear hE a; intro a hE
  refine vP hS hE (Gives.len hE rfl sl41) rfl ?_; clear hE a; intro a hE
  refine vP hS hE (Gives.p hE rfl) rfl ?_; clear hE a; intro a hE
  refine WL.nil ?_
  refine W.cond hE rfl (fun hc110 => ?_) (fun hc110 => ?_)
  ·replace hr := iteT hc110 hr
   refine W.seq (W.region ?_)
   refine vP hS hE (Gives.p hE rfl) rfl ?_; clear hE a; intro a hE
   obtain ⟨x111, hx112, hr⟩ := bindS hr
   obtain ⟨hi113, hlt114, hy115⟩ := gx_some hx112
   obtain ⟨vs116, hl117, hR118, hd119, hget120⟩ := h80.at hy115
   obtain ⟨a121, c122, rfl, h123⟩ := hR118.unf
   refine vP hS hE (Gives.idx hE (((0 : Int)).toNat) rfl rfl sl41 hi113 (by omega) (hS.vecAok 0 rfl (by omega : ((0 : Int)).toNat < q77.length))) rfl ?_; clear hE a; intro a hE
   refine vP hS hE (Gives.loadA hE rfl (fun w h => St.vecSees h 0 rfl (((0 : Int)).toNat * 4) _ hget120) ty43) rfl ?_; clear hE a; intro a hE
   refine WL.storeI hE hS 3 rfl [.int .i64 x111.Kind, .int .i64 x111.A, .int .i64 x111.B, .slice a121 x111.Kids.length c122] (runs_plain rfl) rfl rfl rfl ty43 rfl rfl rfl rfl ?_; clear hE hS a w; intro a w hE hS
   refine WL.nil ?_
   refine W.ret ?_
   refine finG (fn := Tryz.f85) (rs := [.cell 8 43]) (vs := [_]) hE rfl ⟨⟨_, rfl, .inl ⟨_, rfl, hS.seesAt 3 rfl, ty43⟩⟩, trivial⟩ ?_
   obtain rfl := Option.some.inj hr
   replace hS := hS.tail
   replace hS := hS.dropAt 2
   exact .inr ⟨_, rfl, ⟨_, s75, rfl, (Sg.Le.trans hle64 hle76), (RFareCond.fold ⟨_, _, rfl, h123⟩), hS⟩⟩
  ·replace hr := iteF hc110 hr
   refine W.skip ?_
   refine W.seq (W.region ?_)
   refine vP hS hE (Gives.p hE rfl) rfl ?_; clear hE a; intro a hE
   refine vP hS hE (Gives.p hE rfl) rfl ?_; clear hE a; intro a hE
   refine vP hS hE (Gives.build hE (vs := [(0, .int .i64 x1), (3, .slice a78 q77.length c79)]) [.int .i64 x1, .int .i64 0, .int .i64 0, .slice a78 q77.length c79] rfl (by kernel_rfl)) rfl ?_; clear hE a; intro a hE
   refine WL.storeI hE hS 3 rfl [.int .i64 x1, .int .i64 0, .int .i64 0, .slice a78 q77.length c79] (runs_plain rfl) rfl rfl rfl ty43 rfl rfl rfl rfl ?_; clear hE hS a w; intro a w hE hS
   refine WL.nil ?_
   refine W.ret ?_
   have hF := hS.fixD RFareCond.mono 0 rfl h80 rfl; clear hS; obtain ⟨s124, hle125, hS, h126⟩ := hF
   replace h_v0 := Ev.mono RS.mono hle125 h_v0
   refine finG (fn := Tryz.f85) (rs := [.cell 8 43]) (vs := [_]) hE rfl ⟨⟨_, rfl, .inl ⟨_, rfl, hS.seesAt 2 rfl, ty43⟩⟩, trivial⟩ ?_
   obtain rfl := Option.some.inj hr
   replace hS := hS.dropAt 2
   exact .inr ⟨_, rfl, ⟨_, s124, rfl, (Sg.Le.trans (Sg.Le.trans hle64 hle76) hle125), (RFareCond.fold ⟨_, _, rfl, h126⟩), hS⟩⟩
set_option maxHeartbeats 8000000 in
theorem FareReaderand_v3_ok {fu : Nat}  {self_FareReaderone_v1 : FareReader → Option (Option (FareCond × Int))} (ih_FareReaderone_v1 : ∀ {w : World} {s : Sg} {R : List HP} {pb0 : Nat} {y0 : FareReader} {a_v0 : Option Addr} {c_v0 n_v0 : Nat} {cs_v0 : List Value} (_hS : St w s (pt pb0 (.cells #[.slice a_v0 n_v0 c_v0, .int .i64 y0.at_] 89 (0, 0)) :: vecC 9 1 a_v0 c_v0 n_v0 cs_v0 :: R)) (_hTab : TabX s) (_h_v0 : Ev 1 RS s cs_v0 y0.words) (_hn_v0 : y0.words.length = n_v0) {r : Option (FareCond × Int)} (_hr : self_FareReaderone_v1 y0 = some r), Calls Tryz.prog 103 [.pointer (some ⟨pb0, 0, none⟩)].toArray w (fun e w => (r = none ∧ e = .panicked [{ v := .iface 54 (.agg #[]), recovered := false }] ∧ ∃ (t : Sg), s.Le t ∧ St w t R) ∨ (∃ rr, r = some rr ∧ ∃ (cs0 : List Value) (t : Sg), e = .returned (.agg cs0.toArray) ∧ s.Le t ∧ RFareCond t cs0 rr.1 ∧ St w t (pt pb0 (.cells #[.slice a_v0 n_v0 c_v0, .int .i64 rr.2] 89 (0, 0)) :: vecC 9 1 a_v0 c_v0 n_v0 cs_v0 :: R)))) {w : World} {s : Sg} {R : List HP} {pb0 : Nat} {y0 : FareReader} {a_v0 : Option Addr} {c_v0 n_v0 : Nat} {cs_v0 : List Value} (hS : St w s (pt pb0 (.cells #[.slice a_v0 n_v0 c_v0, .int .i64 y0.at_] 89 (0, 0)) :: vecC 9 1 a_v0 c_v0 n_v0 cs_v0 :: R)) (hTab : TabX s) (h_v0 : Ev 1 RS s cs_v0 y0.words) (hn_v0 : y0.words.length = n_v0) {r : Option (FareCond × Int)} (hr : FareReaderand_v3 fu self_FareReaderone_v1 y0 = some r) :
  Calls Tryz.prog 86 [.pointer (some ⟨pb0, 0, none⟩)].toArray w (fun e w => (r = none ∧ e = .panicked [{ v := .iface 54 (.agg #[]), recovered := false }] ∧ ∃ (t : Sg), s.Le t ∧ St w t R) ∨ (∃ rr, r = some rr ∧ ∃ (cs0 : List Value) (t : Sg), e = .returned (.agg cs0.toArray) ∧ s.Le t ∧ RFareCond t cs0 rr.1 ∧ St w t (pt pb0 (.cells #[.slice a_v0 n_v0 c_v0, .int .i64 rr.2] 89 (0, 0)) :: vecC 9 1 a_v0 c_v0 n_v0 cs_v0 :: R))) := by
 refine enter Tryz.func86 rfl rfl rfl fun a hE => ?_
 rw [FareReaderand_v3] at hr
 subst hn_v0
 refine W.seq (W.region ?_)
 refine WL.alloc hE hS (runs_plain rfl) zr43 rfl ?_; clear hE hS a w; intro b53 a w hE hS
 refine WL.nil ?_
 refine W.seq (W.region ?_)
 refine vP hS hE (Gives.p hE rfl) rfl ?_; clear hE a; intro a hE
 refine vP hS hE (Gives.p hE rfl) rfl ?_; clear hE a; intro a hE
 refine vP hS hE (Gives.mkmeth hE (vs := [.pointer (some ⟨pb0, 0, none⟩)]) rfl) rfl ?_; clear hE a; intro a hE
 obtain ⟨q54, hq55, hr⟩ := bindS hr
 replace hS := hS.front 2 rfl
 replace hS := hS.front 2 rfl
 have hc_ := FareReaderlist_v6_ok (y0 := y0) @ih_FareReaderone_v1 hS (TabG.mono (Sg.Le.refl _) hTab) h_v0 (rfl) hq55
 refine WL.fnP hE (hc_) (runs_plain rfl) bd85 rfl rfl rfl ?_
 clear hE hS hc_; rintro e w (⟨hz57, rfl, t59, hle60, hS⟩ | ⟨rr56, hz58, cs61, s63, rfl, hle64, h62, hS⟩)
 ·refine .inr ⟨_, rfl, ?_⟩; clear a; intro a hE
  rw [hz57] at hr; dsimp only at hr
  replace hS := hS.down hle60
  refine ⟨hE.defers.trans rfl, ?_⟩
  obtain rfl := Option.some.inj hr
  replace hS := hS.tail
  exact .inl ⟨rfl, rfl, s, (Sg.Le.refl _), hS⟩
 refine .inl ⟨_, rfl, ?_⟩; clear a; intro a hE
 rw [hz58] at hr; dsimp only at hr
 replace h_v0 := Ev.mono RS.mono hle64 h_v0
 obtain ⟨a65, c66, rfl, h67⟩ := h62.unf
 refine WL.storeI hE hS 2 rfl [.int .i64 rr56.1.Kind, .int .i64 rr56.1.A, .int .i64 rr56.1.B, .slice a65 rr56.1.Kids.length c66] (runs_plain rfl) rfl rfl rfl ty43 rfl rfl rfl rfl ?_; clear hE hS a w; intro a w hE hS
 refine WL.nil ?_
 refine W.ret ?_
 refine finG (fn := Tryz.f86) (rs := [.cell 2 43]) (vs := [_]) hE rfl ⟨⟨_, rfl, .inl ⟨_, rfl, hS.seesAt 2 rfl, ty43⟩⟩, trivial⟩ ?_
 obtain rfl := Option.some.inj hr
 replace hS := hS.dropAt 2
 exact .inr ⟨_, rfl, ⟨_, s63, rfl, hle64, (RFareCond.fold ⟨_, _, rfl, h67⟩), hS⟩⟩
set_option maxHeartbeats 8000000 in
theorem FareReaderlist_v5_ok {fu : Nat}  {self_FareReaderone_v1 : FareReader → Option (Option (FareCond × Int))} (ih_FareReaderone_v1 : ∀ {w : World} {s : Sg} {R : List HP} {pb0 : Nat} {y0 : FareReader} {a_v0 : Option Addr} {c_v0 n_v0 : Nat} {cs_v0 : List Value} (_hS : St w s (pt pb0 (.cells #[.slice a_v0 n_v0 c_v0, .int .i64 y0.at_] 89 (0, 0)) :: vecC 9 1 a_v0 c_v0 n_v0 cs_v0 :: R)) (_hTab : TabX s) (_h_v0 : Ev 1 RS s cs_v0 y0.words) (_hn_v0 : y0.words.length = n_v0) {r : Option (FareCond × Int)} (_hr : self_FareReaderone_v1 y0 = some r), Calls Tryz.prog 103 [.pointer (some ⟨pb0, 0, none⟩)].toArray w (fun e w => (r = none ∧ e = .panicked [{ v := .iface 54 (.agg #[]), recovered := false }] ∧ ∃ (t : Sg), s.Le t ∧ St w t R) ∨ (∃ rr, r = some rr ∧ ∃ (cs0 : List Value) (t : Sg), e = .returned (.agg cs0.toArray) ∧ s.Le t ∧ RFareCond t cs0 rr.1 ∧ St w t (pt pb0 (.cells #[.slice a_v0 n_v0 c_v0, .int .i64 rr.2] 89 (0, 0)) :: vecC 9 1 a_v0 c_v0 n_v0 cs_v0 :: R)))) {w : World} {s : Sg} {R : List HP} {pb0 : Nat} {x1 : Int} {x2 : ByteArray} {y0 : FareReader} {a_v0 : Option Addr} {c_v0 n_v0 : Nat} {cs_v0 : List Value} (hS : St w s (pt pb0 (.cells #[.slice a_v0 n_v0 c_v0, .int .i64 y0.at_] 89 (0, 0)) :: vecC 9 1 a_v0 c_v0 n_v0 cs_v0 :: R)) (hTab : TabX s) (h_v0 : Ev 1 RS s cs_v0 y0.words) (hn_v0 : y0.words.length = n_v0) {r : Option (FareCond × Int)} (hr : FareReaderlist_v5 fu self_FareReaderone_v1 x1 x2 y0 = some r) :
  Calls Tryz.prog 85 [.pointer (some ⟨pb0, 0, none⟩), .int .i64 x1, .string x2, .func (.func 86) #[.pointer (some ⟨pb0, 0, none⟩)] #[]].toArray w (fun e w => (r = none ∧ e = .panicked [{ v := .iface 54 (.agg #[]), recovered := false }] ∧ ∃ (t : Sg), s.Le t ∧ St w t R) ∨ (∃ rr, r = some rr ∧ ∃ (cs0 : List Value) (t : Sg), e = .returned (.agg cs0.toArray) ∧ s.Le t ∧ RFareCond t cs0 rr.1 ∧ St w t (pt pb0 (.cells #[.slice a_v0 n_v0 c_v0, .int .i64 rr.2] 89 (0, 0)) :: vecC 9 1 a_v0 c_v0 n_v0 cs_v0 :: R))) := by
 refine enter Tryz.func85 rfl rfl rfl fun a hE => ?_
 rw [FareReaderlist_v5] at hr
 subst hn_v0
 refine W.seq (W.region ?_)
 refine WL.alloc hE hS (runs_plain rfl) zr43 rfl ?_; clear hE hS a w; intro b53 a w hE hS
 refine WL.nil ?_
 refine W.seq (W.region ?_)
 refine vP hS hE (Gives.p hE rfl) rfl ?_; clear hE a; intro a hE
 obtain ⟨q54, hq55, hr⟩ := bindS hr
 replace hS := hS.front 2 rfl
 replace hS := hS.front 2 rfl
 have hc_ := FareReaderand_v3_ok (y0 := y0) @ih_FareReaderone_v1 hS (TabG.mono (Sg.Le.refl _) hTab) h_v0 (rfl) hq55
 refine WL.fnzP hE (hc_) rfl (runs_plain rfl) bd86 rfl rfl rfl ?_
 clear hE hS hc_; rintro e w (⟨hz57, rfl, t59, hle60, hS⟩ | ⟨rr56, hz58, cs61, s63, rfl, hle64, h62, hS⟩)
 ·refine .inr ⟨_, rfl, ?_⟩; clear a; intro a hE
  rw [hz57] at hr; dsimp only at hr
  replace hS := hS.down hle60
  refine ⟨hE.defers.trans rfl, ?_⟩
  obtain rfl := Option.some.inj hr
  replace hS := hS.tail
  exact .inl ⟨rfl, rfl, s, (Sg.Le.refl _), hS⟩
 refine .inl ⟨_, rfl, ?_⟩; clear a; intro a hE
 rw [hz58] at hr; dsimp only at hr
 replace h_v0 := Ev.mono RS.mono hle64 h_v0
 obtain ⟨a65, c66, rfl, h67⟩ := h62.unf
 refine WL.lit hE hS (e := 43) (es := 4) (vs := [(0, .agg (List.toArray [.int .i64 rr56.1.Kind, .int .i64 rr56.1.A, .int .i64 rr56.1.B, .slice a65 rr56.1.Kids.length c66]))]) (cs := [.int .i64 rr56.1.Kind, .int .i64 rr56.1.A, .int .i64 rr56.1.B, .slice a65 rr56.1.Kids.length c66]) (runs_plain rfl) rfl (by kernel_rfl) rfl ?_; clear hE hS a w; intro b68 a w hE hS
 replace hS := hS.ptVec (es := 4) (m := 1) rfl (by decide)
 have h70 : Ev 4 RFareCond s63 [.int .i64 rr56.1.Kind, .int .i64 rr56.1.A, .int .i64 rr56.1.B, .slice a65 rr56.1.Kids.length c66] [rr56.1] := (Ev.cons (c1 := [.int .i64 rr56.1.Kind, .int .i64 rr56.1.A, .int .i64 rr56.1.B, .slice a65 rr56.1.Kids.length c66]) (RFareCond.fold ⟨_, _, rfl, h67⟩) rfl (Ev.nil))
 refine vP hS hE (Gives.p hE rfl) rfl ?_; clear hE a; intro a hE
 refine WL.nil ?_
 refine W.seq ?_
 obtain ⟨q72, hq71, hr⟩ := bindS hr
 refine W.cut (fun a w => ∃ (q77 : List FareCond), ∃ (q84 : Int), ∃ (a78 : Option Addr), ∃ (c79 : Nat), ∃ (n81 : Nat), ∃ (cs82 : List Value), ∃ (s75 : Sg), s63.Le s75 ∧ (.next (q77, q84)) = q72 ∧ Ev 4 RFareCond s75 cs82 q77 ∧ q77.length = n81 ∧ Rep a 30 [(1, .int .i64 x1), (8, .pointer (some ⟨b53, 0, none⟩)), (9, .slice a78 n81 c79)] ∧ St w s75 (vecC 43 4 a78 c79 n81 cs82 :: pt pb0 (.cells #[.slice a_v0 y0.words.length c_v0, .int .i64 q84] 89 (0, 0)) :: vecC 9 1 a_v0 c_v0 y0.words.length cs_v0 :: pt b53 (.cells #[.int .i64 0, .int .i64 0, .int .i64 0, .slice none 0 0] 43 (0, 0)) :: R)) ?_ ?_
 ·refine W.block ?_
  refine W.loop (fun m a w => ∃ (n73 : Nat), ∃ (q77 : List FareCond), ∃ (q84 : Int), ∃ (a78 : Option Addr), ∃ (c79 : Nat), ∃ (n81 : Nat), ∃ (cs82 : List Value), ∃ (s75 : Sg), n73 = m ∧ s63.Le s75 ∧ FareReaderlist_v5.loop1 x2 y0 fu self_FareReaderone_v1 n73 q77 q84 = some q72 ∧ Ev 4 RFareCond s75 cs82 q77 ∧ q77.length = n81 ∧ Rep a 30 [(0, .pointer (some ⟨pb0, 0, none⟩)), (1, .int .i64 x1), (2, .string x2), (3, .func (.func 86) #[.pointer (some ⟨pb0, 0, none⟩)] #[]), (8, .pointer (some ⟨b53, 0, none⟩)), (9, .slice a78 n81 c79)] ∧ St w s75 (vecC 43 4 a78 c79 n81 cs82 :: pt pb0 (.cells #[.slice a_v0 y0.words.length c_v0, .int .i64 q84] 89 (0, 0)) :: vecC 9 1 a_v0 c_v0 y0.words.length cs_v0 :: pt b53 (.cells #[.int .i64 0, .int .i64 0, .int .i64 0, .slice none 0 0] 43 (0, 0)) :: R)) (m := fu) ⟨fu, [rr56.1], rr56.2, (some ⟨b68, 0, none⟩), 1, 1, [.int .i64 rr56.1.Kind, .int .i64 rr56.1.A, .int .i64 rr56.1.B, .slice a65 rr56.1.Kids.length c66], s63, rfl, (Sg.Le.refl _), hq71, h70, (rfl), hE.pick _ ⟨rfl, rfl, rfl, rfl, rfl, rfl, trivial⟩, hS⟩ ?_
  clear hE hS a w hq71; rintro m74 a w ⟨n73, q77, q84, a78, c79, n81, cs82, s75, rfl, hle76, hq71, h80, rfl, hE, hS⟩
  refine W.gen fun K85 hK85 => ?_
  replace h67 := Sl.mono RFareCond.mono hle76 h67
  replace h70 := Ev.mono RFareCond.mono hle76 h70
  replace h_v0 := Ev.mono RS.mono hle76 h_v0
  rcases n73 with _ | n73
  ·rw [FareReaderlist_v5.loop1] at hq71; exact absurd hq71 (by simp)
  rw [FareReaderlist_v5.loop1] at hq71
  refine W.seq ?_
  refine W.seq (W.region ?_)
  refine vP hS hE (Gives.p hE rfl) rfl ?_; clear hE a; intro a hE
  refine vP hS hE (Gives.p hE rfl) rfl ?_; clear hE a; intro a hE
  obtain ⟨q86, hq87, hq71⟩ := bindS hq71
  replace hS := hS.front 2 rfl
  replace hS := hS.front 2 rfl
  have hc_ := FareReadertake_v1_ok (y0 := (FareReader.mk y0.words q84)) hS h_v0 (rfl) hq87
  refine WL.fnq hE (hc_) (runs_plain rfl) bd40 rfl rfl rfl ?_
  clear hE hS hc_; rintro e w ⟨rfl, hS⟩; refine ⟨_, rfl, ?_⟩; clear a; intro a hE
  refine WL.nil ?_
  refine W.cond hE rfl (fun hc88 => ?_) (fun hc88 => ?_)
  ·replace hq71 := iteT hc88 hq71
   refine W.skip ?_
   refine W.block ?_
   refine W.region ?_
   refine vP hS hE (Gives.p hE rfl) rfl ?_; clear hE a; intro a hE
   refine vP hS hE (Gives.p hE rfl) rfl ?_; clear hE a; intro a hE
   obtain ⟨q89, hq90, hq71⟩ := bindS hq71
   have hc_ := FareReaderand_v3_ok (y0 := (FareReader.mk y0.words q86.2)) @ih_FareReaderone_v1 hS (TabG.mono (Sg.Le.trans hle64 hle76) hTab) h_v0 (rfl) hq90
   refine WL.fnzP hE (hc_) rfl (runs_plain rfl) bd86 rfl rfl rfl ?_
   clear hE hS hc_; rintro e w (⟨hz92, rfl, t94, hle95, hS⟩ | ⟨rr91, hz93, cs96, s98, rfl, hle99, h97, hS⟩)
   ·refine .inr ⟨_, rfl, ?_⟩; clear a; intro a hE
    rw [hz92] at hq71; dsimp only at hq71
    replace hS := hS.down hle95
    subst hK85
    rw [← Option.some.inj hq71] at hr
    dsimp only at hr
    refine ⟨hE.defers.trans rfl, ?_⟩
    obtain rfl := Option.some.inj hr
    replace hS := hS.tail
    replace hS := hS.tail
    exact .inl ⟨rfl, rfl, s75, (Sg.Le.trans hle64 hle76), hS⟩
   refine .inl ⟨_, rfl, ?_⟩; clear a; intro a hE
   rw [hz93] at hq71; dsimp only at hq71
   replace h_v0 := Ev.mono RS.mono hle99 h_v0
   replace h80 := Ev.mono RFareCond.mono hle99 h80
   obtain ⟨a100, c101, rfl, h102⟩ := h97.unf
   refine WL.lit hE hS (e := 43) (es := 4) (vs := [(0, .agg (List.toArray [.int .i64 rr91.1.Kind, .int .i64 rr91.1.A, .int .i64 rr91.1.B, .slice a100 rr91.1.Kids.length c101]))]) (cs := [.int .i64 rr91.1.Kind, .int .i64 rr91.1.A, .int .i64 rr91.1.B, .slice a100 rr91.1.Kids.length c101]) (runs_plain rfl) rfl (by kernel_rfl) rfl ?_; clear hE hS a w; intro b103 a w hE hS
   obtain ⟨x104, hx105, hq71⟩ := bindS hq71
   refine WL.appD hE hS 2 (m := 1) (runs_plain rfl) rfl rfl rfl ap41 rfl h80 rfl (xs := [rr91.1]) (Ev.cons (c1 := [.int .i64 rr91.1.Kind, .int .i64 rr91.1.A, .int .i64 rr91.1.B, .slice a100 rr91.1.Kids.length c101]) (RFareCond.fold ⟨_, _, rfl, h102⟩) rfl (Ev.nil)) rfl rfl hx105 rfl ?_; clear hE hS a w; intro a106 c107 cs108 a w h109 hE hS
   refine vP hS hE (Gives.p hE rfl) rfl ?_; clear hE a; intro a hE
   refine WL.nil ?_
   replace hS := hS.front 3 rfl
   replace hS := hS.front 2 rfl
   replace hS := hS.front 2 rfl
   replace hS := hS.front 3 rfl
   subst hK85
   exact ⟨n73, Nat.lt_succ_self _, n73, x104, rr91.2, a106, c107, x104.length, cs108, s98, rfl, (Sg.Le.trans hle76 hle99), hq71, h109, (rfl), hE.pick _ ⟨rfl, rfl, rfl, rfl, rfl, rfl, trivial⟩, hS⟩
  ·replace hq71 := iteF hc88 hq71
   subst hK85
   refine W.exit rfl ?_
   replace hS := hS.front 3 rfl
   replace hS := hS.front 2 rfl
   replace hS := hS.front 2 rfl
   replace hS := hS.front 3 rfl
   exact ⟨q77, q86.2, a78, c79, q77.length, cs82, s75, hle76, Option.some.inj hq71, h80, rfl, hE.pick _ ⟨rfl, rfl, rfl, trivial⟩, hS⟩
 ·clear hE hS a w; rintro a w ⟨q77, q84, a78, c79, n81, cs82, s75, hle76, rfl, h80, rfl, hE, hS⟩
  dsimp only at hr
  replace h67 := Sl.mono RFareCond.mono hle76 h67
  replace h70 := Ev.mono RFareCond.mono hle76 h70
  replace h_v0 := Ev.mono RS.mono hle76 h_v0
  refine W.seq ?_
  refine W.seq (W.region ?_)
  refine vP hS hE (Gives.p hE rfl) rfl ?_; clear hE a; intro a hE
  refine vP hS hE (Gives.len hE rfl sl41) rfl ?_; clear hE a; intro a hE
  refine vP hS hE (Gives.p hE rfl) rfl ?_; clear hE a; intro a hE
  refine WL.nil ?_
  refine W.cond hE rfl (fun hc110 => ?_) (fun hc110 => ?_)
  ·replace hr := iteT hc110 hr
   refine W.seq (W.region ?_)
   refine vP hS hE (Gives.p hE rfl) rfl ?_; clear hE a; intro a hE
   obtain ⟨x111, hx112, hr⟩ := bindS hr
   obtain ⟨hi113, hlt114, hy115⟩ := gx_some hx112
   obtain ⟨vs116, hl117, hR118, hd119, hget120⟩ := h80.at hy115
   obtain ⟨a121, c122, rfl, h123⟩ := hR118.unf
   refine vP hS hE (Gives.idx hE (((0 : Int)).toNat) rfl rfl sl41 hi113 (by omega) (hS.vecAok 0 rfl (by omega : ((0 : Int)).toNat < q77.length))) rfl ?_; clear hE a; intro a hE
   refine vP hS hE (Gives.loadA hE rfl (fun w h => St.vecSees h 0 rfl (((0 : Int)).toNat * 4) _ hget120) ty43) rfl ?_; clear hE a; intro a hE
   refine WL.storeI hE hS 3 rfl [.int .i64 x111.Kind, .int .i64 x111.A, .int .i64 x111.B, .slice a121 x111.Kids.length c122] (runs_plain rfl) rfl rfl rfl ty43 rfl rfl rfl rfl ?_; clear hE hS a w; intro a w hE hS
   refine WL.nil ?_
   refine W.ret ?_
   refine finG (fn := Tryz.f85) (rs := [.cell 8 43]) (vs := [_]) hE rfl ⟨⟨_, rfl, .inl ⟨_, rfl, hS.seesAt 3 rfl, ty43⟩⟩, trivial⟩ ?_
   obtain rfl := Option.some.inj hr
   replace hS := hS.tail
   replace hS := hS.dropAt 2
   exact .inr ⟨_, rfl, ⟨_, s75, rfl, (Sg.Le.trans hle64 hle76), (RFareCond.fold ⟨_, _, rfl, h123⟩), hS⟩⟩
  ·replace hr := iteF hc110 hr
   refine W.skip ?_
   refine W.seq (W.region ?_)
   refine vP hS hE (Gives.p hE rfl) rfl ?_; clear hE a; intro a hE
   refine vP hS hE (Gives.p hE rfl) rfl ?_; clear hE a; intro a hE
   refine vP hS hE (Gives.build hE (vs := [(0, .int .i64 x1), (3, .slice a78 q77.length c79)]) [.int .i64 x1, .int .i64 0, .int .i64 0, .slice a78 q77.length c79] rfl (by kernel_rfl)) rfl ?_; clear hE a; intro a hE
   refine WL.storeI hE hS 3 rfl [.int .i64 x1, .int .i64 0, .int .i64 0, .slice a78 q77.length c79] (runs_plain rfl) rfl rfl rfl ty43 rfl rfl rfl rfl ?_; clear hE hS a w; intro a w hE hS
   refine WL.nil ?_
   refine W.ret ?_
   have hF := hS.fixD RFareCond.mono 0 rfl h80 rfl; clear hS; obtain ⟨s124, hle125, hS, h126⟩ := hF
   replace h_v0 := Ev.mono RS.mono hle125 h_v0
   refine finG (fn := Tryz.f85) (rs := [.cell 8 43]) (vs := [_]) hE rfl ⟨⟨_, rfl, .inl ⟨_, rfl, hS.seesAt 2 rfl, ty43⟩⟩, trivial⟩ ?_
   obtain rfl := Option.some.inj hr
   replace hS := hS.dropAt 2
   exact .inr ⟨_, rfl, ⟨_, s124, rfl, (Sg.Le.trans (Sg.Le.trans hle64 hle76) hle125), (RFareCond.fold ⟨_, _, rfl, h126⟩), hS⟩⟩
set_option maxHeartbeats 8000000 in
theorem FareReaderor_v3_ok {fu : Nat}  {self_FareReaderone_v1 : FareReader → Option (Option (FareCond × Int))} (ih_FareReaderone_v1 : ∀ {w : World} {s : Sg} {R : List HP} {pb0 : Nat} {y0 : FareReader} {a_v0 : Option Addr} {c_v0 n_v0 : Nat} {cs_v0 : List Value} (_hS : St w s (pt pb0 (.cells #[.slice a_v0 n_v0 c_v0, .int .i64 y0.at_] 89 (0, 0)) :: vecC 9 1 a_v0 c_v0 n_v0 cs_v0 :: R)) (_hTab : TabX s) (_h_v0 : Ev 1 RS s cs_v0 y0.words) (_hn_v0 : y0.words.length = n_v0) {r : Option (FareCond × Int)} (_hr : self_FareReaderone_v1 y0 = some r), Calls Tryz.prog 103 [.pointer (some ⟨pb0, 0, none⟩)].toArray w (fun e w => (r = none ∧ e = .panicked [{ v := .iface 54 (.agg #[]), recovered := false }] ∧ ∃ (t : Sg), s.Le t ∧ St w t R) ∨ (∃ rr, r = some rr ∧ ∃ (cs0 : List Value) (t : Sg), e = .returned (.agg cs0.toArray) ∧ s.Le t ∧ RFareCond t cs0 rr.1 ∧ St w t (pt pb0 (.cells #[.slice a_v0 n_v0 c_v0, .int .i64 rr.2] 89 (0, 0)) :: vecC 9 1 a_v0 c_v0 n_v0 cs_v0 :: R)))) {w : World} {s : Sg} {R : List HP} {pb0 : Nat} {y0 : FareReader} {a_v0 : Option Addr} {c_v0 n_v0 : Nat} {cs_v0 : List Value} (hS : St w s (pt pb0 (.cells #[.slice a_v0 n_v0 c_v0, .int .i64 y0.at_] 89 (0, 0)) :: vecC 9 1 a_v0 c_v0 n_v0 cs_v0 :: R)) (hTab : TabX s) (h_v0 : Ev 1 RS s cs_v0 y0.words) (hn_v0 : y0.words.length = n_v0) {r : Option (FareCond × Int)} (hr : FareReaderor_v3 fu self_FareReaderone_v1 y0 = some r) :
  Calls Tryz.prog 67 [.pointer (some ⟨pb0, 0, none⟩)].toArray w (fun e w => (r = none ∧ e = .panicked [{ v := .iface 54 (.agg #[]), recovered := false }] ∧ ∃ (t : Sg), s.Le t ∧ St w t R) ∨ (∃ rr, r = some rr ∧ ∃ (cs0 : List Value) (t : Sg), e = .returned (.agg cs0.toArray) ∧ s.Le t ∧ RFareCond t cs0 rr.1 ∧ St w t (pt pb0 (.cells #[.slice a_v0 n_v0 c_v0, .int .i64 rr.2] 89 (0, 0)) :: vecC 9 1 a_v0 c_v0 n_v0 cs_v0 :: R))) := by
 refine enter Tryz.func67 rfl rfl rfl fun a hE => ?_
 rw [FareReaderor_v3] at hr
 subst hn_v0
 refine W.seq (W.region ?_)
 refine WL.alloc hE hS (runs_plain rfl) zr43 rfl ?_; clear hE hS a w; intro b53 a w hE hS
 refine WL.nil ?_
 refine W.seq (W.region ?_)
 refine vP hS hE (Gives.p hE rfl) rfl ?_; clear hE a; intro a hE
 refine vP hS hE (Gives.p hE rfl) rfl ?_; clear hE a; intro a hE
 refine vP hS hE (Gives.mkmeth hE (vs := [.pointer (some ⟨pb0, 0, none⟩)]) rfl) rfl ?_; clear hE a; intro a hE
 obtain ⟨q54, hq55, hr⟩ := bindS hr
 replace hS := hS.front 2 rfl
 replace hS := hS.front 2 rfl
 have hc_ := FareReaderlist_v5_ok (y0 := y0) @ih_FareReaderone_v1 hS (TabG.mono (Sg.Le.refl _) hTab) h_v0 (rfl) hq55
 refine WL.fnP hE (hc_) (runs_plain rfl) bd85 rfl rfl rfl ?_
 clear hE hS hc_; rintro e w (⟨hz57, rfl, t59, hle60, hS⟩ | ⟨rr56, hz58, cs61, s63, rfl, hle64, h62, hS⟩)
 ·refine .inr ⟨_, rfl, ?_⟩; clear a; intro a hE
  rw [hz57] at hr; dsimp only at hr
  replace hS := hS.down hle60
  refine ⟨hE.defers.trans rfl, ?_⟩
  obtain rfl := Option.some.inj hr
  replace hS := hS.tail
  exact .inl ⟨rfl, rfl, s, (Sg.Le.refl _), hS⟩
 refine .inl ⟨_, rfl, ?_⟩; clear a; intro a hE
 rw [hz58] at hr; dsimp only at hr
 replace h_v0 := Ev.mono RS.mono hle64 h_v0
 obtain ⟨a65, c66, rfl, h67⟩ := h62.unf
 refine WL.storeI hE hS 2 rfl [.int .i64 rr56.1.Kind, .int .i64 rr56.1.A, .int .i64 rr56.1.B, .slice a65 rr56.1.Kids.length c66] (runs_plain rfl) rfl rfl rfl ty43 rfl rfl rfl rfl ?_; clear hE hS a w; intro a w hE hS
 refine WL.nil ?_
 refine W.ret ?_
 refine finG (fn := Tryz.f67) (rs := [.cell 2 43]) (vs := [_]) hE rfl ⟨⟨_, rfl, .inl ⟨_, rfl, hS.seesAt 2 rfl, ty43⟩⟩, trivial⟩ ?_
 obtain rfl := Option.some.inj hr
 replace hS := hS.dropAt 2
 exact .inr ⟨_, rfl, ⟨_, s63, rfl, hle64, (RFareCond.fold ⟨_, _, rfl, h67⟩), hS⟩⟩
set_option maxHeartbeats 8000000 in
theorem FareReaderone_v1_ok : ∀ {fu : Nat} {w : World} {s : Sg} {R : List HP} {pb0 : Nat} {y0 : FareReader} {a_v0 : Option Addr} {c_v0 n_v0 : Nat} {cs_v0 : List Value} (_hS : St w s (pt pb0 (.cells #[.slice a_v0 n_v0 c_v0, .int .i64 y0.at_] 89 (0, 0)) :: vecC 9 1 a_v0 c_v0 n_v0 cs_v0 :: R)) (_hTab : TabX s) (_h_v0 : Ev 1 RS s cs_v0 y0.words) (_hn_v0 : y0.words.length = n_v0) {r : Option (FareCond × Int)} (_hr : FareReaderone_v1 fu y0 = some r),
  Calls Tryz.prog 103 [.pointer (some ⟨pb0, 0, none⟩)].toArray w (fun e w => (r = none ∧ e = .panicked [{ v := .iface 54 (.agg #[]), recovered := false }] ∧ ∃ (t : Sg), s.Le t ∧ St w t R) ∨ (∃ rr, r = some rr ∧ ∃ (cs0 : List Value) (t : Sg), e = .returned (.agg cs0.toArray) ∧ s.Le t ∧ RFareCond t cs0 rr.1 ∧ St w t (pt pb0 (.cells #[.slice a_v0 n_v0 c_v0, .int .i64 rr.2] 89 (0, 0)) :: vecC 9 1 a_v0 c_v0 n_v0 cs_v0 :: R))) := by
 intro fu
 induction fu with
 | zero => intro w s R pb0 y0 a_v0 c_v0 n_v0 cs_v0 hS hTab h_v0 hn_v0 r hr; rw [FareReaderone_v1] at hr; exact absurd hr (by simp)
 | succ fu ih_FareReaderone_v1 =>
  intro w s R pb0 y0 a_v0 c_v0 n_v0 cs_v0 hS hTab h_v0 hn_v0 r hr
  rw [FareReaderone_v1] at hr
  generalize FareReaderone_v1 fu = self_FareReaderone_v1 at hr ih_FareReaderone_v1
  refine enter Tryz.func103 rfl rfl rfl fun a hE => ?_
  subst hn_v0
  refine W.seq (W.region ?_)
  refine WL.alloc hE hS (runs_plain rfl) zr43 rfl ?_; clear hE hS a w; intro b53 a w hE hS
  refine WL.nil ?_
  refine W.seq ?_
  refine W.seq (W.region ?_)
  refine vP hS hE (Gives.p hE rfl) rfl ?_; clear hE a; intro a hE
  obtain ⟨q54, hq55, hr⟩ := bindS hr
  replace hS := hS.front 2 rfl
  replace hS := hS.front 2 rfl
  have hc_ := FareReadertake_v1_ok (y0 := y0) hS h_v0 (rfl) hq55
  refine WL.fnq hE (hc_) (runs_plain rfl) bd40 rfl rfl rfl ?_
  clear hE hS hc_; rintro e w ⟨rfl, hS⟩; refine ⟨_, rfl, ?_⟩; clear a; intro a hE
  refine WL.nil ?_
  refine W.cond hE rfl (fun hc56 => ?_) (fun hc56 => ?_)
  ·replace hr := iteT hc56 hr
   refine W.seq (W.region ?_)
   refine vP hS hE (Gives.p hE rfl) rfl ?_; clear hE a; intro a hE
   obtain ⟨q57, hq58, hr⟩ := bindS hr
   have hc_ := FareReaderor_v3_ok (y0 := (FareReader.mk y0.words q54.2)) @ih_FareReaderone_v1 hS (TabG.mono (Sg.Le.refl _) hTab) h_v0 (rfl) hq58
   refine WL.fnP hE (hc_) (runs_plain rfl) bd67 rfl rfl rfl ?_
   clear hE hS hc_; rintro e w (⟨hz60, rfl, t62, hle63, hS⟩ | ⟨rr59, hz61, cs64, s66, rfl, hle67, h65, hS⟩)
   ·refine .inr ⟨_, rfl, ?_⟩; clear a; intro a hE
    rw [hz60] at hr; dsimp only at hr
    replace hS := hS.down hle63
    refine ⟨hE.defers.trans rfl, ?_⟩
    obtain rfl := Option.some.inj hr
    replace hS := hS.tail
    exact .inl ⟨rfl, rfl, s, (Sg.Le.refl _), hS⟩
   refine .inl ⟨_, rfl, ?_⟩; clear a; intro a hE
   rw [hz61] at hr; dsimp only at hr
   replace h_v0 := Ev.mono RS.mono hle67 h_v0
   obtain ⟨a68, c69, rfl, h70⟩ := h65.unf
   refine WL.alloc hE hS (runs_plain rfl) zr43 rfl ?_; clear hE hS a w; intro b71 a w hE hS
   refine WL.storeI hE hS 0 rfl [.int .i64 rr59.1.Kind, .int .i64 rr59.1.A, .int .i64 rr59.1.B, .slice a68 rr59.1.Kids.length c69] (runs_plain rfl) rfl rfl rfl ty43 rfl rfl rfl rfl ?_; clear hE hS a w; intro a w hE hS
   refine WL.nil ?_
   refine W.seq (W.region ?_)
   refine vP hS hE (Gives.p hE rfl) rfl ?_; clear hE a; intro a hE
   obtain ⟨q72, hq73, hr⟩ := bindS hr
   replace hS := hS.front 2 rfl
   replace hS := hS.front 2 rfl
   have hc_ := FareReadermust_v1_ok (y0 := (FareReader.mk y0.words rr59.2)) hS h_v0 (rfl) hq73
   refine WL.fnP hE (hc_) (runs_plain rfl) bd41 rfl rfl rfl ?_
   clear hE hS hc_; rintro e w (⟨hz75, rfl, t77, hle78, hS⟩ | ⟨rr74, hz76, rfl, hS⟩)
   ·refine .inr ⟨_, rfl, ?_⟩; clear a; intro a hE
    rw [hz75] at hr; dsimp only at hr
    replace hS := hS.down hle78
    refine ⟨hE.defers.trans rfl, ?_⟩
    obtain rfl := Option.some.inj hr
    replace hS := hS.tail
    replace hS := hS.tail
    exact .inl ⟨rfl, rfl, s66, hle67, hS⟩
   refine .inl ⟨_, rfl, ?_⟩; clear a; intro a hE
   rw [hz76] at hr; dsimp only at hr
   refine WL.nil ?_
   refine W.seq (W.region ?_)
   refine vP hS hE (Gives.loadBA hE 2 rfl rfl ty43) rfl ?_; clear hE a; intro a hE
   refine WL.storeI hE hS 3 rfl [.int .i64 rr59.1.Kind, .int .i64 rr59.1.A, .int .i64 rr59.1.B, .slice a68 rr59.1.Kids.length c69] (runs_plain rfl) rfl rfl rfl ty43 rfl rfl rfl rfl ?_; clear hE hS a w; intro a w hE hS
   refine WL.nil ?_
   refine W.ret ?_
   refine finG (fn := Tryz.f103) (rs := [.cell 2 43]) (vs := [_]) hE rfl ⟨⟨_, rfl, .inl ⟨_, rfl, hS.seesAt 3 rfl, ty43⟩⟩, trivial⟩ ?_
   obtain rfl := Option.some.inj hr
   replace hS := hS.dropAt 2
   replace hS := hS.dropAt 2
   exact .inr ⟨_, rfl, ⟨_, s66, rfl, hle67, (RFareCond.fold ⟨_, _, rfl, h70⟩), hS⟩⟩
  ·replace hr := iteF hc56 hr
   refine W.skip ?_
   refine W.seq (W.region ?_)
   refine vP hS hE (Gives.p hE rfl) rfl ?_; clear hE a; intro a hE
   obtain ⟨q79, hq80, hr⟩ := bindS hr
   have hc_ := FareReaderword_v1_ok (y0 := (FareReader.mk y0.words q54.2)) hS h_v0 (rfl) hq80
   refine WL.fnP hE (hc_) (runs_plain rfl) bd66 rfl rfl rfl ?_
   clear hE hS hc_; rintro e w (⟨hz82, rfl, t84, hle85, hS⟩ | ⟨rr81, hz83, rfl, hS⟩)
   ·refine .inr ⟨_, rfl, ?_⟩; clear a; intro a hE
    rw [hz82] at hr; dsimp only at hr
    replace hS := hS.down hle85
    refine ⟨hE.defers.trans rfl, ?_⟩
    obtain rfl := Option.some.inj hr
    replace hS := hS.tail
    exact .inl ⟨rfl, rfl, s, (Sg.Le.refl _), hS⟩
   refine .inl ⟨_, rfl, ?_⟩; clear a; intro a hE
   rw [hz83] at hr; dsimp only at hr
   refine vP hS hE (Gives.p hE rfl) rfl ?_; clear hE a; intro a hE
   refine WL.nil ?_
   refine W.seq ?_
   refine W.seq (W.region ?_)
   obtain ⟨q86, hq87, hr⟩ := bndS hr
   have hc_ := Farenames_ok hS  hq87
   refine WL.fnq hE (hc_) (runs_plain rfl) bd56 rfl rfl rfl ?_
   clear hE hS hc_; rintro e w ⟨cs88, rfl, h89, hS⟩; refine ⟨_, rfl, ?_⟩; clear a; intro a hE
   subst h89
   refine vP hS hE (Gives.p hE rfl) rfl ?_; clear hE a; intro a hE
   refine WL.nil ?_
   obtain ⟨q91, hq90, hr⟩ := bindS hr
   refine W.cut (fun a w => ∃ (q101 : Int), ∃ (q102 : Int), ∃ (q103 : Int), ∃ (q104 : List FareCond), ∃ (q108 : Int), ∃ (a105 : Option Addr), ∃ (c106 : Nat), (.next (q101, q102, q103, q104, q108)) = q91 ∧ Sl 4 RFareCond s a105 c106 q104 ∧ Rep a 52 [(2, .pointer (some ⟨b53, 0, none⟩))] ∧ St w s (pt pb0 (.cells #[.slice a_v0 y0.words.length c_v0, .int .i64 q108] 89 (0, 0)) :: vecC 9 1 a_v0 c_v0 y0.words.length cs_v0 :: pt b53 (.cells #[.int .i64 q101, .int .i64 q102, .int .i64 q103, .slice a105 q104.length c106] 43 (0, 0)) :: R)) ?_ ?_
   ·refine W.block ?_
    refine W.loop (fun m a w => ∃ (rest94 : List ByteArray) (k92 : Nat), ∃ (q101 : Int), ∃ (q102 : Int), ∃ (q103 : Int), ∃ (q104 : List FareCond), ∃ (q108 : Int), ∃ (a105 : Option Addr), ∃ (c106 : Nat), rest94.length = m ∧ [q86.f0, q86.f1, q86.f2, q86.f3, q86.f4, q86.f5, q86.f6, q86.f7, q86.f8, q86.f9].drop k92 = rest94 ∧ FareReaderone_v1.loop1 y0 fu self_FareReaderone_v1 rr81 rest94 k92 q101 q102 q103 q104 q108 = some q91 ∧ Sl 4 RFareCond s a105 c106 q104 ∧ Rep a 52 [(0, .pointer (some ⟨pb0, 0, none⟩)), (2, .pointer (some ⟨b53, 0, none⟩)), (4, .string rr81.1), (18, .agg (Ar10str.cells q86).toArray), (19, .int .i64 ((k92 : Nat) : Int))] ∧ St w s (pt pb0 (.cells #[.slice a_v0 y0.words.length c_v0, .int .i64 q108] 89 (0, 0)) :: vecC 9 1 a_v0 c_v0 y0.words.length cs_v0 :: pt b53 (.cells #[.int .i64 q101, .int .i64 q102, .int .i64 q103, .slice a105 q104.length c106] 43 (0, 0)) :: R)) (m := [q86.f0, q86.f1, q86.f2, q86.f3, q86.f4, q86.f5, q86.f6, q86.f7, q86.f8, q86.f9].length) ⟨[q86.f0, q86.f1, q86.f2, q86.f3, q86.f4, q86.f5, q86.f6, q86.f7, q86.f8, q86.f9], 0, 0, 0, 0, [], rr81.2, none, 0, rfl, rfl, hq90, Sl.nil, hE.pick _ ⟨rfl, rfl, rfl, rfl, rfl, trivial⟩, hS⟩ ?_
    clear hE hS a w hq90; rintro m98 a w ⟨rest94, k92, q101, q102, q103, q104, q108, a105, c106, rfl, hd95, hq90, h107, hE, hS⟩
    refine W.gen fun K109 hK109 => ?_
    rcases rest94 with _ | ⟨x93, rest94⟩
    ·have hlt96 : 10 ≤ k92 := drop_nil hd95
     refine W.seq (W.region ?_)
     refine vP hS hE (Gives.p hE rfl) rfl ?_; clear hE a; intro a hE
     refine WL.nil ?_
     refine W.seq ?_
     refine W.condF hE rfl (decide_eq_false (by omega)) ?_
     subst hK109
     refine W.exit rfl ?_
     exact ⟨q101, q102, q103, q104, q108, a105, c106, Option.some.inj hq90, h107, hE.pick _ ⟨rfl, trivial⟩, hS⟩
    ·obtain ⟨hlt96, hx97, hd95⟩ := drop_cons hd95
     replace hlt96 : k92 < 10 := hlt96
     rw [FareReaderone_v1.loop1] at hq90
     refine W.seq (W.region ?_)
     refine vP hS hE (Gives.p hE rfl) rfl ?_; clear hE a; intro a hE
     refine WL.nil ?_
     refine W.seq ?_
     refine W.condT hE rfl (decide_eq_true (by omega)) ?_
     refine W.skip ?_
     refine W.seq ?_
     refine W.block ?_
     refine W.seq (W.region ?_)
     refine vP hS hE (Gives.p hE rfl) rfl ?_; clear hE a; intro a hE
     refine vP hS hE (Gives.indexM hE (f := Value.string) (l := [q86.f0, q86.f1, q86.f2, q86.f3, q86.f4, q86.f5, q86.f6, q86.f7, q86.f8, q86.f9]) (k := k92) ar106 rfl rfl rfl rfl hx97) rfl ?_; clear hE a; intro a hE
     refine vP hS hE (Gives.p hE rfl) rfl ?_; clear hE a; intro a hE
     refine vP hS hE (Gives.p hE rfl) rfl ?_; clear hE a; intro a hE
     refine WL.nil ?_
     refine W.seq ?_
     refine W.seq (W.region ?_)
     refine vP hS hE (Gives.p hE rfl) rfl ?_; clear hE a; intro a hE
     refine vP hS hE (Gives.p hE rfl) rfl ?_; clear hE a; intro a hE
     refine vP hS hE (Gives.neSt hE rfl rfl) rfl ?_; clear hE a; intro a hE
     refine WL.nil ?_
     refine W.cond hE rfl (fun hc110 => ?_) (fun hc110 => ?_)
     ·replace hq90 := iteT hc110 hq90
      refine W.exit rfl ?_
      refine W.region ?_
      refine vP hS hE (Gives.inc hE rfl (by omega)) rfl ?_; clear hE a; intro a hE
      refine vP hS hE (Gives.p hE rfl) rfl ?_; clear hE a; intro a hE
      refine WL.nil ?_
      subst hK109
      exact ⟨rest94.length, Nat.lt_succ_self _, rest94, k92 + 1, q101, q102, q103, q104, q108, a105, c106, rfl, hd95, hq90, h107, hE.pick _ ⟨rfl, rfl, rfl, rfl, rfl, trivial⟩, hS⟩
     ·replace hq90 := iteF hc110 hq90
      refine W.skip ?_
      refine W.seq (W.region ?_)
      refine vP hS hE (Gives.p hE rfl) rfl ?_; clear hE a; intro a hE
      refine vP hS hE (Gives.build hE (vs := [(0, .int .i64 ((k92 : Nat) : Int))]) [.int .i64 ((k92 : Nat) : Int), .int .i64 0, .int .i64 0, .slice none 0 0] rfl (by kernel_rfl)) rfl ?_; clear hE a; intro a hE
      refine WL.alloc hE hS (runs_plain rfl) zr43 rfl ?_; clear hE hS a w; intro b111 a w hE hS
      refine WL.storeI hE hS 0 rfl [.int .i64 ((k92 : Nat) : Int), .int .i64 0, .int .i64 0, .slice none 0 0] (runs_plain rfl) rfl rfl rfl ty43 rfl rfl rfl rfl ?_; clear hE hS a w; intro a w hE hS
      refine WL.nil ?_
      refine W.seq ?_
      refine W.seq (W.region ?_)
      refine vP hS hE (Gives.p hE rfl) rfl ?_; clear hE a; intro a hE
      refine vP hS hE (Gives.p hE rfl) rfl ?_; clear hE a; intro a hE
      refine WL.nil ?_
      obtain ⟨q113, hq112, hq90⟩ := bindS hq90
      refine W.cut (fun a w => ∃ (q116 : List FareCond), ∃ (q120 : Int), ∃ (a117 : Option Addr), ∃ (c118 : Nat), ∃ (s114 : Sg), s.Le s114 ∧ .next (q116, q120) = q113 ∧ Sl 4 RFareCond s114 a117 c118 q116 ∧ Rep a 52 [(0, .pointer (some ⟨pb0, 0, none⟩)), (2, .pointer (some ⟨b53, 0, none⟩)), (5, .int .i64 ((k92 : Nat) : Int)), (7, .pointer (some ⟨b111, 0, none⟩))] ∧ St w s114 (pt b111 (.cells #[.int .i64 ((k92 : Nat) : Int), .int .i64 0, .int .i64 0, .slice a117 q116.length c118] 43 (0, 0)) :: pt pb0 (.cells #[.slice a_v0 y0.words.length c_v0, .int .i64 q120] 89 (0, 0)) :: vecC 9 1 a_v0 c_v0 y0.words.length cs_v0 :: pt b53 (.cells #[.int .i64 q101, .int .i64 q102, .int .i64 q103, .slice a105 q104.length c106] 43 (0, 0)) :: R)) ?_ ?_
      ·refine W.gen fun K121 hK121 => ?_
       refine W.cond hE rfl (fun hc122 => ?_) (fun hc122 => ?_)
       ·replace hq112 := iteT hc122 hq112
        refine W.region ?_
        refine vP hS hE (Gives.p hE rfl) rfl ?_; clear hE a; intro a hE
        obtain ⟨q123, hq124, hq112⟩ := bindS hq112
        replace hS := hS.front 2 rfl
        replace hS := hS.front 2 rfl
        have hc_ := ih_FareReaderone_v1 (y0 := (FareReader.mk y0.words q108)) hS (TabG.mono (Sg.Le.refl _) hTab) h_v0 (rfl) hq124
        refine WL.fnP hE (hc_) (runs_plain rfl) bd103 rfl rfl rfl ?_
        clear hE hS hc_; rintro e w (⟨hz126, rfl, t128, hle129, hS⟩ | ⟨rr125, hz127, cs130, s132, rfl, hle133, h131, hS⟩)
        ·refine .inr ⟨_, rfl, ?_⟩; clear a; intro a hE
         rw [hz126] at hq112; dsimp only at hq112
         replace hS := hS.down hle129
         subst hK121
         subst hK109
         rw [← Option.some.inj hq112] at hq90
         dsimp only at hq90
         rw [← Option.some.inj hq90] at hr
         dsimp only at hr
         refine ⟨hE.defers.trans rfl, ?_⟩
         obtain rfl := Option.some.inj hr
         replace hS := hS.tail
         replace hS := hS.tail
         exact .inl ⟨rfl, rfl, s, (Sg.Le.refl _), hS⟩
        refine .inl ⟨_, rfl, ?_⟩; clear a; intro a hE
        rw [hz127] at hq112; dsimp only at hq112
        replace h_v0 := Ev.mono RS.mono hle133 h_v0
        replace h107 := Sl.mono RFareCond.mono hle133 h107
        obtain ⟨a134, c135, rfl, h136⟩ := h131.unf
        refine WL.lit hE hS (e := 43) (es := 4) (vs := [(0, .agg (List.toArray [.int .i64 rr125.1.Kind, .int .i64 rr125.1.A, .int .i64 rr125.1.B, .slice a134 rr125.1.Kids.length c135]))]) (cs := [.int .i64 rr125.1.Kind, .int .i64 rr125.1.A, .int .i64 rr125.1.B, .slice a134 rr125.1.Kids.length c135]) (runs_plain rfl) rfl (by kernel_rfl) rfl ?_; clear hE hS a w; intro b137 a w hE hS
        replace hS := hS.ptVec (es := 4) (m := 1) rfl (by decide)
        have h139 : Ev 4 RFareCond s132 [.int .i64 rr125.1.Kind, .int .i64 rr125.1.A, .int .i64 rr125.1.B, .slice a134 rr125.1.Kids.length c135] [rr125.1] := (Ev.cons (c1 := [.int .i64 rr125.1.Kind, .int .i64 rr125.1.A, .int .i64 rr125.1.B, .slice a134 rr125.1.Kids.length c135]) (RFareCond.fold ⟨_, _, rfl, h136⟩) rfl (Ev.nil))
        have hF := hS.fixD RFareCond.mono 0 rfl h139 (rfl); clear hS; obtain ⟨s140, hle141, hS, h142⟩ := hF
        replace h136 := Sl.mono RFareCond.mono hle141 h136
        replace h_v0 := Ev.mono RS.mono hle141 h_v0
        replace h107 := Sl.mono RFareCond.mono hle141 h107
        refine vP hS hE (Gives.fld hE rfl fl43_3) rfl ?_; clear hE a; intro a hE
        refine WL.storeI hE hS 2 rfl [.int .i64 ((k92 : Nat) : Int), .int .i64 0, .int .i64 0, .slice (some ⟨b137, 0, none⟩) 1 1] (runs_plain rfl) rfl rfl rfl ty41 rfl rfl rfl rfl ?_; clear hE hS a w; intro a w hE hS
        refine WL.nil ?_
        replace hS := hS.front 3 rfl
        replace hS := hS.front 2 rfl
        replace hS := hS.front 2 rfl
        replace hS := hS.front 3 rfl
        subst hK121
        exact ⟨[rr125.1], rr125.2, (some ⟨b137, 0, none⟩), 1, s140, (Sg.Le.trans hle133 hle141), Option.some.inj hq112, h142, hE.pick _ ⟨rfl, rfl, rfl, rfl, trivial⟩, hS⟩
       ·replace hq112 := iteF hc122 hq112
        refine W.skip ?_
        subst hK121
        exact ⟨[], q108, none, 0, s, (Sg.Le.refl _), Option.some.inj hq112, Sl.nil, hE.pick _ ⟨rfl, rfl, rfl, rfl, trivial⟩, hS⟩
      ·clear hE hS a w; rintro a w ⟨q116, q120, a117, c118, s114, hle115, rfl, h119, hE, hS⟩
       dsimp only at hq90
       replace h_v0 := Ev.mono RS.mono hle115 h_v0
       replace h107 := Sl.mono RFareCond.mono hle115 h107
       refine W.seq ?_
       refine W.seq (W.region ?_)
       refine vP hS hE (Gives.p hE rfl) rfl ?_; clear hE a; intro a hE
       refine WL.fnq hE (Farenumbers_ok hS  rfl (r := Farenumbers ((k92 : Nat) : Int))) (runs_plain rfl) bd57 rfl rfl rfl ?_
       clear hE hS; rintro e w ⟨rfl, hS⟩; refine ⟨_, rfl, ?_⟩; clear a; intro a hE
       refine vP hS hE (Gives.p hE rfl) rfl ?_; clear hE a; intro a hE
       refine WL.nil ?_
       obtain ⟨q155, hq154, hq90⟩ := bindS hq90
       refine W.cut (fun a w => ∃ (q160 : Int), ∃ (q161 : Int), ∃ (q162 : Int), ∃ (q163 : Int), (.next (q160, q161, q162, q163)) = q155 ∧ Rep a 52 [(2, .pointer (some ⟨b53, 0, none⟩)), (7, .pointer (some ⟨b111, 0, none⟩))] ∧ St w s114 (pt b111 (.cells #[.int .i64 ((k92 : Nat) : Int), .int .i64 q161, .int .i64 q162, .slice a117 q116.length c118] 43 (0, 0)) :: pt pb0 (.cells #[.slice a_v0 y0.words.length c_v0, .int .i64 q163] 89 (0, 0)) :: vecC 9 1 a_v0 c_v0 y0.words.length cs_v0 :: pt b53 (.cells #[.int .i64 q101, .int .i64 q102, .int .i64 q103, .slice a105 q104.length c106] 43 (0, 0)) :: R)) ?_ ?_
       ·refine W.block ?_
        refine W.loop (fun m a w => ∃ (n156 : Nat), ∃ (q160 : Int), ∃ (q161 : Int), ∃ (q162 : Int), ∃ (q163 : Int), n156 = m ∧ FareReaderone_v1.loop3 y0 k92 n156 q160 q161 q162 q163 = some q155 ∧ Rep a 52 [(0, .pointer (some ⟨pb0, 0, none⟩)), (2, .pointer (some ⟨b53, 0, none⟩)), (7, .pointer (some ⟨b111, 0, none⟩)), (35, .int .i64 (Farenumbers ((k92 : Nat) : Int))), (36, .int .i64 q160)] ∧ St w s114 (pt b111 (.cells #[.int .i64 ((k92 : Nat) : Int), .int .i64 q161, .int .i64 q162, .slice a117 q116.length c118] 43 (0, 0)) :: pt pb0 (.cells #[.slice a_v0 y0.words.length c_v0, .int .i64 q163] 89 (0, 0)) :: vecC 9 1 a_v0 c_v0 y0.words.length cs_v0 :: pt b53 (.cells #[.int .i64 q101, .int .i64 q102, .int .i64 q103, .slice a105 q104.length c106] 43 (0, 0)) :: R)) (m := fu) ⟨fu, 0, 0, 0, q120, rfl, hq154, hE.pick _ ⟨rfl, rfl, rfl, rfl, rfl, trivial⟩, hS⟩ ?_
        clear hE hS a w hq154; rintro m157 a w ⟨n156, q160, q161, q162, q163, rfl, hq154, hE, hS⟩
        refine W.gen fun K164 hK164 => ?_
        rcases n156 with _ | n156
        ·rw [FareReaderone_v1.loop3] at hq154; exact absurd hq154 (by simp)
        rw [FareReaderone_v1.loop3] at hq154
        refine W.seq (W.region ?_)
        refine vP hS hE (Gives.p hE rfl) rfl ?_; clear hE a; intro a hE
        refine WL.nil ?_
        refine W.seq ?_
        refine W.cond hE rfl (fun hc165 => ?_) (fun hc165 => ?_)
        ·replace hq154 := iteT hc165 hq154
         refine W.skip ?_
         refine W.seq ?_
         refine W.block ?_
         refine W.seq (W.region ?_)
         refine vP hS hE (Gives.p hE rfl) rfl ?_; clear hE a; intro a hE
         refine vP hS hE (Gives.p hE rfl) rfl ?_; clear hE a; intro a hE
         refine WL.nil ?_
         refine W.gen fun K166 hK166 => ?_
         have hPF : PanF K166.pan := by subst hK166; subst hK164; subst hK109; rintro c (_ | d) v a w h <;> exact h
         refine rQ hS [] [1] [0, 1, 2, 3, 4, 5, 7] [0, 1, 2, 3, 4, 5, 6, 7] mixed ?_
         replace hS := hS.drew
         refine Rq.takeP hPF (i := 0) hE rfl (by kernel_rfl) (runs_plain rfl) (Gives.fld hE rfl fl43_1) rfl (tw_sel (fun _ => hS) (fun _ => (hS.dropAt 1))) ?_; clear hE a; intro a hE
         refine Rq.takeP hPF (i := 1) hE rfl (by kernel_rfl) (runs_plain rfl) (Gives.fld hE rfl fl43_2) rfl (tw_sel (fun _ => hS) (fun _ => (hS.dropAt 1))) ?_; clear hE a; intro a hE
         refine Rq.takeP hPF (i := 2) hE rfl (by kernel_rfl) (runs_plain rfl) (Gives.build hE (vs := [(0, .pointer (some ⟨b111, 1, none⟩)), (1, .pointer (some ⟨b111, 2, none⟩))]) [.pointer (some ⟨b111, 1, none⟩), .pointer (some ⟨b111, 2, none⟩)] rfl (by kernel_rfl)) rfl (tw_sel (fun _ => hS) (fun _ => (hS.dropAt 1))) ?_; clear hE a; intro a hE
         refine Rq.takeP hPF (i := 3) hE rfl (by kernel_rfl) (runs_plain rfl) (Gives.p hE rfl) rfl (tw_sel (fun _ => hS) (fun _ => (hS.dropAt 1))) ?_; clear hE a; intro a hE
         rcases Bool.eq_false_or_eq_true (q160 == 0) with hg167 | hg167
         ·replace hq154 := iteT hg167 hq154
          have hk168 := eq_of_beq hg167
          refine Rq.takeP hPF (i := 4) hE rfl (by kernel_rfl) (runs_plain rfl) (show Gives _ _ _ _ (.pointer (some ⟨b111, 1, none⟩)) from Gives.indexMi hE (f := id) (l := [.pointer (some ⟨b111, 1, none⟩), .pointer (some ⟨b111, 2, none⟩)]) ar163 rfl rfl (by simp) rfl (by omega) (by rw [hk168]; rfl)) rfl (tw_sel (fun _ => hS) (fun _ => (hS.dropAt 1))) ?_; clear hE a; intro a hE
          refine Rq.takeP hPF (i := 5) hE rfl (by kernel_rfl) (runs_plain rfl) (Gives.p hE rfl) rfl (tw_sel (fun _ => hS) (fun _ => (hS.dropAt 1))) ?_; clear hE a; intro a hE
          refine Rq.one (i := 6) false true rfl (by kernel_rfl) (by kernel_rfl) (by kernel_rfl) ?_
          obtain ⟨q169, hq170, hq154⟩ := bindS hq154
          replace hS := hS.front 2 rfl
          replace hS := hS.front 2 rfl
          have hc_ := FareReadernumber_v1_ok (y0 := (FareReader.mk y0.words q163)) hS (TabG.mono hle115 hTab) h_v0 (rfl) hq170
          refine WL.fnP hE (hc_) (runs_plain rfl) bd42 rfl rfl rfl ?_
          clear hE hS hc_; rintro e w (⟨hz172, rfl, t174, hle175, hS⟩ | ⟨rr171, hz173, rfl, hS⟩)
          ·refine .inr ⟨_, rfl, ?_⟩; clear a; intro a hE
           rw [hz172] at hq154; dsimp only at hq154
           replace hS := hS.down hle175
           subst hK166
           subst hK164
           subst hK109
           rw [← Option.some.inj hq154] at hq90
           dsimp only at hq90
           rw [← Option.some.inj hq90] at hr
           dsimp only at hr
           refine ⟨hE.defers.trans rfl, ?_⟩
           obtain rfl := Option.some.inj hr
           replace hS := hS.tail
           replace hS := hS.tail
           exact .inl ⟨rfl, rfl, s114, hle115, hS⟩
          refine .inl ⟨_, rfl, ?_⟩; clear a; intro a hE
          rw [hz173] at hq154; dsimp only at hq154
          refine WL.nil ?_
          refine ⟨⟨fun h => absurd h (by decide), fun _ => (St.front (St.front (St.front (hS.tail) 2 rfl) 1 rfl) 2 rfl)⟩, ?_⟩
          refine Rq.take hPF (i := 7) false rfl hE rfl (by kernel_rfl) (runs_plain rfl) (Gives.nilOk hE rfl) rfl (tw_sel (fun h => absurd h (by decide)) (fun _ => (St.front (St.front (St.front (hS.tail) 2 rfl) 1 rfl) 2 rfl))) ?_; clear hE a; intro a hE
          refine Rq.one (i := 8) false false rfl (by kernel_rfl) (by kernel_rfl) (by kernel_rfl) ?_
          refine WL.storeI hE hS 2 rfl [.int .i64 ((k92 : Nat) : Int), .int .i64 rr171.1, .int .i64 q162, .slice a117 q116.length c118] (runs_plain rfl) rfl rfl rfl ty3 rfl rfl rfl rfl ?_; clear hE hS a w; intro a w hE hS
          refine WL.nil ?_
          refine ⟨⟨fun h => absurd h (by decide), fun h => absurd h (by decide)⟩, ?_⟩
          refine Rq.done (by kernel_rfl) ?_
          subst hK166
          refine W.region ?_
          refine vP hS hE (Gives.p hE rfl) rfl ?_; clear hE a; intro a hE
          refine vP hS hE (Gives.p hE rfl) rfl ?_; clear hE a; intro a hE
          refine WL.nil ?_
          replace hS := hS.front 3 rfl
          replace hS := hS.front 2 rfl
          replace hS := hS.front 2 rfl
          replace hS := hS.front 3 rfl
          subst hK164
          exact ⟨n156, Nat.lt_succ_self _, n156, (w64 (q160 + 1)), rr171.1, q162, rr171.2, rfl, hq154, hE.pick _ ⟨rfl, rfl, rfl, rfl, rfl, trivial⟩, hS⟩
         ·replace hq154 := iteF hg167 hq154
          rcases Bool.eq_false_or_eq_true (q160 == 1) with hg176 | hg176
          ·replace hq154 := iteT hg176 hq154
           have hk177 := eq_of_beq hg176
           refine Rq.takeP hPF (i := 4) hE rfl (by kernel_rfl) (runs_plain rfl) (show Gives _ _ _ _ (.pointer (some ⟨b111, 2, none⟩)) from Gives.indexMi hE (f := id) (l := [.pointer (some ⟨b111, 1, none⟩), .pointer (some ⟨b111, 2, none⟩)]) ar163 rfl rfl (by simp) rfl (by omega) (by rw [hk177]; rfl)) rfl (tw_sel (fun _ => hS) (fun _ => (hS.dropAt 1))) ?_; clear hE a; intro a hE
           refine Rq.takeP hPF (i := 5) hE rfl (by kernel_rfl) (runs_plain rfl) (Gives.p hE rfl) rfl (tw_sel (fun _ => hS) (fun _ => (hS.dropAt 1))) ?_; clear hE a; intro a hE
           refine Rq.one (i := 6) false true rfl (by kernel_rfl) (by kernel_rfl) (by kernel_rfl) ?_
           obtain ⟨q178, hq179, hq154⟩ := bindS hq154
           replace hS := hS.front 2 rfl
           replace hS := hS.front 2 rfl
           have hc_ := FareReadernumber_v1_ok (y0 := (FareReader.mk y0.words q163)) hS (TabG.mono hle115 hTab) h_v0 (rfl) hq179
           refine WL.fnP hE (hc_) (runs_plain rfl) bd42 rfl rfl rfl ?_
           clear hE hS hc_; rintro e w (⟨hz181, rfl, t183, hle184, hS⟩ | ⟨rr180, hz182, rfl, hS⟩)
           ·refine .inr ⟨_, rfl, ?_⟩; clear a; intro a hE
            rw [hz181] at hq154; dsimp only at hq154
            replace hS := hS.down hle184
            subst hK166
            subst hK164
            subst hK109
            rw [← Option.some.inj hq154] at hq90
            dsimp only at hq90
            rw [← Option.some.inj hq90] at hr
            dsimp only at hr
            refine ⟨hE.defers.trans rfl, ?_⟩
            obtain rfl := Option.some.inj hr
            replace hS := hS.tail
            replace hS := hS.tail
            exact .inl ⟨rfl, rfl, s114, hle115, hS⟩
           refine .inl ⟨_, rfl, ?_⟩; clear a; intro a hE
           rw [hz182] at hq154; dsimp only at hq154
           refine WL.nil ?_
           refine ⟨⟨fun h => absurd h (by decide), fun _ => (St.front (St.front (St.front (hS.tail) 2 rfl) 1 rfl) 2 rfl)⟩, ?_⟩
           refine Rq.take hPF (i := 7) false rfl hE rfl (by kernel_rfl) (runs_plain rfl) (Gives.nilOk hE rfl) rfl (tw_sel (fun h => absurd h (by decide)) (fun _ => (St.front (St.front (St.front (hS.tail) 2 rfl) 1 rfl) 2 rfl))) ?_; clear hE a; intro a hE
           refine Rq.one (i := 8) false false rfl (by kernel_rfl) (by kernel_rfl) (by kernel_rfl) ?_
           refine WL.storeI hE hS 2 rfl [.int .i64 ((k92 : Nat) : Int), .int .i64 q161, .int .i64 rr180.1, .slice a117 q116.length c118] (runs_plain rfl) rfl rfl rfl ty3 rfl rfl rfl rfl ?_; clear hE hS a w; intro a w hE hS
           refine WL.nil ?_
           refine ⟨⟨fun h => absurd h (by decide), fun h => absurd h (by decide)⟩, ?_⟩
           refine Rq.done (by kernel_rfl) ?_
           subst hK166
           refine W.region ?_
           refine vP hS hE (Gives.p hE rfl) rfl ?_; clear hE a; intro a hE
           refine vP hS hE (Gives.p hE rfl) rfl ?_; clear hE a; intro a hE
           refine WL.nil ?_
           replace hS := hS.front 3 rfl
           replace hS := hS.front 2 rfl
           replace hS := hS.front 2 rfl
           replace hS := hS.front 3 rfl
           subst hK164
           exact ⟨n156, Nat.lt_succ_self _, n156, (w64 (q160 + 1)), q161, rr180.1, rr180.2, rfl, hq154, hE.pick _ ⟨rfl, rfl, rfl, rfl, rfl, trivial⟩, hS⟩
          ·replace hq154 := iteF hg176 hq154
           exact absurd hq154 (by simp)
        ·replace hq154 := iteF hc165 hq154
         subst hK164
         refine W.exit rfl ?_
         exact ⟨q160, q161, q162, q163, Option.some.inj hq154, hE.pick _ ⟨rfl, rfl, trivial⟩, hS⟩
       ·clear hE hS a w; rintro a w ⟨q160, q161, q162, q163, rfl, hE, hS⟩
        dsimp only at hq90
        refine W.seq (W.region ?_)
        refine vP hS hE (Gives.loadBA hE 0 rfl rfl ty43) rfl ?_; clear hE a; intro a hE
        refine WL.storeI hE hS 3 rfl [.int .i64 ((k92 : Nat) : Int), .int .i64 q161, .int .i64 q162, .slice a117 q116.length c118] (runs_plain rfl) rfl rfl rfl ty43 rfl rfl rfl rfl ?_; clear hE hS a w; intro a w hE hS
        refine WL.nil ?_
        refine W.ret ?_
        subst hK109
        rw [← Option.some.inj hq90] at hr
        dsimp only at hr
        refine finG (fn := Tryz.f103) (rs := [.cell 2 43]) (vs := [_]) hE rfl ⟨⟨_, rfl, .inl ⟨_, rfl, hS.seesAt 3 rfl, ty43⟩⟩, trivial⟩ ?_
        obtain rfl := Option.some.inj hr
        replace hS := hS.tail
        replace hS := hS.dropAt 2
        exact .inr ⟨_, rfl, ⟨_, s114, rfl, hle115, (RFareCond.fold ⟨_, _, rfl, h119⟩), hS⟩⟩
   ·clear hE hS a w; rintro a w ⟨q101, q102, q103, q104, q108, a105, c106, rfl, h107, hE, hS⟩
    dsimp only at hr
    refine W.region ?_
    refine vP hS hE (Gives.build hE (vs := []) [] rfl (by kernel_rfl)) rfl ?_; clear hE a; intro a hE
    refine vP hS hE (Gives.iface hE rfl ifc54) rfl ?_; clear hE a; intro a hE
    refine WL.panic hE rfl (runs_plain rfl) ?_; clear hE a; intro a hE
    refine ⟨hE.defers.trans rfl, ?_⟩
    obtain rfl := Option.some.inj hr
    replace hS := hS.tail
    replace hS := hS.tail
    replace hS := hS.tail
    exact .inl ⟨rfl, rfl, s, (Sg.Le.refl _), hS⟩
set_option maxHeartbeats 8000000 in
theorem FareReaderrule_v1_ok {fu : Nat}  {w : World} {s : Sg} {R : List HP} {pb0 : Nat} {y0 : FareReader} {a_v0 : Option Addr} {c_v0 n_v0 : Nat} {cs_v0 : List Value} (hS : St w s (pt pb0 (.cells #[.slice a_v0 n_v0 c_v0, .int .i64 y0.at_] 89 (0, 0)) :: vecC 9 1 a_v0 c_v0 n_v0 cs_v0 :: R)) (hTab : TabX s) (h_v0 : Ev 1 RS s cs_v0 y0.words) (hn_v0 : y0.words.length = n_v0) {r : Option (FareRule × Int)} (hr : FareReaderrule_v1 fu y0 = some r) :
  Calls Tryz.prog 43 [.pointer (some ⟨pb0, 0, none⟩)].toArray w (fun e w => (r = none ∧ e = .panicked [{ v := .iface 54 (.agg #[]), recovered := false }] ∧ ∃ (t : Sg), s.Le t ∧ St w t R) ∨ (∃ rr, r = some rr ∧ ∃ (cs0 : List Value) (t : Sg), e = .returned (.agg cs0.toArray) ∧ s.Le t ∧ RFareRule t cs0 rr.1 ∧ St w t (pt pb0 (.cells #[.slice a_v0 n_v0 c_v0, .int .i64 rr.2] 89 (0, 0)) :: vecC 9 1 a_v0 c_v0 n_v0 cs_v0 :: R))) := by
 refine enter Tryz.func43 rfl rfl rfl fun a hE => ?_
 rw [FareReaderrule_v1] at hr
 subst hn_v0
 refine W.seq (W.region ?_)
 refine WL.alloc hE hS (runs_plain rfl) zr45 rfl ?_; clear hE hS a w; intro b53 a w hE hS
 refine WL.nil ?_
 refine W.seq (W.region ?_)
 refine vP hS hE (Gives.p hE rfl) rfl ?_; clear hE a; intro a hE
 obtain ⟨q54, hq55, hr⟩ := bindS hr
 replace hS := hS.front 2 rfl
 replace hS := hS.front 2 rfl
 have hc_ := FareReaderor_v3_ok (y0 := y0) (@FareReaderone_v1_ok fu) hS (TabG.mono (Sg.Le.refl _) hTab) h_v0 (rfl) hq55
 refine WL.fnP hE (hc_) (runs_plain rfl) bd67 rfl rfl rfl ?_
 clear hE hS hc_; rintro e w (⟨hz57, rfl, t59, hle60, hS⟩ | ⟨rr56, hz58, cs61, s63, rfl, hle64, h62, hS⟩)
 ·refine .inr ⟨_, rfl, ?_⟩; clear a; intro a hE
  rw [hz57] at hr; dsimp only at hr
  replace hS := hS.down hle60
  refine ⟨hE.defers.trans rfl, ?_⟩
  obtain rfl := Option.some.inj hr
  replace hS := hS.tail
  exact .inl ⟨rfl, rfl, s, (Sg.Le.refl _), hS⟩
 refine .inl ⟨_, rfl, ?_⟩; clear a; intro a hE
 rw [hz58] at hr; dsimp only at hr
 replace h_v0 := Ev.mono RS.mono hle64 h_v0
 obtain ⟨a65, c66, rfl, h67⟩ := h62.unf
 refine vP hS hE (Gives.build hE (vs := [(0, .agg (List.toArray [.int .i64 rr56.1.Kind, .int .i64 rr56.1.A, .int .i64 rr56.1.B, .slice a65 rr56.1.Kids.length c66]))]) [.int .i64 rr56.1.Kind, .int .i64 rr56.1.A, .int .i64 rr56.1.B, .slice a65 rr56.1.Kids.length c66, .int .i64 0, .int .i64 0, .bool false] rfl (by kernel_rfl)) rfl ?_; clear hE a; intro a hE
 refine WL.alloc hE hS (runs_plain rfl) zr45 rfl ?_; clear hE hS a w; intro b68 a w hE hS
 refine WL.storeI hE hS 0 rfl [.int .i64 rr56.1.Kind, .int .i64 rr56.1.A, .int .i64 rr56.1.B, .slice a65 rr56.1.Kids.length c66, .int .i64 0, .int .i64 0, .bool false] (runs_plain rfl) rfl rfl rfl ty45 rfl rfl rfl rfl ?_; clear hE hS a w; intro a w hE hS
 refine WL.nil ?_
 refine W.seq (W.region ?_)
 refine vP hS hE (Gives.p hE rfl) rfl ?_; clear hE a; intro a hE
 obtain ⟨q69, hq70, hr⟩ := bindS hr
 replace hS := hS.front 2 rfl
 replace hS := hS.front 2 rfl
 have hc_ := FareReadermust_v1_ok (y0 := (FareReader.mk y0.words rr56.2)) hS h_v0 (rfl) hq70
 refine WL.fnP hE (hc_) (runs_plain rfl) bd41 rfl rfl rfl ?_
 clear hE hS hc_; rintro e w (⟨hz72, rfl, t74, hle75, hS⟩ | ⟨rr71, hz73, rfl, hS⟩)
 ·refine .inr ⟨_, rfl, ?_⟩; clear a; intro a hE
  rw [hz72] at hr; dsimp only at hr
  replace hS := hS.down hle75
  refine ⟨hE.defers.trans rfl, ?_⟩
  obtain rfl := Option.some.inj hr
  replace hS := hS.tail
  replace hS := hS.tail
  exact .inl ⟨rfl, rfl, s63, hle64, hS⟩
 refine .inl ⟨_, rfl, ?_⟩; clear a; intro a hE
 rw [hz73] at hr; dsimp only at hr
 refine WL.nil ?_
 refine W.seq (W.region ?_)
 refine vP hS hE (Gives.p hE rfl) rfl ?_; clear hE a; intro a hE
 obtain ⟨q76, hq77, hr⟩ := bindS hr
 have hc_ := FareReaderword_v1_ok (y0 := (FareReader.mk y0.words rr71)) hS h_v0 (rfl) hq77
 refine WL.fnP hE (hc_) (runs_plain rfl) bd66 rfl rfl rfl ?_
 clear hE hS hc_; rintro e w (⟨hz79, rfl, t81, hle82, hS⟩ | ⟨rr78, hz80, rfl, hS⟩)
 ·refine .inr ⟨_, rfl, ?_⟩; clear a; intro a hE
  rw [hz79] at hr; dsimp only at hr
  replace hS := hS.down hle82
  refine ⟨hE.defers.trans rfl, ?_⟩
  obtain rfl := Option.some.inj hr
  replace hS := hS.tail
  replace hS := hS.tail
  exact .inl ⟨rfl, rfl, s63, hle64, hS⟩
 refine .inl ⟨_, rfl, ?_⟩; clear a; intro a hE
 rw [hz80] at hr; dsimp only at hr
 refine vP hS hE (Gives.p hE rfl) rfl ?_; clear hE a; intro a hE
 refine WL.nil ?_
 refine W.seq ?_
 refine W.seq (W.region ?_)
 obtain ⟨q83, hq84, hr⟩ := bndS hr
 have hc_ := Faredeeds_ok hS  hq84
 refine WL.fnq hE (hc_) (runs_plain rfl) bd31 rfl rfl rfl ?_
 clear hE hS hc_; rintro e w ⟨cs85, rfl, h86, hS⟩; refine ⟨_, rfl, ?_⟩; clear a; intro a hE
 subst h86
 refine vP hS hE (Gives.p hE rfl) rfl ?_; clear hE a; intro a hE
 refine WL.nil ?_
 obtain ⟨q88, hq87, hr⟩ := bndS hr
 refine W.cut (fun a w => ∃ (q98 : Int), q98 = q88 ∧ Rep a 41 [(0, .pointer (some ⟨pb0, 0, none⟩)), (2, .pointer (some ⟨b53, 0, none⟩)), (3, .pointer (some ⟨b68, 0, none⟩))] ∧ St w s63 (pt pb0 (.cells #[.slice a_v0 y0.words.length c_v0, .int .i64 rr78.2] 89 (0, 0)) :: vecC 9 1 a_v0 c_v0 y0.words.length cs_v0 :: pt b68 (.cells #[.int .i64 rr56.1.Kind, .int .i64 rr56.1.A, .int .i64 rr56.1.B, .slice a65 rr56.1.Kids.length c66, .int .i64 q98, .int .i64 0, .bool false] 45 (0, 0)) :: pt b53 (.cells #[.int .i64 0, .int .i64 0, .int .i64 0, .slice none 0 0, .int .i64 0, .int .i64 0, .bool false] 45 (0, 0)) :: R)) ?_ ?_
 ·refine W.block ?_
  refine W.loop (fun m a w => ∃ (rest91 : List ByteArray) (k89 : Nat), ∃ (q98 : Int), rest91.length = m ∧ [q83.f0, q83.f1, q83.f2, q83.f3, q83.f4, q83.f5, q83.f6].drop k89 = rest91 ∧ FareReaderrule_v1.loop1 rr78 rest91 k89 q98 = q88 ∧ Rep a 41 [(0, .pointer (some ⟨pb0, 0, none⟩)), (2, .pointer (some ⟨b53, 0, none⟩)), (3, .pointer (some ⟨b68, 0, none⟩)), (4, .string rr78.1), (14, .agg (Ar7str.cells q83).toArray), (15, .int .i64 ((k89 : Nat) : Int))] ∧ St w s63 (pt pb0 (.cells #[.slice a_v0 y0.words.length c_v0, .int .i64 rr78.2] 89 (0, 0)) :: vecC 9 1 a_v0 c_v0 y0.words.length cs_v0 :: pt b68 (.cells #[.int .i64 rr56.1.Kind, .int .i64 rr56.1.A, .int .i64 rr56.1.B, .slice a65 rr56.1.Kids.length c66, .int .i64 q98, .int .i64 0, .bool false] 45 (0, 0)) :: pt b53 (.cells #[.int .i64 0, .int .i64 0, .int .i64 0, .slice none 0 0, .int .i64 0, .int .i64 0, .bool false] 45 (0, 0)) :: R)) (m := [q83.f0, q83.f1, q83.f2, q83.f3, q83.f4, q83.f5, q83.f6].length) ⟨[q83.f0, q83.f1, q83.f2, q83.f3, q83.f4, q83.f5, q83.f6], 0, 0, rfl, rfl, hq87, hE.pick _ ⟨rfl, rfl, rfl, rfl, rfl, rfl, trivial⟩, hS⟩ ?_
  clear hE hS a w hq87; rintro m95 a w ⟨rest91, k89, q98, rfl, hd92, hq87, hE, hS⟩
  refine W.gen fun K99 hK99 => ?_
  rcases rest91 with _ | ⟨x90, rest91⟩
  ·have hlt93 : 7 ≤ k89 := drop_nil hd92
   refine W.seq (W.region ?_)
   refine vP hS hE (Gives.p hE rfl) rfl ?_; clear hE a; intro a hE
   refine WL.nil ?_
   refine W.seq ?_
   refine W.condF hE rfl (decide_eq_false (by omega)) ?_
   subst hK99
   refine W.exit rfl ?_
   exact ⟨q98, hq87, hE.pick _ ⟨rfl, rfl, rfl, trivial⟩, hS⟩
  ·obtain ⟨hlt93, hx94, hd92⟩ := drop_cons hd92
   replace hlt93 : k89 < 7 := hlt93
   rw [FareReaderrule_v1.loop1] at hq87
   refine W.seq (W.region ?_)
   refine vP hS hE (Gives.p hE rfl) rfl ?_; clear hE a; intro a hE
   refine WL.nil ?_
   refine W.seq ?_
   refine W.condT hE rfl (decide_eq_true (by omega)) ?_
   refine W.skip ?_
   refine W.seq ?_
   refine W.block ?_
   refine W.seq (W.region ?_)
   refine vP hS hE (Gives.p hE rfl) rfl ?_; clear hE a; intro a hE
   refine vP hS hE (Gives.indexM hE (f := Value.string) (l := [q83.f0, q83.f1, q83.f2, q83.f3, q83.f4, q83.f5, q83.f6]) (k := k89) ar76 rfl rfl rfl rfl hx94) rfl ?_; clear hE a; intro a hE
   refine vP hS hE (Gives.p hE rfl) rfl ?_; clear hE a; intro a hE
   refine vP hS hE (Gives.p hE rfl) rfl ?_; clear hE a; intro a hE
   refine WL.nil ?_
   refine W.seq ?_
   obtain ⟨q101, hq100, hq87⟩ := bndS hq87
   refine W.cut (fun a w => ∃ (q104 : Bool), q104 = q101 ∧ Rep a 41 [(0, .pointer (some ⟨pb0, 0, none⟩)), (2, .pointer (some ⟨b53, 0, none⟩)), (3, .pointer (some ⟨b68, 0, none⟩)), (4, .string rr78.1), (5, .int .i64 ((k89 : Nat) : Int)), (14, .agg (Ar7str.cells q83).toArray), (15, .int .i64 ((k89 : Nat) : Int)), (25, .bool q104)] ∧ St w s63 (pt pb0 (.cells #[.slice a_v0 y0.words.length c_v0, .int .i64 rr78.2] 89 (0, 0)) :: vecC 9 1 a_v0 c_v0 y0.words.length cs_v0 :: pt b68 (.cells #[.int .i64 rr56.1.Kind, .int .i64 rr56.1.A, .int .i64 rr56.1.B, .slice a65 rr56.1.Kids.length c66, .int .i64 q98, .int .i64 0, .bool false] 45 (0, 0)) :: pt b53 (.cells #[.int .i64 0, .int .i64 0, .int .i64 0, .slice none 0 0, .int .i64 0, .int .i64 0, .bool false] 45 (0, 0)) :: R)) ?_ ?_
   ·refine W.gen fun K105 hK105 => ?_
    refine W.region ?_
    refine vP hS hE (Gives.p hE rfl) rfl ?_; clear hE a; intro a hE
    refine vP hS hE (Gives.p hE rfl) rfl ?_; clear hE a; intro a hE
    refine vP hS hE (Gives.p hE rfl) rfl ?_; clear hE a; intro a hE
    rcases Bool.eq_false_or_eq_true (decide (((k89 : Nat) : Int) > 0)) with hg106 | hg106
    ·replace hq100 := iteT hg106 hq100
     refine WL.vS hS hE (runs_if hE rfl rfl rfl hg106) (Gives.p hE rfl) rfl ?_; clear hE a; intro a hE
     refine WL.vS hS hE (runs_if hE rfl rfl rfl hg106) (Gives.p hE rfl) rfl ?_; clear hE a; intro a hE
     refine WL.vS hS hE (runs_if hE rfl rfl rfl hg106) (Gives.eqSt hE rfl rfl) rfl ?_; clear hE a; intro a hE
     refine vP hS hE (Gives.pickT hE rfl hg106 rfl) rfl ?_; clear hE a; intro a hE
     refine WL.nil ?_
     subst hK105
     exact ⟨(seq rr78.1 x90), hq100, hE.pick _ ⟨rfl, rfl, rfl, rfl, rfl, rfl, rfl, rfl, trivial⟩, hS⟩
    ·replace hq100 := iteF hg106 hq100
     refine WL.no hE (runs_not hE rfl rfl rfl (by rw [hg106]; decide)) rfl ?_; clear hE a; intro a hE
     refine WL.no hE (runs_not hE rfl rfl rfl (by rw [hg106]; decide)) rfl ?_; clear hE a; intro a hE
     refine WL.no hE (runs_not hE rfl rfl rfl (by rw [hg106]; decide)) rfl ?_; clear hE a; intro a hE
     refine vP hS hE (Gives.pickF hE rfl hg106 rfl) rfl ?_; clear hE a; intro a hE
     refine WL.nil ?_
     subst hK105
     exact ⟨false, hq100, hE.pick _ ⟨rfl, rfl, rfl, rfl, rfl, rfl, rfl, rfl, trivial⟩, hS⟩
   ·clear hE hS a w; rintro a w ⟨q104, rfl, hE, hS⟩
    obtain ⟨q108, hq107, hq87⟩ := bndS hq87
    refine W.cut (fun a w => ∃ (q111 : Int), q111 = q108 ∧ Rep a 41 [(0, .pointer (some ⟨pb0, 0, none⟩)), (2, .pointer (some ⟨b53, 0, none⟩)), (3, .pointer (some ⟨b68, 0, none⟩)), (4, .string rr78.1), (14, .agg (Ar7str.cells q83).toArray), (15, .int .i64 ((k89 : Nat) : Int))] ∧ St w s63 (pt pb0 (.cells #[.slice a_v0 y0.words.length c_v0, .int .i64 rr78.2] 89 (0, 0)) :: vecC 9 1 a_v0 c_v0 y0.words.length cs_v0 :: pt b68 (.cells #[.int .i64 rr56.1.Kind, .int .i64 rr56.1.A, .int .i64 rr56.1.B, .slice a65 rr56.1.Kids.length c66, .int .i64 q111, .int .i64 0, .bool false] 45 (0, 0)) :: pt b53 (.cells #[.int .i64 0, .int .i64 0, .int .i64 0, .slice none 0 0, .int .i64 0, .int .i64 0, .bool false] 45 (0, 0)) :: R)) ?_ ?_
    ·refine W.gen fun K112 hK112 => ?_
     refine W.cond hE rfl (fun hc113 => ?_) (fun hc113 => ?_)
     ·replace hq107 := iteT hc113 hq107
      refine W.region ?_
      refine vP hS hE (Gives.p hE rfl) rfl ?_; clear hE a; intro a hE
      refine vP hS hE (Gives.fld hE rfl fl45_1) rfl ?_; clear hE a; intro a hE
      refine WL.storeI hE hS 2 rfl [.int .i64 rr56.1.Kind, .int .i64 rr56.1.A, .int .i64 rr56.1.B, .slice a65 rr56.1.Kids.length c66, .int .i64 ((k89 : Nat) : Int), .int .i64 0, .bool false] (runs_plain rfl) rfl rfl rfl ty3 rfl rfl rfl rfl ?_; clear hE hS a w; intro a w hE hS
      refine WL.nil ?_
      subst hK112
      exact ⟨((k89 : Nat) : Int), hq107, hE.pick _ ⟨rfl, rfl, rfl, rfl, rfl, rfl, trivial⟩, hS⟩
     ·replace hq107 := iteF hc113 hq107
      refine W.skip ?_
      subst hK112
      exact ⟨q98, hq107, hE.pick _ ⟨rfl, rfl, rfl, rfl, rfl, rfl, trivial⟩, hS⟩
    ·clear hE hS a w; rintro a w ⟨q111, rfl, hE, hS⟩
     refine W.region ?_
     refine vP hS hE (Gives.inc hE rfl (by omega)) rfl ?_; clear hE a; intro a hE
     refine vP hS hE (Gives.p hE rfl) rfl ?_; clear hE a; intro a hE
     refine WL.nil ?_
     subst hK99
     exact ⟨rest91.length, Nat.lt_succ_self _, rest91, k89 + 1, q111, rfl, hd92, hq87, hE.pick _ ⟨rfl, rfl, rfl, rfl, rfl, rfl, trivial⟩, hS⟩
 ·clear hE hS a w; rintro a w ⟨q98, rfl, hE, hS⟩
  refine W.seq ?_
  refine W.seq (W.region ?_)
  refine vP hS hE (Gives.fld hE rfl fl45_1) rfl ?_; clear hE a; intro a hE
  refine vP hS hE (Gives.loadB hE 2 rfl rfl rfl ty3) rfl ?_; clear hE a; intro a hE
  refine vP hS hE (Gives.p hE rfl) rfl ?_; clear hE a; intro a hE
  refine WL.nil ?_
  refine W.cond hE rfl (fun hc114 => ?_) (fun hc114 => ?_)
  ·replace hr := iteT hc114 hr
   refine W.region ?_
   refine vP hS hE (Gives.build hE (vs := []) [] rfl (by kernel_rfl)) rfl ?_; clear hE a; intro a hE
   refine vP hS hE (Gives.iface hE rfl ifc54) rfl ?_; clear hE a; intro a hE
   refine WL.panic hE rfl (runs_plain rfl) ?_; clear hE a; intro a hE
   refine ⟨hE.defers.trans rfl, ?_⟩
   obtain rfl := Option.some.inj hr
   replace hS := hS.tail
   replace hS := hS.tail
   replace hS := hS.tail
   replace hS := hS.tail
   exact .inl ⟨rfl, rfl, s63, hle64, hS⟩
  ·replace hr := iteF hc114 hr
   refine W.skip ?_
   refine W.seq (W.region ?_)
   refine vP hS hE (Gives.p hE rfl) rfl ?_; clear hE a; intro a hE
   obtain ⟨q115, hq116, hr⟩ := bindS hr
   have hc_ := FareReadernumber_v1_ok (y0 := (FareReader.mk y0.words rr78.2)) hS (TabG.mono hle64 hTab) h_v0 (rfl) hq116
   refine WL.fnP hE (hc_) (runs_plain rfl) bd42 rfl rfl rfl ?_
   clear hE hS hc_; rintro e w (⟨hz118, rfl, t120, hle121, hS⟩ | ⟨rr117, hz119, rfl, hS⟩)
   ·refine .inr ⟨_, rfl, ?_⟩; clear a; intro a hE
    rw [hz118] at hr; dsimp only at hr
    replace hS := hS.down hle121
    refine ⟨hE.defers.trans rfl, ?_⟩
    obtain rfl := Option.some.inj hr
    replace hS := hS.tail
    replace hS := hS.tail
    exact .inl ⟨rfl, rfl, s63, hle64, hS⟩
   refine .inl ⟨_, rfl, ?_⟩; clear a; intro a hE
   rw [hz119] at hr; dsimp only at hr
   refine vP hS hE (Gives.fld hE rfl fl45_2) rfl ?_; clear hE a; intro a hE
   refine WL.storeI hE hS 2 rfl [.int .i64 rr56.1.Kind, .int .i64 rr56.1.A, .int .i64 rr56.1.B, .slice a65 rr56.1.Kids.length c66, .int .i64 q98, .int .i64 rr117.1, .bool false] (runs_plain rfl) rfl rfl rfl ty3 rfl rfl rfl rfl ?_; clear hE hS a w; intro a w hE hS
   refine WL.nil ?_
   refine W.seq (W.region ?_)
   refine vP hS hE (Gives.p hE rfl) rfl ?_; clear hE a; intro a hE
   obtain ⟨q122, hq123, hr⟩ := bindS hr
   have hc_ := FareReadertake_v1_ok (y0 := (FareReader.mk y0.words rr117.2)) hS h_v0 (rfl) hq123
   refine WL.fnq hE (hc_) (runs_plain rfl) bd40 rfl rfl rfl ?_
   clear hE hS hc_; rintro e w ⟨rfl, hS⟩; refine ⟨_, rfl, ?_⟩; clear a; intro a hE
   refine vP hS hE (Gives.fld hE rfl fl45_3) rfl ?_; clear hE a; intro a hE
   refine WL.storeI hE hS 2 rfl [.int .i64 rr56.1.Kind, .int .i64 rr56.1.A, .int .i64 rr56.1.B, .slice a65 rr56.1.Kids.length c66, .int .i64 q98, .int .i64 rr117.1, .bool q122.1] (runs_plain rfl) rfl rfl rfl ty4 rfl rfl rfl rfl ?_; clear hE hS a w; intro a w hE hS
   refine WL.nil ?_
   refine W.seq (W.region ?_)
   refine vP hS hE (Gives.loadBA hE 2 rfl rfl ty45) rfl ?_; clear hE a; intro a hE
   refine WL.storeI hE hS 3 rfl [.int .i64 rr56.1.Kind, .int .i64 rr56.1.A, .int .i64 rr56.1.B, .slice a65 rr56.1.Kids.length c66, .int .i64 q98, .int .i64 rr117.1, .bool q122.1] (runs_plain rfl) rfl rfl rfl ty45 rfl rfl rfl rfl ?_; clear hE hS a w; intro a w hE hS
   refine WL.nil ?_
   refine W.ret ?_
   refine finG (fn := Tryz.f43) (rs := [.cell 2 45]) (vs := [_]) hE rfl ⟨⟨_, rfl, .inl ⟨_, rfl, hS.seesAt 3 rfl, ty45⟩⟩, trivial⟩ ?_
   obtain rfl := Option.some.inj hr
   replace hS := hS.dropAt 2
   replace hS := hS.dropAt 2
   exact .inr ⟨_, rfl, ⟨_, s63, rfl, hle64, ⟨_, _, rfl, h67⟩, hS⟩⟩
set_option maxHeartbeats 8000000 in
theorem Faretariff_ok {fu : Nat}  {w : World} {s : Sg} {R : List HP} {x0 : ByteArray} (hS : St w s (R)) (hTab : TabX s) {r : Option FareTariff} (hr : Faretariff fu x0 = some r) :
  Calls Tryz.prog 19 [.string x0].toArray w (fun e w => (r = none ∧ e = .panicked [{ v := .iface 54 (.agg #[]), recovered := false }] ∧ ∃ (t : Sg), s.Le t ∧ St w t R) ∨ (∃ rr, r = some rr ∧ ∃ (cs0 : List Value) (t : Sg), e = .returned (.agg cs0.toArray) ∧ s.Le t ∧ RFareTariff t cs0 rr ∧ St w t (R))) := by
 refine enter Tryz.func19 rfl rfl rfl fun a hE => ?_
 rw [Faretariff] at hr
 refine W.seq (W.region ?_)
 refine WL.alloc hE hS (runs_plain rfl) zr25 rfl ?_; clear hE hS a w; intro b51 a w hE hS
 refine WL.nil ?_
 refine W.seq (W.region ?_)
 refine vP hS hE (Gives.p hE rfl) rfl ?_; clear hE a; intro a hE
 obtain ⟨q52, hq53, hr⟩ := bindS hr
 refine WL.fnq hE (cuts_ok hS hq53) (runs_plain rfl) bd37 rfl rfl rfl ?_
 clear hE hS; rintro e w ⟨rfl, hS⟩; refine ⟨_, rfl, ?_⟩; clear a; intro a hE
 refine vP hS hE (Gives.p hE rfl) rfl ?_; clear hE a; intro a hE
 refine vP hS hE (Gives.p hE rfl) rfl ?_; clear hE a; intro a hE
 refine vP hS hE (Gives.p hE rfl) rfl ?_; clear hE a; intro a hE
 refine vP hS hE (Gives.p hE rfl) rfl ?_; clear hE a; intro a hE
 refine vP hS hE (Gives.p hE rfl) rfl ?_; clear hE a; intro a hE
 refine WL.nil ?_
 refine W.seq ?_
 refine W.seq (W.region ?_)
 refine vP hS hE (Gives.p hE rfl) rfl ?_; clear hE a; intro a hE
 refine vP hS hE (Gives.p hE rfl) rfl ?_; clear hE a; intro a hE
 refine WL.nil ?_
 refine W.cond hE rfl (fun hc54 => ?_) (fun hc54 => ?_)
 ·replace hr := iteT hc54 hr
  refine W.region ?_
  refine vP hS hE (Gives.build hE (vs := []) [] rfl (by kernel_rfl)) rfl ?_; clear hE a; intro a hE
  refine vP hS hE (Gives.iface hE rfl ifc54) rfl ?_; clear hE a; intro a hE
  refine WL.panic hE rfl (runs_plain rfl) ?_; clear hE a; intro a hE
  refine ⟨hE.defers.trans rfl, ?_⟩
  obtain rfl := Option.some.inj hr
  replace hS := hS.tail
  exact .inl ⟨rfl, rfl, s, (Sg.Le.refl _), hS⟩
 ·replace hr := iteF hc54 hr
  refine W.skip ?_
  refine W.seq (W.region ?_)
  refine WL.alloc hE hS (runs_plain rfl) zr25 rfl ?_; clear hE hS a w; intro b55 a w hE hS
  refine WL.nil ?_
  refine W.seq (W.region ?_)
  refine vP hS hE (Gives.p hE rfl) rfl ?_; clear hE a; intro a hE
  refine WL.nil ?_
  refine W.seq ?_
  refine W.seq (W.region ?_)
  refine vP hS hE (Gives.p hE rfl) rfl ?_; clear hE a; intro a hE
  obtain ⟨q56, hq57, hr⟩ := bindS hr
  refine WL.fnq hE (split_ok hS (TabG.mono (Sg.Le.refl _) hTab) hq57) (runs_plain rfl) bd38 rfl rfl rfl ?_
  clear hE hS; rintro e w ⟨b58, cs59, rfl, h60, hS⟩; refine ⟨_, rfl, ?_⟩; clear a; intro a hE
  refine vP hS hE (Gives.len hE rfl sl59) rfl ?_; clear hE a; intro a hE
  refine vP hS hE (Gives.p hE rfl) rfl ?_; clear hE a; intro a hE
  refine WL.nil ?_
  replace hS := hS.vecNil 40 2
  replace hS := hS.vecNil 45 7
  have hb75 : q56.length ≤ 9223372036854775807 := by have := hS.vecCap 2 rfl; unfold maxLen at this; omega
  obtain ⟨q65, hq64, hr⟩ := bindS hr
  refine W.cut (fun a w => ∃ (q76 : Int), ∃ (q77 : Bool), ∃ (q78 : List FareBand), ∃ (q85 : Int), ∃ (q86 : List FareRule), ∃ (a79 : Option Addr), ∃ (c80 : Nat), ∃ (n82 : Nat), ∃ (cs83 : List Value), ∃ (a87 : Option Addr), ∃ (c88 : Nat), ∃ (n90 : Nat), ∃ (cs91 : List Value), ∃ (s73 : Sg), s.Le s73 ∧ (.next (q76, q77, q78, q85, q86)) = q65 ∧ Ev 2 RFareBand s73 cs83 q78 ∧ q78.length = n82 ∧ Ev 7 RFareRule s73 cs91 q86 ∧ q86.length = n90 ∧ Rep a 97 [(0, .string x0), (2, .pointer (some ⟨b51, 0, none⟩)), (5, .pointer (some ⟨b55, 0, none⟩)), (6, .int .i64 q76)] ∧ St w s73 (vecC 45 7 a87 c88 n90 cs91 :: vecC 40 2 a79 c80 n82 cs83 :: vecC 9 1 (some ⟨b58, 0, none⟩) q56.length q56.length cs59 :: pt b55 (.cells #[.bool q77, .slice a79 n82 c80, .int .i64 q85, .slice a87 n90 c88] 25 (0, 0)) :: pt b51 (.cells #[.bool false, .slice none 0 0, .int .i64 0, .slice none 0 0] 25 (0, 0)) :: R)) ?_ ?_
  ·refine W.block ?_
   refine W.loop (fun m a w => ∃ (rest68 : Nat) (k66 : Nat), ∃ (q76 : Int), ∃ (q77 : Bool), ∃ (q78 : List FareBand), ∃ (q85 : Int), ∃ (q86 : List FareRule), ∃ (a79 : Option Addr), ∃ (c80 : Nat), ∃ (n82 : Nat), ∃ (cs83 : List Value), ∃ (a87 : Option Addr), ∃ (c88 : Nat), ∃ (n90 : Nat), ∃ (cs91 : List Value), ∃ (s73 : Sg), rest68 = m ∧ k66 + rest68 = q56.length ∧ s.Le s73 ∧ Faretariff.loop1 fu q56 rest68 k66 q76 q77 q78 q85 q86 = some q65 ∧ Ev 2 RFareBand s73 cs83 q78 ∧ q78.length = n82 ∧ Ev 7 RFareRule s73 cs91 q86 ∧ q86.length = n90 ∧ Rep a 97 [(0, .string x0), (2, .pointer (some ⟨b51, 0, none⟩)), (5, .pointer (some ⟨b55, 0, none⟩)), (6, .int .i64 q76), (20, .slice (some ⟨b58, 0, none⟩) q56.length q56.length), (21, .int .i64 ((q56.length : Nat) : Int)), (22, .int .i64 ((k66 : Nat) : Int))] ∧ St w s73 (vecC 45 7 a87 c88 n90 cs91 :: vecC 40 2 a79 c80 n82 cs83 :: vecC 9 1 (some ⟨b58, 0, none⟩) q56.length q56.length cs59 :: pt b55 (.cells #[.bool q77, .slice a79 n82 c80, .int .i64 q85, .slice a87 n90 c88] 25 (0, 0)) :: pt b51 (.cells #[.bool false, .slice none 0 0, .int .i64 0, .slice none 0 0] 25 (0, 0)) :: R)) (m := q56.length) ⟨q56.length, 0, 0, false, [], 0, [], none, 0, 0, [], none, 0, 0, [], s, rfl, by omega, (Sg.Le.refl _), hq64, (Ev.nil), (rfl), (Ev.nil), (rfl), hE.pick _ ⟨rfl, rfl, rfl, rfl, rfl, rfl, rfl, trivial⟩, hS⟩ ?_
   clear hE hS a w hq64; rintro m72 a w ⟨rest68, k66, q76, q77, q78, q85, q86, a79, c80, n82, cs83, a87, c88, n90, cs91, s73, rfl, hd69, hle74, hq64, h81, rfl, h89, rfl, hE, hS⟩
   refine W.gen fun K93 hK93 => ?_
   replace h60 := Ev.mono RS.mono hle74 h60
   rcases rest68 with _ | rest68
   ·skip
    refine W.seq (W.region ?_)
    refine vP hS hE (Gives.p hE rfl) rfl ?_; clear hE a; intro a hE
    refine WL.nil ?_
    refine W.seq ?_
    refine W.condF hE rfl (decide_eq_false (by omega)) ?_
    subst hK93
    refine W.exit rfl ?_
    exact ⟨q76, q77, q78, q85, q86, a79, c80, q78.length, cs83, a87, c88, q86.length, cs91, s73, hle74, Option.some.inj hq64, h81, rfl, h89, rfl, hE.pick _ ⟨rfl, rfl, rfl, rfl, trivial⟩, hS⟩
   ·have hlt70 : k66 < q56.length := by omega
    rw [Faretariff.loop1] at hq64
    refine W.seq (W.region ?_)
    refine vP hS hE (Gives.p hE rfl) rfl ?_; clear hE a; intro a hE
    refine WL.nil ?_
    refine W.seq ?_
    refine W.condT hE rfl (decide_eq_true (by omega)) ?_
    refine W.skip ?_
    refine W.seq ?_
    refine W.block ?_
    refine W.seq (W.region ?_)
    obtain ⟨x94, hx95, hq64⟩ := bindS hq64
    obtain ⟨hi96, hlt97, hy98⟩ := gx_some hx95
    obtain ⟨vs99, hl100, hR101, hd102, hget103⟩ := h60.at hy98
    subst hR101
    refine vP hS hE (Gives.idx hE ((((k66 : Nat) : Int)).toNat) rfl rfl sl59 hi96 (by omega) (hS.vecAok 2 rfl (by omega : (((k66 : Nat) : Int)).toNat < q56.length))) rfl ?_; clear hE a; intro a hE
    refine vP hS hE (Gives.load1 hE rfl (fun w h => St.vecSees h 2 rfl ((((k66 : Nat) : Int)).toNat * 1) _ hget103) ty9) rfl ?_; clear hE a; intro a hE
    refine vP hS hE (Gives.p hE rfl) rfl ?_; clear hE a; intro a hE
    refine WL.nil ?_
    refine W.seq (W.region ?_)
    refine vP hS hE (Gives.p hE rfl) rfl ?_; clear hE a; intro a hE
    obtain ⟨q104, hq105, hq64⟩ := bindS hq64
    have hc_ := Farewords_ok hS  hq105
    refine WL.fnq hE (hc_) (runs_plain rfl) bd39 rfl rfl rfl ?_
    clear hE hS hc_; rintro e w ⟨a106, c107, n108, cs109, rfl, h110, rfl, hS⟩; refine ⟨_, rfl, ?_⟩; clear a; intro a hE
    refine vP hS hE (Gives.build hE (vs := [(0, .slice a106 q104.length c107)]) [.slice a106 q104.length c107, .int .i64 0] rfl (by kernel_rfl)) rfl ?_; clear hE a; intro a hE
    refine WL.box hE hS (runs_plain rfl) rfl rfl rfl ?_; clear hE hS a w; intro b112 a w hE hS
    refine vP hS hE (Gives.p hE rfl) rfl ?_; clear hE a; intro a hE
    refine WL.nil ?_
    refine W.seq ?_
    refine W.block ?_
    refine W.seq (W.region ?_)
    refine vP hS hE (Gives.p hE rfl) rfl ?_; clear hE a; intro a hE
    refine vP hS hE (Gives.p hE rfl) rfl ?_; clear hE a; intro a hE
    refine vP hS hE (Gives.p hE rfl) rfl ?_; clear hE a; intro a hE
    refine WL.nil ?_
    obtain ⟨q114, hq113, hq64⟩ := bindS hq64
    refine W.cut (fun a w => ∃ (q117 : Int), ∃ (q118 : Int), ∃ (q119 : Bool), ∃ (q120 : List FareBand), ∃ (q127 : Int), ∃ (q128 : List FareRule), ∃ (a121 : Option Addr), ∃ (c122 : Nat), ∃ (n124 : Nat), ∃ (cs125 : List Value), ∃ (a129 : Option Addr), ∃ (c130 : Nat), ∃ (n132 : Nat), ∃ (cs133 : List Value), ∃ (s115 : Sg), s73.Le s115 ∧ .next (q117, q118, q119, q120, q127, q128) = q114 ∧ Ev 2 RFareBand s115 cs125 q120 ∧ q120.length = n124 ∧ Ev 7 RFareRule s115 cs133 q128 ∧ q128.length = n132 ∧ Rep a 97 [(0, .string x0), (2, .pointer (some ⟨b51, 0, none⟩)), (5, .pointer (some ⟨b55, 0, none⟩)), (6, .int .i64 q117), (9, .pointer (some ⟨b112, 0, none⟩)), (20, .slice (some ⟨b58, 0, none⟩) q56.length q56.length), (21, .int .i64 ((q56.length : Nat) : Int)), (22, .int .i64 ((k66 : Nat) : Int))] ∧ St w s115 (pt b112 (.cells #[.slice a106 q104.length c107, .int .i64 q118] 89 (0, 0)) :: vecC 9 1 a106 c107 q104.length cs109 :: vecC 45 7 a129 c130 n132 cs133 :: vecC 40 2 a121 c122 n124 cs125 :: vecC 9 1 (some ⟨b58, 0, none⟩) q56.length q56.length cs59 :: pt b55 (.cells #[.bool q119, .slice a121 n124 c122, .int .i64 q127, .slice a129 n132 c130] 25 (0, 0)) :: pt b51 (.cells #[.bool false, .slice none 0 0, .int .i64 0, .slice none 0 0] 25 (0, 0)) :: R)) ?_ ?_
    ·refine W.gen fun K135 hK135 => ?_
     refine W.cond hE rfl (fun hc136 => ?_) (fun hc136 => ?_)
     ·replace hq113 := iteT hc136 hq113
      refine W.seq (W.region ?_)
      refine vP hS hE (Gives.p hE rfl) rfl ?_; clear hE a; intro a hE
      obtain ⟨q137, hq138, hq113⟩ := bindS hq113
      have hc_ := FareReadertake_v1_ok (y0 := (FareReader.mk q104 0)) hS h110 rfl hq138
      refine WL.fnq hE (hc_) (runs_plain rfl) bd40 rfl rfl rfl ?_
      clear hE hS hc_; rintro e w ⟨rfl, hS⟩; refine ⟨_, rfl, ?_⟩; clear a; intro a hE
      refine vP hS hE (Gives.fld hE rfl fl25_0) rfl ?_; clear hE a; intro a hE
      refine WL.storeI hE hS 5 rfl [.bool q137.1, .slice a79 q78.length c80, .int .i64 q85, .slice a87 q86.length c88] (runs_plain rfl) rfl rfl rfl ty4 rfl rfl rfl rfl ?_; clear hE hS a w; intro a w hE hS
      refine WL.nil ?_
      refine W.seq ?_
      refine W.seq (W.region ?_)
      refine vP hS hE (Gives.fld hE rfl fl25_0) rfl ?_; clear hE a; intro a hE
      refine vP hS hE (Gives.loadB hE 5 rfl rfl rfl ty4) rfl ?_; clear hE a; intro a hE
      refine vP hS hE (Gives.p hE rfl) rfl ?_; clear hE a; intro a hE
      refine WL.nil ?_
      refine W.cond hE rfl (fun hc139 => ?_) (fun hc139 => ?_)
      ·replace hq113 := iteT hc139 hq113
       refine W.region ?_
       refine vP hS hE (Gives.p hE rfl) rfl ?_; clear hE a; intro a hE
       obtain ⟨q140, hq141, hq113⟩ := bindS hq113
       have hc_ := FareReadermust_v1_ok (y0 := (FareReader.mk q104 q137.2)) hS h110 rfl hq141
       refine WL.fnP hE (hc_) (runs_plain rfl) bd41 rfl rfl rfl ?_
       clear hE hS hc_; rintro e w (⟨hz143, rfl, t145, hle146, hS⟩ | ⟨rr142, hz144, rfl, hS⟩)
       ·refine .inr ⟨_, rfl, ?_⟩; clear a; intro a hE
        rw [hz143] at hq113; dsimp only at hq113
        replace hS := hS.down hle146
        subst hK135
        subst hK93
        rw [← Option.some.inj hq113] at hq64
        dsimp only at hq64
        rw [← Option.some.inj hq64] at hr
        dsimp only at hr
        refine ⟨hE.defers.trans rfl, ?_⟩
        obtain rfl := Option.some.inj hr
        replace hS := hS.tail
        replace hS := hS.tail
        replace hS := hS.tail
        replace hS := hS.tail
        replace hS := hS.tail
        exact .inl ⟨rfl, rfl, s73, hle74, hS⟩
       refine .inl ⟨_, rfl, ?_⟩; clear a; intro a hE
       rw [hz144] at hq113; dsimp only at hq113
       refine WL.nil ?_
       refine W.region ?_
       refine vP hS hE (Gives.p hE rfl) rfl ?_; clear hE a; intro a hE
       refine WL.nil ?_
       subst hK135
       exact ⟨1, rr142, q137.1, q78, q85, q86, a79, c80, q78.length, cs83, a87, c88, q86.length, cs91, s73, (Sg.Le.refl _), Option.some.inj hq113, h81, rfl, h89, rfl, hE.pick _ ⟨rfl, rfl, rfl, rfl, rfl, rfl, rfl, rfl, trivial⟩, hS⟩
      ·replace hq113 := iteF hc139 hq113
       refine W.skip ?_
       refine W.region ?_
       refine vP hS hE (Gives.p hE rfl) rfl ?_; clear hE a; intro a hE
       refine WL.nil ?_
       subst hK135
       exact ⟨1, q137.2, q137.1, q78, q85, q86, a79, c80, q78.length, cs83, a87, c88, q86.length, cs91, s73, (Sg.Le.refl _), Option.some.inj hq113, h81, rfl, h89, rfl, hE.pick _ ⟨rfl, rfl, rfl, rfl, rfl, rfl, rfl, rfl, trivial⟩, hS⟩
     ·replace hq113 := iteF hc136 hq113
      refine W.seq ?_
      obtain ⟨q148, hq147, hq113⟩ := bindS hq113
      refine W.cut (fun a w => ∃ (q151 : Bool), ∃ (q152 : Int), (q151, q152) = q148 ∧ Rep a 97 [(0, .string x0), (2, .pointer (some ⟨b51, 0, none⟩)), (5, .pointer (some ⟨b55, 0, none⟩)), (6, .int .i64 q76), (9, .pointer (some ⟨b112, 0, none⟩)), (20, .slice (some ⟨b58, 0, none⟩) q56.length q56.length), (21, .int .i64 ((q56.length : Nat) : Int)), (22, .int .i64 ((k66 : Nat) : Int)), (48, .bool q151)] ∧ St w s73 (pt b112 (.cells #[.slice a106 q104.length c107, .int .i64 q152] 89 (0, 0)) :: vecC 9 1 a106 c107 q104.length cs109 :: vecC 45 7 a87 c88 q86.length cs91 :: vecC 40 2 a79 c80 q78.length cs83 :: vecC 9 1 (some ⟨b58, 0, none⟩) q56.length q56.length cs59 :: pt b55 (.cells #[.bool q77, .slice a79 q78.length c80, .int .i64 q85, .slice a87 q86.length c88] 25 (0, 0)) :: pt b51 (.cells #[.bool false, .slice none 0 0, .int .i64 0, .slice none 0 0] 25 (0, 0)) :: R)) ?_ ?_
      ·refine W.gen fun K153 hK153 => ?_
       refine W.region ?_
       refine vP hS hE (Gives.p hE rfl) rfl ?_; clear hE a; intro a hE
       refine vP hS hE (Gives.p hE rfl) rfl ?_; clear hE a; intro a hE
       refine vP hS hE (Gives.p hE rfl) rfl ?_; clear hE a; intro a hE
       rcases Bool.eq_false_or_eq_true (q76 == 1) with hg154 | hg154
       ·replace hq147 := iteT hg154 hq147
        refine WL.vS hS hE (runs_if hE rfl rfl rfl hg154) (Gives.p hE rfl) rfl ?_; clear hE a; intro a hE
        obtain ⟨q155, hq156, hq147⟩ := bindS hq147
        have hc_ := FareReadertake_v1_ok (y0 := (FareReader.mk q104 0)) hS h110 rfl hq156
        refine WL.fnq hE (hc_) (runs_if hE rfl rfl rfl hg154) bd40 rfl rfl rfl ?_
        clear hE hS hc_; rintro e w ⟨rfl, hS⟩; refine ⟨_, rfl, ?_⟩; clear a; intro a hE
        refine vP hS hE (Gives.pickT hE rfl hg154 rfl) rfl ?_; clear hE a; intro a hE
        refine vP hS hE (Gives.p hE rfl) rfl ?_; clear hE a; intro a hE
        refine WL.nil ?_
        subst hK153
        exact ⟨q155.1, q155.2, Option.some.inj hq147, hE.pick _ ⟨rfl, rfl, rfl, rfl, rfl, rfl, rfl, rfl, rfl, trivial⟩, hS⟩
       ·replace hq147 := iteF hg154 hq147
        refine WL.no hE (runs_not hE rfl rfl rfl (by rw [hg154]; decide)) rfl ?_; clear hE a; intro a hE
        refine WL.no hE (runs_not hE rfl rfl rfl (by rw [hg154]; decide)) rfl ?_; clear hE a; intro a hE
        refine vP hS hE (Gives.pickF hE rfl hg154 rfl) rfl ?_; clear hE a; intro a hE
        refine vP hS hE (Gives.p hE rfl) rfl ?_; clear hE a; intro a hE
        refine WL.nil ?_
        subst hK153
        exact ⟨false, 0, Option.some.inj hq147, hE.pick _ ⟨rfl, rfl, rfl, rfl, rfl, rfl, rfl, rfl, rfl, trivial⟩, hS⟩
      ·clear hE hS a w; rintro a w ⟨q151, q152, rfl, hE, hS⟩
       dsimp only at hq113
       obtain ⟨q158, hq157, hq113⟩ := bindS hq113
       refine W.cut (fun a w => ∃ (q161 : Int), ∃ (q162 : Int), ∃ (q163 : List FareBand), ∃ (q170 : Int), ∃ (q171 : List FareRule), ∃ (a164 : Option Addr), ∃ (c165 : Nat), ∃ (n167 : Nat), ∃ (cs168 : List Value), ∃ (a172 : Option Addr), ∃ (c173 : Nat), ∃ (n175 : Nat), ∃ (cs176 : List Value), ∃ (s159 : Sg), s73.Le s159 ∧ .next (q161, q162, q163, q170, q171) = q158 ∧ Ev 2 RFareBand s159 cs168 q163 ∧ q163.length = n167 ∧ Ev 7 RFareRule s159 cs176 q171 ∧ q171.length = n175 ∧ Rep a 97 [(0, .string x0), (2, .pointer (some ⟨b51, 0, none⟩)), (5, .pointer (some ⟨b55, 0, none⟩)), (6, .int .i64 q161), (9, .pointer (some ⟨b112, 0, none⟩)), (20, .slice (some ⟨b58, 0, none⟩) q56.length q56.length), (21, .int .i64 ((q56.length : Nat) : Int)), (22, .int .i64 ((k66 : Nat) : Int))] ∧ St w s159 (pt b112 (.cells #[.slice a106 q104.length c107, .int .i64 q162] 89 (0, 0)) :: vecC 9 1 a106 c107 q104.length cs109 :: vecC 45 7 a172 c173 n175 cs176 :: vecC 40 2 a164 c165 n167 cs168 :: vecC 9 1 (some ⟨b58, 0, none⟩) q56.length q56.length cs59 :: pt b55 (.cells #[.bool q77, .slice a164 n167 c165, .int .i64 q170, .slice a172 n175 c173] 25 (0, 0)) :: pt b51 (.cells #[.bool false, .slice none 0 0, .int .i64 0, .slice none 0 0] 25 (0, 0)) :: R)) ?_ ?_
       ·refine W.gen fun K178 hK178 => ?_
        refine W.cond hE rfl (fun hc179 => ?_) (fun hc179 => ?_)
        ·replace hq157 := iteT hc179 hq157
         refine W.gen fun K180 hK180 => ?_
         have hPF : PanF K180.pan := by subst hK180; subst hK178; subst hK135; subst hK93; rintro c (_ | d) v a w h <;> exact h
         refine rQ hS [] [0, 2] [0, 1, 2, 4, 6, 7, 9] [0, 1, 2, 3, 4, 5, 6, 7, 8, 9] mixed ?_
         replace hS := hS.drew
         refine Rq.takeP hPF (i := 0) hE rfl (by kernel_rfl) (runs_plain rfl) (Gives.fld hE rfl fl25_1) rfl (tw_sel (fun _ => hS) (fun _ => ((hS.tail).dropAt 2))) ?_; clear hE a; intro a hE
         refine Rq.take hPF (i := 1) false rfl hE rfl (by kernel_rfl) (runs_plain rfl) (Gives.loadB hE 3 rfl rfl rfl ty22) rfl (tw_sel (fun _ => hS) (fun _ => ((hS.tail).dropAt 2))) ?_; clear hE a; intro a hE
         refine Rq.takeP hPF (i := 2) hE rfl (by kernel_rfl) (runs_plain rfl) (Gives.p hE rfl) rfl (tw_sel (fun _ => hS) (fun _ => ((hS.tail).dropAt 2))) ?_; clear hE a; intro a hE
         refine Rq.takeP hPF (i := 4) hE rfl (by kernel_rfl) (runs_plain rfl) (Gives.p hE rfl) rfl (tw_sel (fun _ => hS) (fun _ => ((hS.tail).dropAt 2))) ?_; clear hE a; intro a hE
         refine Rq.one (i := 3) false true rfl (by kernel_rfl) (by kernel_rfl) (by kernel_rfl) ?_
         obtain ⟨q181, hq182, hq157⟩ := bindS hq157
         have hc_ := FareReadernumber_v1_ok (y0 := (FareReader.mk q104 q152)) hS (TabG.mono hle74 hTab) h110 rfl hq182
         refine WL.fnP hE (hc_) (runs_plain rfl) bd42 rfl rfl rfl ?_
         clear hE hS hc_; rintro e w (⟨hz184, rfl, t186, hle187, hS⟩ | ⟨rr183, hz185, rfl, hS⟩)
         ·refine .inr ⟨_, rfl, ?_⟩; clear a; intro a hE
          rw [hz184] at hq157; dsimp only at hq157
          replace hS := hS.down hle187
          subst hK180
          subst hK178
          subst hK135
          subst hK93
          rw [← Option.some.inj hq157] at hq113
          dsimp only at hq113
          rw [← Option.some.inj hq113] at hq64
          dsimp only at hq64
          rw [← Option.some.inj hq64] at hr
          dsimp only at hr
          refine ⟨hE.defers.trans rfl, ?_⟩
          obtain rfl := Option.some.inj hr
          replace hS := hS.tail
          replace hS := hS.tail
          replace hS := hS.tail
          replace hS := hS.tail
          replace hS := hS.tail
          exact .inl ⟨rfl, rfl, s73, hle74, hS⟩
         refine .inl ⟨_, rfl, ?_⟩; clear a; intro a hE
         rw [hz185] at hq157; dsimp only at hq157
         refine WL.nil ?_
         refine ⟨⟨fun h => absurd h (by decide), fun _ => ((hS.tail).dropAt 2)⟩, ?_⟩
         refine Rq.one (i := 5) false true rfl (by kernel_rfl) (by kernel_rfl) (by kernel_rfl) ?_
         obtain ⟨q188, hq189, hq157⟩ := bindS hq157
         have hc_ := FareReadernumber_v1_ok (y0 := (FareReader.mk q104 rr183.2)) hS (TabG.mono hle74 hTab) h110 rfl hq189
         refine WL.fnP hE (hc_) (runs_plain rfl) bd42 rfl rfl rfl ?_
         clear hE hS hc_; rintro e w (⟨hz191, rfl, t193, hle194, hS⟩ | ⟨rr190, hz192, rfl, hS⟩)
         ·refine .inr ⟨_, rfl, ?_⟩; clear a; intro a hE
          rw [hz191] at hq157; dsimp only at hq157
          replace hS := hS.down hle194
          subst hK180
          subst hK178
          subst hK135
          subst hK93
          rw [← Option.some.inj hq157] at hq113
          dsimp only at hq113
          rw [← Option.some.inj hq113] at hq64
          dsimp only at hq64
          rw [← Option.some.inj hq64] at hr
          dsimp only at hr
          refine ⟨hE.defers.trans rfl, ?_⟩
          obtain rfl := Option.some.inj hr
          replace hS := hS.tail
          replace hS := hS.tail
          replace hS := hS.tail
          replace hS := hS.tail
          replace hS := hS.tail
          exact .inl ⟨rfl, rfl, s73, hle74, hS⟩
         refine .inl ⟨_, rfl, ?_⟩; clear a; intro a hE
         rw [hz192] at hq157; dsimp only at hq157
         refine WL.nil ?_
         refine ⟨⟨fun h => absurd h (by decide), fun _ => ((hS.tail).dropAt 2)⟩, ?_⟩
         refine Rq.takeP hPF (i := 6) hE rfl (by kernel_rfl) (runs_plain rfl) (Gives.build hE (vs := [(0, .int .i64 rr183.1), (1, .int .i64 rr190.1)]) [.int .i64 rr183.1, .int .i64 rr190.1] rfl (by kernel_rfl)) rfl (tw_sel (fun h => absurd h (by decide)) (fun _ => ((hS.tail).dropAt 2))) ?_; clear hE a; intro a hE
         refine Rq.one (i := 7) false true rfl (by kernel_rfl) (by kernel_rfl) (by kernel_rfl) ?_
         refine WL.lit hE hS (e := 40) (es := 2) (vs := [(0, .agg (List.toArray [.int .i64 rr183.1, .int .i64 rr190.1]))]) (cs := [.int .i64 rr183.1, .int .i64 rr190.1]) (runs_plain rfl) rfl (by kernel_rfl) rfl ?_; clear hE hS a w; intro b195 a w hE hS
         refine WL.nil ?_
         refine ⟨⟨fun h => absurd h (by decide), fun _ => (((hS.tail).tail).dropAt 2)⟩, ?_⟩
         refine Rq.one (i := 8) false true rfl (by kernel_rfl) (by kernel_rfl) (by kernel_rfl) ?_
         obtain ⟨x196, hx197, hq157⟩ := bindS hq157
         refine WL.appD hE hS 3 (m := 1) (runs_plain rfl) rfl rfl rfl ap22 rfl h81 rfl (xs := [(FareBand.mk rr183.1 rr190.1)]) (Ev.cons (c1 := [.int .i64 rr183.1, .int .i64 rr190.1]) rfl rfl (Ev.nil)) rfl rfl hx197 rfl ?_; clear hE hS a w; intro a198 c199 cs200 a w h201 hE hS
         refine WL.nil ?_
         refine ⟨⟨fun h => absurd h (by decide), fun _ => ((hS.tail).dropAt 2)⟩, ?_⟩
         refine Rq.takeP hPF (i := 9) hE rfl (by kernel_rfl) (runs_plain rfl) (Gives.fld hE rfl fl25_1) rfl (tw_sel (fun h => absurd h (by decide)) (fun _ => ((hS.tail).dropAt 2))) ?_; clear hE a; intro a hE
         refine Rq.one (i := 10) false false rfl (by kernel_rfl) (by kernel_rfl) (by kernel_rfl) ?_
         refine WL.storeI hE hS 5 rfl [.bool q77, .slice a198 x196.length c199, .int .i64 q85, .slice a87 q86.length c88] (runs_plain rfl) rfl rfl rfl ty22 rfl rfl rfl rfl ?_; clear hE hS a w; intro a w hE hS
         refine WL.nil ?_
         refine ⟨⟨fun h => absurd h (by decide), fun h => absurd h (by decide)⟩, ?_⟩
         refine Rq.done (by kernel_rfl) ?_
         subst hK180
         subst hK178
         exact ⟨q76, rr190.2, x196, q85, q86, a198, c199, x196.length, cs200, a87, c88, q86.length, cs91, s73, (Sg.Le.refl _), Option.some.inj hq157, h201, (rfl), h89, rfl, hE.pick _ ⟨rfl, rfl, rfl, rfl, rfl, rfl, rfl, rfl, trivial⟩, hS⟩
        ·replace hq157 := iteF hc179 hq157
         refine W.seq (W.region ?_)
         refine vP hS hE (Gives.p hE rfl) rfl ?_; clear hE a; intro a hE
         refine vP hS hE (Gives.p hE rfl) rfl ?_; clear hE a; intro a hE
         refine vP hS hE (Gives.p hE rfl) rfl ?_; clear hE a; intro a hE
         refine WL.nil ?_
         obtain ⟨q203, hq202, hq157⟩ := bindS hq157
         refine W.cut (fun a w => ∃ (q206 : Int), ∃ (q207 : Int), ∃ (q208 : Int), ∃ (q209 : List FareRule), ∃ (a210 : Option Addr), ∃ (c211 : Nat), ∃ (n213 : Nat), ∃ (cs214 : List Value), ∃ (s204 : Sg), s73.Le s204 ∧ .next (q206, q207, q208, q209) = q203 ∧ Ev 7 RFareRule s204 cs214 q209 ∧ q209.length = n213 ∧ Rep a 97 [(0, .string x0), (2, .pointer (some ⟨b51, 0, none⟩)), (5, .pointer (some ⟨b55, 0, none⟩)), (6, .int .i64 q206), (9, .pointer (some ⟨b112, 0, none⟩)), (20, .slice (some ⟨b58, 0, none⟩) q56.length q56.length), (21, .int .i64 ((q56.length : Nat) : Int)), (22, .int .i64 ((k66 : Nat) : Int))] ∧ St w s204 (pt b112 (.cells #[.slice a106 q104.length c107, .int .i64 q207] 89 (0, 0)) :: vecC 9 1 a106 c107 q104.length cs109 :: vecC 45 7 a210 c211 n213 cs214 :: vecC 40 2 a79 c80 q78.length cs83 :: vecC 9 1 (some ⟨b58, 0, none⟩) q56.length q56.length cs59 :: pt b55 (.cells #[.bool q77, .slice a79 q78.length c80, .int .i64 q208, .slice a210 n213 c211] 25 (0, 0)) :: pt b51 (.cells #[.bool false, .slice none 0 0, .int .i64 0, .slice none 0 0] 25 (0, 0)) :: R)) ?_ ?_
         ·refine W.gen fun K216 hK216 => ?_
          refine W.cond hE rfl (fun hc217 => ?_) (fun hc217 => ?_)
          ·replace hq202 := iteT hc217 hq202
           refine W.seq (W.region ?_)
           refine vP hS hE (Gives.p hE rfl) rfl ?_; clear hE a; intro a hE
           obtain ⟨q218, hq219, hq202⟩ := bindS hq202
           have hc_ := FareReadermust_v1_ok (y0 := (FareReader.mk q104 q152)) hS h110 rfl hq219
           refine WL.fnP hE (hc_) (runs_plain rfl) bd41 rfl rfl rfl ?_
           clear hE hS hc_; rintro e w (⟨hz221, rfl, t223, hle224, hS⟩ | ⟨rr220, hz222, rfl, hS⟩)
           ·refine .inr ⟨_, rfl, ?_⟩; clear a; intro a hE
            rw [hz221] at hq202; dsimp only at hq202
            replace hS := hS.down hle224
            subst hK216
            subst hK178
            subst hK135
            subst hK93
            rw [← Option.some.inj hq202] at hq157
            dsimp only at hq157
            rw [← Option.some.inj hq157] at hq113
            dsimp only at hq113
            rw [← Option.some.inj hq113] at hq64
            dsimp only at hq64
            rw [← Option.some.inj hq64] at hr
            dsimp only at hr
            refine ⟨hE.defers.trans rfl, ?_⟩
            obtain rfl := Option.some.inj hr
            replace hS := hS.tail
            replace hS := hS.tail
            replace hS := hS.tail
            replace hS := hS.tail
            replace hS := hS.tail
            exact .inl ⟨rfl, rfl, s73, hle74, hS⟩
           refine .inl ⟨_, rfl, ?_⟩; clear a; intro a hE
           rw [hz222] at hq202; dsimp only at hq202
           refine WL.nil ?_
           refine W.seq (W.region ?_)
           refine vP hS hE (Gives.p hE rfl) rfl ?_; clear hE a; intro a hE
           obtain ⟨q225, hq226, hq202⟩ := bindS hq202
           have hc_ := FareReadernumber_v1_ok (y0 := (FareReader.mk q104 rr220)) hS (TabG.mono hle74 hTab) h110 rfl hq226
           refine WL.fnP hE (hc_) (runs_plain rfl) bd42 rfl rfl rfl ?_
           clear hE hS hc_; rintro e w (⟨hz228, rfl, t230, hle231, hS⟩ | ⟨rr227, hz229, rfl, hS⟩)
           ·refine .inr ⟨_, rfl, ?_⟩; clear a; intro a hE
            rw [hz228] at hq202; dsimp only at hq202
            replace hS := hS.down hle231
            subst hK216
            subst hK178
            subst hK135
            subst hK93
            rw [← Option.some.inj hq202] at hq157
            dsimp only at hq157
            rw [← Option.some.inj hq157] at hq113
            dsimp only at hq113
            rw [← Option.some.inj hq113] at hq64
            dsimp only at hq64
            rw [← Option.some.inj hq64] at hr
            dsimp only at hr
            refine ⟨hE.defers.trans rfl, ?_⟩
            obtain rfl := Option.some.inj hr
            replace hS := hS.tail
            replace hS := hS.tail
            replace hS := hS.tail
            replace hS := hS.tail
            replace hS := hS.tail
            exact .inl ⟨rfl, rfl, s73, hle74, hS⟩
           refine .inl ⟨_, rfl, ?_⟩; clear a; intro a hE
           rw [hz229] at hq202; dsimp only at hq202
           refine vP hS hE (Gives.fld hE rfl fl25_2) rfl ?_; clear hE a; intro a hE
           refine WL.storeI hE hS 5 rfl [.bool q77, .slice a79 q78.length c80, .int .i64 rr227.1, .slice a87 q86.length c88] (runs_plain rfl) rfl rfl rfl ty3 rfl rfl rfl rfl ?_; clear hE hS a w; intro a w hE hS
           refine WL.nil ?_
           refine W.region ?_
           refine vP hS hE (Gives.p hE rfl) rfl ?_; clear hE a; intro a hE
           refine WL.nil ?_
           subst hK216
           exact ⟨2, rr227.2, rr227.1, q86, a87, c88, q86.length, cs91, s73, (Sg.Le.refl _), Option.some.inj hq202, h89, rfl, hE.pick _ ⟨rfl, rfl, rfl, rfl, rfl, rfl, rfl, rfl, trivial⟩, hS⟩
          ·replace hq202 := iteF hc217 hq202
           refine W.gen fun K232 hK232 => ?_
           have hPF : PanF K232.pan := by subst hK232; subst hK216; subst hK178; subst hK135; subst hK93; rintro c (_ | d) v a w h <;> exact h
           refine rQ hS [] [0, 1] [0, 1, 2, 4, 6] [0, 1, 2, 3, 4, 5, 6] mixed ?_
           replace hS := hS.drew
           refine Rq.takeP hPF (i := 0) hE rfl (by kernel_rfl) (runs_plain rfl) (Gives.fld hE rfl fl25_3) rfl (tw_sel (fun _ => hS) (fun _ => ((hS.tail).dropAt 1))) ?_; clear hE a; intro a hE
           refine Rq.take hPF (i := 1) false rfl hE rfl (by kernel_rfl) (runs_plain rfl) (Gives.loadB hE 3 rfl rfl rfl ty23) rfl (tw_sel (fun _ => hS) (fun _ => ((hS.tail).dropAt 1))) ?_; clear hE a; intro a hE
           refine Rq.takeP hPF (i := 2) hE rfl (by kernel_rfl) (runs_plain rfl) (Gives.p hE rfl) rfl (tw_sel (fun _ => hS) (fun _ => ((hS.tail).dropAt 1))) ?_; clear hE a; intro a hE
           refine Rq.one (i := 3) false true rfl (by kernel_rfl) (by kernel_rfl) (by kernel_rfl) ?_
           obtain ⟨q233, hq234, hq202⟩ := bindS hq202
           have hc_ := FareReaderrule_v1_ok (y0 := (FareReader.mk q104 q152)) hS (TabG.mono hle74 hTab) h110 rfl hq234
           refine WL.fnP hE (hc_) (runs_plain rfl) bd43 rfl rfl rfl ?_
           clear hE hS hc_; rintro e w (⟨hz236, rfl, t238, hle239, hS⟩ | ⟨rr235, hz237, cs240, s242, rfl, hle243, h241, hS⟩)
           ·refine .inr ⟨_, rfl, ?_⟩; clear a; intro a hE
            rw [hz236] at hq202; dsimp only at hq202
            replace hS := hS.down hle239
            subst hK232
            subst hK216
            subst hK178
            subst hK135
            subst hK93
            rw [← Option.some.inj hq202] at hq157
            dsimp only at hq157
            rw [← Option.some.inj hq157] at hq113
            dsimp only at hq113
            rw [← Option.some.inj hq113] at hq64
            dsimp only at hq64
            rw [← Option.some.inj hq64] at hr
            dsimp only at hr
            refine ⟨hE.defers.trans rfl, ?_⟩
            obtain rfl := Option.some.inj hr
            replace hS := hS.tail
            replace hS := hS.tail
            replace hS := hS.tail
            replace hS := hS.tail
            replace hS := hS.tail
            exact .inl ⟨rfl, rfl, s73, hle74, hS⟩
           refine .inl ⟨_, rfl, ?_⟩; clear a; intro a hE
           rw [hz237] at hq202; dsimp only at hq202
           replace h110 := Ev.mono RS.mono hle243 h110
           replace h89 := Ev.mono RFareRule.mono hle243 h89
           replace h81 := Ev.mono RFareBand.mono hle243 h81
           replace h60 := Ev.mono RS.mono hle243 h60
           obtain ⟨a244, c245, rfl, h246⟩ := h241
           refine WL.nil ?_
           refine ⟨⟨fun h => absurd h (by decide), fun _ => (St.down hle243 ((hS.tail).dropAt 1))⟩, ?_⟩
           refine Rq.one (i := 4) false true rfl (by kernel_rfl) (by kernel_rfl) (by kernel_rfl) ?_
           refine WL.lit hE hS (e := 45) (es := 7) (vs := [(0, .agg (List.toArray [.int .i64 rr235.1.If.Kind, .int .i64 rr235.1.If.A, .int .i64 rr235.1.If.B, .slice a244 rr235.1.If.Kids.length c245, .int .i64 rr235.1.Do, .int .i64 rr235.1.N, .bool rr235.1.Stop]))]) (cs := [.int .i64 rr235.1.If.Kind, .int .i64 rr235.1.If.A, .int .i64 rr235.1.If.B, .slice a244 rr235.1.If.Kids.length c245, .int .i64 rr235.1.Do, .int .i64 rr235.1.N, .bool rr235.1.Stop]) (runs_plain rfl) rfl (by kernel_rfl) rfl ?_; clear hE hS a w; intro b247 a w hE hS
           refine WL.nil ?_
           refine ⟨⟨fun h => absurd h (by decide), fun _ => (St.down hle243 (((hS.tail).tail).dropAt 1))⟩, ?_⟩
           refine Rq.one (i := 5) false true rfl (by kernel_rfl) (by kernel_rfl) (by kernel_rfl) ?_
           obtain ⟨x248, hx249, hq202⟩ := bindS hq202
           refine WL.appD hE hS 2 (m := 1) (runs_plain rfl) rfl rfl rfl ap23 rfl h89 rfl (xs := [rr235.1]) (Ev.cons (c1 := [.int .i64 rr235.1.If.Kind, .int .i64 rr235.1.If.A, .int .i64 rr235.1.If.B, .slice a244 rr235.1.If.Kids.length c245, .int .i64 rr235.1.Do, .int .i64 rr235.1.N, .bool rr235.1.Stop]) ⟨_, _, rfl, h246⟩ rfl (Ev.nil)) rfl rfl hx249 rfl ?_; clear hE hS a w; intro a250 c251 cs252 a w h253 hE hS
           refine WL.nil ?_
           refine ⟨⟨fun h => absurd h (by decide), fun _ => (St.down hle243 ((hS.tail).dropAt 1))⟩, ?_⟩
           refine Rq.takeP hPF (i := 6) hE rfl (by kernel_rfl) (runs_plain rfl) (Gives.fld hE rfl fl25_3) rfl (tw_sel (fun h => absurd h (by decide)) (fun _ => (St.down hle243 ((hS.tail).dropAt 1)))) ?_; clear hE a; intro a hE
           refine Rq.one (i := 7) false false rfl (by kernel_rfl) (by kernel_rfl) (by kernel_rfl) ?_
           refine WL.storeI hE hS 5 rfl [.bool q77, .slice a79 q78.length c80, .int .i64 q85, .slice a250 x248.length c251] (runs_plain rfl) rfl rfl rfl ty23 rfl rfl rfl rfl ?_; clear hE hS a w; intro a w hE hS
           refine WL.nil ?_
           refine ⟨⟨fun h => absurd h (by decide), fun h => absurd h (by decide)⟩, ?_⟩
           refine Rq.done (by kernel_rfl) ?_
           subst hK232
           subst hK216
           exact ⟨q76, rr235.2, q85, x248, a250, c251, x248.length, cs252, s242, hle243, Option.some.inj hq202, h253, (rfl), hE.pick _ ⟨rfl, rfl, rfl, rfl, rfl, rfl, rfl, rfl, trivial⟩, hS⟩
         ·clear hE hS a w; rintro a w ⟨q206, q207, q208, q209, a210, c211, n213, cs214, s204, hle205, rfl, h212, rfl, hE, hS⟩
          dsimp only at hq157
          replace h110 := Ev.mono RS.mono hle205 h110
          replace h89 := Ev.mono RFareRule.mono hle205 h89
          replace h81 := Ev.mono RFareBand.mono hle205 h81
          replace h60 := Ev.mono RS.mono hle205 h60
          subst hK178
          exact ⟨q206, q207, q78, q208, q209, a79, c80, q78.length, cs83, a210, c211, q209.length, cs214, s204, hle205, Option.some.inj hq157, h81, rfl, h212, rfl, hE.pick _ ⟨rfl, rfl, rfl, rfl, rfl, rfl, rfl, rfl, trivial⟩, hS⟩
       ·clear hE hS a w; rintro a w ⟨q161, q162, q163, q170, q171, a164, c165, n167, cs168, a172, c173, n175, cs176, s159, hle160, rfl, h166, rfl, h174, rfl, hE, hS⟩
        dsimp only at hq113
        replace h110 := Ev.mono RS.mono hle160 h110
        replace h89 := Ev.mono RFareRule.mono hle160 h89
        replace h81 := Ev.mono RFareBand.mono hle160 h81
        replace h60 := Ev.mono RS.mono hle160 h60
        subst hK135
        exact ⟨q161, q162, q77, q163, q170, q171, a164, c165, q163.length, cs168, a172, c173, q171.length, cs176, s159, hle160, Option.some.inj hq113, h166, rfl, h174, rfl, hE.pick _ ⟨rfl, rfl, rfl, rfl, rfl, rfl, rfl, rfl, trivial⟩, hS⟩
    ·clear hE hS a w; rintro a w ⟨q117, q118, q119, q120, q127, q128, a121, c122, n124, cs125, a129, c130, n132, cs133, s115, hle116, rfl, h123, rfl, h131, rfl, hE, hS⟩
     dsimp only at hq64
     replace h110 := Ev.mono RS.mono hle116 h110
     replace h89 := Ev.mono RFareRule.mono hle116 h89
     replace h81 := Ev.mono RFareBand.mono hle116 h81
     replace h60 := Ev.mono RS.mono hle116 h60
     refine W.seq ?_
     refine W.regionQ (C := fun w => St w s115 (pt b112 (.cells #[.slice a106 q104.length c107, .int .i64 q118] 89 (0, 0)) :: vecC 9 1 a106 c107 q104.length cs109 :: vecC 45 7 a129 c130 q128.length cs133 :: vecC 40 2 a121 c122 q120.length cs125 :: vecC 9 1 (some ⟨b58, 0, none⟩) q56.length q56.length cs59 :: pt b55 (.cells #[.bool q119, .slice a121 q120.length c122, .int .i64 q127, .slice a129 q128.length c130] 25 (0, 0)) :: pt b51 (.cells #[.bool false, .slice none 0 0, .int .i64 0, .slice none 0 0] 25 (0, 0)) :: R)) mixed (by kernel_rfl) hS.drew ?_
     refine qP hE (Gives.p hE rfl) rfl ?_; clear hE a; intro a hE
     refine qP hE (Gives.nilOk hE rfl) rfl ?_; clear hE a; intro a hE
     refine qP hE (Gives.fld hE rfl fl89_1) rfl ?_; clear hE a; intro a hE
     refine qP hE (Gives.loadB hE 0 rfl rfl rfl ty3) rfl ?_; clear hE a; intro a hE
     refine qP hE (Gives.p hE rfl) rfl ?_; clear hE a; intro a hE
     refine qP hE (Gives.nilOk hE rfl) rfl ?_; clear hE a; intro a hE
     refine qP hE (Gives.fld hE rfl fl89_0) rfl ?_; clear hE a; intro a hE
     refine qP hE (Gives.loadB hE 0 rfl rfl rfl ty59) rfl ?_; clear hE a; intro a hE
     refine qP hE (Gives.len hE rfl sl59) rfl ?_; clear hE a; intro a hE
     refine qP hE (Gives.p hE rfl) rfl ?_; clear hE a; intro a hE
     refine QL.nil ?_; clear hS w; intro w hS
     refine W.cond hE rfl (fun hc254 => ?_) (fun hc254 => ?_)
     ·replace hq64 := iteT hc254 hq64
      refine W.region ?_
      refine vP hS hE (Gives.build hE (vs := []) [] rfl (by kernel_rfl)) rfl ?_; clear hE a; intro a hE
      refine vP hS hE (Gives.iface hE rfl ifc54) rfl ?_; clear hE a; intro a hE
      refine WL.panic hE rfl (runs_plain rfl) ?_; clear hE a; intro a hE
      subst hK93
      rw [← Option.some.inj hq64] at hr
      dsimp only at hr
      refine ⟨hE.defers.trans rfl, ?_⟩
      obtain rfl := Option.some.inj hr
      replace hS := hS.tail
      replace hS := hS.tail
      replace hS := hS.tail
      replace hS := hS.tail
      replace hS := hS.tail
      replace hS := hS.tail
      replace hS := hS.tail
      exact .inl ⟨rfl, rfl, s115, (Sg.Le.trans hle74 hle116), hS⟩
     ·replace hq64 := iteF hc254 hq64
      refine W.skip ?_
      refine W.region ?_
      refine vP hS hE (Gives.inc hE rfl (by omega)) rfl ?_; clear hE a; intro a hE
      refine vP hS hE (Gives.p hE rfl) rfl ?_; clear hE a; intro a hE
      refine WL.nil ?_
      replace hS := hS.tail
      replace hS := hS.tail
      subst hK93
      exact ⟨rest68, Nat.lt_succ_self _, rest68, k66 + 1, q117, q119, q120, q127, q128, a121, c122, q120.length, cs125, a129, c130, q128.length, cs133, s115, rfl, (by omega), (Sg.Le.trans hle74 hle116), hq64, h123, rfl, h131, rfl, hE.pick _ ⟨rfl, rfl, rfl, rfl, rfl, rfl, rfl, trivial⟩, hS⟩
  ·clear hE hS a w; rintro a w ⟨q76, q77, q78, q85, q86, a79, c80, n82, cs83, a87, c88, n90, cs91, s73, hle74, rfl, h81, rfl, h89, rfl, hE, hS⟩
   dsimp only at hr
   replace h60 := Ev.mono RS.mono hle74 h60
   refine W.seq ?_
   refine W.seq ?_
   obtain ⟨q256, hq255, hr⟩ := bindS hr
   refine W.cut (fun a w => ∃ (q259 : Bool), q259 = q256 ∧ Rep a 97 [(2, .pointer (some ⟨b51, 0, none⟩)), (5, .pointer (some ⟨b55, 0, none⟩)), (93, .bool q259)] ∧ St w s73 (vecC 45 7 a87 c88 q86.length cs91 :: vecC 40 2 a79 c80 q78.length cs83 :: pt b55 (.cells #[.bool q77, .slice a79 q78.length c80, .int .i64 q85, .slice a87 q86.length c88] 25 (0, 0)) :: pt b51 (.cells #[.bool false, .slice none 0 0, .int .i64 0, .slice none 0 0] 25 (0, 0)) :: R)) ?_ ?_
   ·refine W.gen fun K260 hK260 => ?_
    refine W.region ?_
    refine vP hS hE (Gives.p hE rfl) rfl ?_; clear hE a; intro a hE
    refine vP hS hE (Gives.p hE rfl) rfl ?_; clear hE a; intro a hE
    refine vP hS hE (Gives.p hE rfl) rfl ?_; clear hE a; intro a hE
    rcases Bool.eq_false_or_eq_true (decide (q76 < 2)) with hg261 | hg261
    ·replace hq255 := iteT hg261 hq255
     refine WL.no hE (runs_not hE rfl rfl rfl (by rw [hg261]; decide)) rfl ?_; clear hE a; intro a hE
     refine WL.no hE (runs_not hE rfl rfl rfl (by rw [hg261]; decide)) rfl ?_; clear hE a; intro a hE
     refine WL.no hE (runs_not hE rfl rfl rfl (by rw [hg261]; decide)) rfl ?_; clear hE a; intro a hE
     refine WL.no hE (runs_not hE rfl rfl rfl (by rw [hg261]; decide)) rfl ?_; clear hE a; intro a hE
     refine vP hS hE (Gives.pickT hE rfl hg261 rfl) rfl ?_; clear hE a; intro a hE
     refine WL.nil ?_
     replace hS := hS.dropAt 2
     subst hK260
     exact ⟨true, Option.some.inj hq255, hE.pick _ ⟨rfl, rfl, rfl, trivial⟩, hS⟩
    ·replace hq255 := iteF hg261 hq255
     refine WL.vS hS hE (runs_if hE rfl rfl rfl hg261) (Gives.loadBA hE 3 rfl rfl ty25) rfl ?_; clear hE a; intro a hE
     obtain ⟨q262, hq263, hq255⟩ := bindS hq255
     have hF := hS.lendV RFareBand.mono 1 rfl h81 rfl; clear hS; obtain ⟨t264, hle265, hS, hs266, bk267⟩ := hF
     have hF := hS.lendV RFareRule.mono 0 rfl (Ev.mono RFareRule.mono hle265 h89) rfl; clear hS; obtain ⟨t268, hle269, hS, hs270, bk271⟩ := hF
     have hc_ := FareTarifftext_ok (x0 := (FareTariff.mk q77 q78 q85 q86)) hS (TabG.mono hle269 (TabG.mono hle265 (TabG.mono hle74 hTab))) (Sl.mono RFareBand.mono hle269 hs266) hs270 hq263
     refine WL.fnq hE (hc_) (runs_if hE rfl rfl rfl hg261) bd13 rfl rfl rfl ?_
     clear hE hS hc_; rintro e w ⟨rfl, hS⟩; refine ⟨_, rfl, ?_⟩; clear a; intro a hE
     replace hS := bk271 _ _ hS
     replace hS := bk267 _ _ hS
     refine WL.vS hS hE (runs_if hE rfl rfl rfl hg261) (Gives.p hE rfl) rfl ?_; clear hE a; intro a hE
     refine WL.vS hS hE (runs_if hE rfl rfl rfl hg261) (Gives.neSt hE rfl rfl) rfl ?_; clear hE a; intro a hE
     refine vP hS hE (Gives.pickF hE rfl hg261 rfl) rfl ?_; clear hE a; intro a hE
     refine WL.nil ?_
     replace hS := hS.dropAt 2
     replace hS := hS.front 3 rfl
     replace hS := hS.front 3 rfl
     replace hS := hS.front 2 rfl
     replace hS := hS.front 3 rfl
     subst hK260
     exact ⟨!(seq q262 x0), Option.some.inj hq255, hE.pick _ ⟨rfl, rfl, rfl, trivial⟩, hS⟩
   ·clear hE hS a w; rintro a w ⟨q259, rfl, hE, hS⟩
    refine W.cond hE rfl (fun hc272 => ?_) (fun hc272 => ?_)
    ·replace hr := iteT hc272 hr
     refine W.region ?_
     refine vP hS hE (Gives.build hE (vs := []) [] rfl (by kernel_rfl)) rfl ?_; clear hE a; intro a hE
     refine vP hS hE (Gives.iface hE rfl ifc54) rfl ?_; clear hE a; intro a hE
     refine WL.panic hE rfl (runs_plain rfl) ?_; clear hE a; intro a hE
     refine ⟨hE.defers.trans rfl, ?_⟩
     obtain rfl := Option.some.inj hr
     replace hS := hS.tail
     replace hS := hS.tail
     replace hS := hS.tail
     replace hS := hS.tail
     exact .inl ⟨rfl, rfl, s73, hle74, hS⟩
    ·replace hr := iteF hc272 hr
     refine W.skip ?_
     refine W.seq (W.region ?_)
     refine vP hS hE (Gives.loadBA hE 2 rfl rfl ty25) rfl ?_; clear hE a; intro a hE
     refine WL.storeI hE hS 3 rfl [.bool q77, .slice a79 q78.length c80, .int .i64 q85, .slice a87 q86.length c88] (runs_plain rfl) rfl rfl rfl ty25 rfl rfl rfl rfl ?_; clear hE hS a w; intro a w hE hS
     refine WL.nil ?_
     refine W.ret ?_
     have hF := hS.fixD RFareBand.mono 1 rfl h81 rfl; clear hS; obtain ⟨s273, hle274, hS, h275⟩ := hF
     replace h89 := Ev.mono RFareRule.mono hle274 h89
     have hF := hS.fixD RFareRule.mono 0 rfl h89 rfl; clear hS; obtain ⟨s276, hle277, hS, h278⟩ := hF
     replace h275 := Sl.mono RFareBand.mono hle277 h275
     refine finG (fn := Tryz.f19) (rs := [.cell 2 25]) (vs := [_]) hE rfl ⟨⟨_, rfl, .inl ⟨_, rfl, hS.seesAt 1 rfl, ty25⟩⟩, trivial⟩ ?_
     obtain rfl := Option.some.inj hr
     replace hS := hS.tail
     replace hS := hS.tail
     exact .inr ⟨_, rfl, ⟨_, s276, rfl, (Sg.Le.trans (Sg.Le.trans hle74 hle274) hle277), ⟨_, _, _, _, rfl, h275, h278⟩, hS⟩⟩
set_option maxHeartbeats 8000000 in
theorem FareRead_ok {fu : Nat}  {w : World} {s : Sg} {R : List HP} {x0 : ByteArray} (hS : St w s (R)) (hTab : TabX s) {r : FareTariff × Int} (hr : FareRead fu x0 = some r) :
  Calls Tryz.prog 8 [.string x0].toArray w (fun e w => ∃ (cs0 : List Value) (t : Sg), e = .returned (.tuple #[.agg cs0.toArray, .int .i64 r.2]) ∧ s.Le t ∧ RFareTariff t cs0 r.1 ∧ St w t (R)) := by
 refine enterD Tryz.func8 rfl rfl rfl fun a hE => ?_
 rw [FareRead] at hr
 refine W.seq (W.region ?_)
 refine WL.alloc hE hS (runs_plain rfl) zr25 rfl ?_; clear hE hS a w; intro b51 a w hE hS
 refine WL.alloc hE hS (runs_plain rfl) zr26 rfl ?_; clear hE hS a w; intro b52 a w hE hS
 refine WL.nil ?_
 refine W.seq ?_
 refine W.seq (W.region ?_)
 refine vP hS hE (Gives.p hE rfl) rfl ?_; clear hE a; intro a hE
 refine vP hS hE (Gives.lenS hE rfl st9) rfl ?_; clear hE a; intro a hE
 refine vP hS hE (Gives.p hE rfl) rfl ?_; clear hE a; intro a hE
 refine WL.nil ?_
 refine W.cond hE rfl (fun hc53 => ?_) (fun hc53 => ?_)
 ·replace hr := iteT hc53 hr
  refine W.seq (W.region ?_)
  refine vP hS hE (Gives.build hE (vs := []) [.bool false, .slice none 0 0, .int .i64 0, .slice none 0 0] rfl (by kernel_rfl)) rfl ?_; clear hE a; intro a hE
  refine WL.storeI hE hS 1 rfl [.bool false, .slice none 0 0, .int .i64 0, .slice none 0 0] (runs_plain rfl) rfl rfl rfl ty25 rfl rfl rfl rfl ?_; clear hE hS a w; intro a w hE hS
  refine WL.storeI hE hS 0 rfl [.int .i64 4] (runs_plain rfl) rfl rfl rfl ty26 rfl rfl rfl rfl ?_; clear hE hS a w; intro a w hE hS
  refine WL.nil ?_
  refine W.ret ?_
  refine finGD (fn := Tryz.f8) (rs := [.cell 2 25, .cell 3 26]) (vs := [_, _]) hE rfl ⟨⟨_, rfl, .inl ⟨_, rfl, hS.seesAt 1 rfl, ty25⟩⟩, ⟨_, rfl, .inr ⟨hS.seesAt 0 rfl, ty26⟩⟩, trivial⟩ ?_
  obtain rfl := Option.some.inj hr
  replace hS := hS.tail
  replace hS := hS.tail
  exact ⟨_, s, rfl, (Sg.Le.refl _), ⟨_, _, _, _, rfl, Sl.nil, Sl.nil⟩, hS⟩
 ·replace hr := iteF hc53 hr
  refine W.skip ?_
  refine W.seq ?_
  refine W.regionD rfl ?_
  refine vP hS hE (Gives.mkfn hE (vs := [.pointer (some ⟨b51, 0, none⟩), .pointer (some ⟨b52, 0, none⟩)]) rfl) rfl ?_; clear hE a; intro a hE
  refine WL.defer hE rfl (runs_plain rfl) rfl ?_; clear hE a; intro a hE
  refine WL.nil ?_
  refine W.seq (W.region ?_)
  refine vP hS hE (Gives.p hE rfl) rfl ?_; clear hE a; intro a hE
  obtain ⟨q54, hq55, hr⟩ := bindS hr
  have hc_ := Faretariff_ok hS (TabG.mono (Sg.Le.refl _) hTab) hq55
  refine WL.fnP hE (hc_) (runs_plain rfl) bd19 rfl rfl rfl ?_
  clear hE hS hc_; rintro e w (⟨hz57, rfl, t59, hle60, hS⟩ | ⟨rr56, hz58, cs61, s63, rfl, hle64, h62, hS⟩)
  ·refine .inr ⟨_, rfl, ?_⟩; clear a; intro a hE
   rw [hz57] at hr; dsimp only at hr
   replace hS := hS.down hle60
   replace hS := hS.front 1 rfl
   refine leavesG (fn := Tryz.f8) (rs := [.cell 2 25, .cell 3 26]) (vs := [.agg #[.bool false, .slice none 0 0, .int .i64 0, .slice none 0 0], .int .i64 10]) hE rfl (by simp) bd18 rfl (callsD_mono (oc2_pan_18 hS) ?_)
   rintro e u w2 ⟨rfl, rfl, hS⟩
   refine ⟨rfl, rfl, ⟨⟨_, rfl, .inl ⟨_, rfl, hS.seesAt 0 rfl, ty25⟩⟩, ⟨_, rfl, .inr ⟨hS.seesAt 1 rfl, ty26⟩⟩, trivial⟩, ?_⟩
   obtain rfl := Option.some.inj hr
   replace hS := hS.tail
   replace hS := hS.tail
   exact ⟨_, s, rfl, (Sg.Le.refl _), ⟨_, _, _, _, rfl, Sl.nil, Sl.nil⟩, hS⟩
  refine .inl ⟨_, rfl, ?_⟩; clear a; intro a hE
  rw [hz58] at hr; dsimp only at hr
  obtain ⟨a65, c66, a68, c69, rfl, h67, h70⟩ := h62
  refine WL.storeI hE hS 1 rfl [.bool rr56.ByKm, .slice a65 rr56.Bands.length c66, .int .i64 rr56.Round, .slice a68 rr56.Rules.length c69] (runs_plain rfl) rfl rfl rfl ty25 rfl rfl rfl rfl ?_; clear hE hS a w; intro a w hE hS
  refine WL.nil ?_
  refine W.seq ?_
  refine W.seq (W.region ?_)
  refine vP hS hE (Gives.loadBA hE 1 rfl rfl ty25) rfl ?_; clear hE a; intro a hE
  obtain ⟨q71, hq72, hr⟩ := bindS hr
  have hc_ := FareCheckTariff_ok hS h67 h70 hq72
  refine WL.fnq hE (hc_) (runs_plain rfl) bd12 rfl rfl rfl ?_
  clear hE hS hc_; rintro e w ⟨rfl, hS⟩; refine ⟨_, rfl, ?_⟩; clear a; intro a hE
  refine vP hS hE (Gives.p hE rfl) rfl ?_; clear hE a; intro a hE
  refine WL.nil ?_
  refine W.seq (W.region ?_)
  refine vP hS hE (Gives.p hE rfl) rfl ?_; clear hE a; intro a hE
  refine vP hS hE (Gives.p hE rfl) rfl ?_; clear hE a; intro a hE
  refine WL.nil ?_
  refine W.cond hE rfl (fun hc73 => ?_) (fun hc73 => ?_)
  ·replace hr := iteT hc73 hr
   refine W.seq (W.region ?_)
   refine vP hS hE (Gives.build hE (vs := []) [.bool false, .slice none 0 0, .int .i64 0, .slice none 0 0] rfl (by kernel_rfl)) rfl ?_; clear hE a; intro a hE
   refine vP hS hE (Gives.p hE rfl) rfl ?_; clear hE a; intro a hE
   refine WL.storeI hE hS 1 rfl [.bool false, .slice none 0 0, .int .i64 0, .slice none 0 0] (runs_plain rfl) rfl rfl rfl ty25 rfl rfl rfl rfl ?_; clear hE hS a w; intro a w hE hS
   refine WL.storeI hE hS 0 rfl [.int .i64 q71] (runs_plain rfl) rfl rfl rfl ty26 rfl rfl rfl rfl ?_; clear hE hS a w; intro a w hE hS
   refine WL.nil ?_
   refine W.ret ?_
   refine leavesG (fn := Tryz.f8) (rs := [.cell 2 25, .cell 3 26]) (vs := [.agg #[.bool false, .slice none 0 0, .int .i64 0, .slice none 0 0], .int .i64 q71]) hE rfl (by simp) bd18 rfl (callsD_mono (oc2_ret_18 _ _ _) ?_)
   rintro e u w2 ⟨rfl, rfl, rfl⟩
   refine ⟨rfl, rfl, ⟨⟨_, rfl, .inl ⟨_, rfl, hS.seesAt 1 rfl, ty25⟩⟩, ⟨_, rfl, .inr ⟨hS.seesAt 0 rfl, ty26⟩⟩, trivial⟩, ?_⟩
   obtain rfl := Option.some.inj hr
   replace hS := hS.tail
   replace hS := hS.tail
   exact ⟨_, s63, rfl, hle64, ⟨_, _, _, _, rfl, Sl.nil, Sl.nil⟩, hS⟩
  ·replace hr := iteF hc73 hr
   refine W.skip ?_
   refine W.seq (W.region ?_)
   refine vP hS hE (Gives.loadBA hE 1 rfl rfl ty25) rfl ?_; clear hE a; intro a hE
   refine WL.storeI hE hS 1 rfl [.bool rr56.ByKm, .slice a65 rr56.Bands.length c66, .int .i64 rr56.Round, .slice a68 rr56.Rules.length c69] (runs_plain rfl) rfl rfl rfl ty25 rfl rfl rfl rfl ?_; clear hE hS a w; intro a w hE hS
   refine WL.storeI hE hS 0 rfl [.int .i64 0] (runs_plain rfl) rfl rfl rfl ty26 rfl rfl rfl rfl ?_; clear hE hS a w; intro a w hE hS
   refine WL.nil ?_
   refine W.ret ?_
   refine leavesG (fn := Tryz.f8) (rs := [.cell 2 25, .cell 3 26]) (vs := [.agg #[.bool rr56.ByKm, .slice a65 rr56.Bands.length c66, .int .i64 rr56.Round, .slice a68 rr56.Rules.length c69], .int .i64 0]) hE rfl (by simp) bd18 rfl (callsD_mono (oc2_ret_18 _ _ _) ?_)
   rintro e u w2 ⟨rfl, rfl, rfl⟩
   refine ⟨rfl, rfl, ⟨⟨_, rfl, .inl ⟨_, rfl, hS.seesAt 1 rfl, ty25⟩⟩, ⟨_, rfl, .inr ⟨hS.seesAt 0 rfl, ty26⟩⟩, trivial⟩, ?_⟩
   obtain rfl := Option.some.inj hr
   replace hS := hS.tail
   replace hS := hS.tail
   exact ⟨_, s63, rfl, hle64, ⟨_, _, _, _, rfl, h67, h70⟩, hS⟩
set_option maxHeartbeats 8000000 in
theorem Fishref2kidText_ok  {self_Fishref2CondText : FareCond → Option ByteArray} (ih_Fishref2CondText : ∀ {w : World} {s : Sg} {R : List HP} {x0 : FareCond} {a0_0 : Option Addr} {c0_0 : Nat} (_hS : St w s (R)) (_hTab : TabX s) (_h0_0 : Sl 4 RFareCond s a0_0 c0_0 x0.Kids) {r : ByteArray} (_hr : self_Fishref2CondText x0 = some r), Calls Tryz.prog 21 [.agg (List.toArray [.int .i64 x0.Kind, .int .i64 x0.A, .int .i64 x0.B, .slice a0_0 x0.Kids.length c0_0])].toArray w (fun e w => e = .returned (.string r) ∧ St w s (R))) {w : World} {s : Sg} {R : List HP} {x0 : FareCond} {a0_0 : Option Addr} {c0_0 : Nat} {x1 : FareCond} {a1_0 : Option Addr} {c1_0 : Nat} (hS : St w s (R)) (hTab : TabX s) (_h0_0 : Sl 4 RFareCond s a0_0 c0_0 x0.Kids) (h1_0 : Sl 4 RFareCond s a1_0 c1_0 x1.Kids) {r : ByteArray} (hr : Fishref2kidText self_Fishref2CondText x0 x1 = some r) :
  Calls Tryz.prog 45 [.agg (List.toArray [.int .i64 x0.Kind, .int .i64 x0.A, .int .i64 x0.B, .slice a0_0 x0.Kids.length c0_0]), .agg (List.toArray [.int .i64 x1.Kind, .int .i64 x1.A, .int .i64 x1.B, .slice a1_0 x1.Kids.length c1_0])].toArray w (fun e w => e = .returned (.string r) ∧ St w s (R)) := by
 refine enter Tryz.func45 rfl rfl rfl fun a hE => ?_
 rw [Fishref2kidText] at hr
 refine W.seq (W.region ?_)
 refine WL.box hE hS (runs_plain rfl) rfl rfl rfl ?_; clear hE hS a w; intro b51 a w hE hS
 refine WL.box hE hS (runs_plain rfl) rfl rfl rfl ?_; clear hE hS a w; intro b52 a w hE hS
 refine vP hS hE (Gives.p hE rfl) rfl ?_; clear hE a; intro a hE
 refine WL.nil ?_
 refine W.seq (W.region ?_)
 refine vP hS hE (Gives.loadBA hE 0 rfl rfl ty43) rfl ?_; clear hE a; intro a hE
 obtain ⟨q53, hq54, hr⟩ := bindS hr
 have hc_ := ih_Fishref2CondText hS (TabG.mono (Sg.Le.refl _) hTab) h1_0 hq54
 refine WL.fnq hE (hc_) (runs_plain rfl) bd21 rfl rfl rfl ?_
 clear hE hS hc_; rintro e w ⟨rfl, hS⟩; refine ⟨_, rfl, ?_⟩; clear a; intro a hE
 refine vP hS hE (Gives.p hE rfl) rfl ?_; clear hE a; intro a hE
 refine WL.nil ?_
 refine W.seq ?_
 refine W.seq ?_
 obtain ⟨q56, hq55, hr⟩ := bndS hr
 refine W.cut (fun a w => ∃ (q59 : Bool), q59 = q56 ∧ Rep a 25 [(5, .string q53), (20, .bool q59)] ∧ St w s (pt b52 (.cells #[.int .i64 x1.Kind, .int .i64 x1.A, .int .i64 x1.B, .slice a1_0 x1.Kids.length c1_0] 43 (0, 0)) :: pt b51 (.cells #[.int .i64 x0.Kind, .int .i64 x0.A, .int .i64 x0.B, .slice a0_0 x0.Kids.length c0_0] 43 (0, 0)) :: R)) ?_ ?_
 ·refine W.gen fun K60 hK60 => ?_
  refine W.region ?_
  refine vP hS hE (Gives.fld hE rfl fl43_0) rfl ?_; clear hE a; intro a hE
  refine vP hS hE (Gives.loadB hE 0 rfl rfl rfl ty3) rfl ?_; clear hE a; intro a hE
  refine vP hS hE (Gives.p hE rfl) rfl ?_; clear hE a; intro a hE
  refine vP hS hE (Gives.p hE rfl) rfl ?_; clear hE a; intro a hE
  rcases Bool.eq_false_or_eq_true (x1.Kind == 11) with hg61 | hg61
  ·replace hq55 := iteT hg61 hq55
   refine WL.no hE (runs_not hE rfl rfl rfl (by rw [hg61]; decide)) rfl ?_; clear hE a; intro a hE
   refine WL.no hE (runs_not hE rfl rfl rfl (by rw [hg61]; decide)) rfl ?_; clear hE a; intro a hE
   refine WL.no hE (runs_not hE rfl rfl rfl (by rw [hg61]; decide)) rfl ?_; clear hE a; intro a hE
   refine WL.no hE (runs_not hE rfl rfl rfl (by rw [hg61]; decide)) rfl ?_; clear hE a; intro a hE
   refine WL.no hE (runs_undef hE rfl rfl rfl) rfl ?_; clear hE a; intro a hE
   refine WL.no hE (runs_undef hE rfl rfl rfl) rfl ?_; clear hE a; intro a hE
   refine WL.no hE (runs_undef hE rfl rfl rfl) rfl ?_; clear hE a; intro a hE
   refine WL.no hE (runs_not hE rfl rfl rfl (by rw [hg61]; decide)) rfl ?_; clear hE a; intro a hE
   refine vP hS hE (Gives.pickT hE rfl hg61 rfl) rfl ?_; clear hE a; intro a hE
   refine WL.nil ?_
   subst hK60
   exact ⟨true, hq55, hE.pick _ ⟨rfl, rfl, trivial⟩, hS⟩
  ·replace hq55 := iteF hg61 hq55
   refine WL.vS hS hE (runs_if hE rfl rfl rfl hg61) (Gives.fld hE rfl fl43_0) rfl ?_; clear hE a; intro a hE
   refine WL.vS hS hE (runs_if hE rfl rfl rfl hg61) (Gives.loadB hE 0 rfl rfl rfl ty3) rfl ?_; clear hE a; intro a hE
   refine WL.vS hS hE (runs_if hE rfl rfl rfl hg61) (Gives.p hE rfl) rfl ?_; clear hE a; intro a hE
   refine WL.vS hS hE (runs_if hE rfl rfl rfl hg61) (Gives.p hE rfl) rfl ?_; clear hE a; intro a hE
   rcases Bool.eq_false_or_eq_true (x1.Kind == 10) with hg62 | hg62
   ·replace hq55 := iteT hg62 hq55
    refine WL.vS hS hE (runs_if hE rfl rfl rfl hg62) (Gives.fld hE rfl fl43_0) rfl ?_; clear hE a; intro a hE
    refine WL.vS hS hE (runs_if hE rfl rfl rfl hg62) (Gives.loadB hE 1 rfl rfl rfl ty3) rfl ?_; clear hE a; intro a hE
    refine WL.vS hS hE (runs_if hE rfl rfl rfl hg62) (Gives.p hE rfl) rfl ?_; clear hE a; intro a hE
    refine WL.vS hS hE (runs_if hE rfl rfl rfl hg61) (Gives.pickT hE rfl hg62 rfl) rfl ?_; clear hE a; intro a hE
    refine vP hS hE (Gives.pickF hE rfl hg61 rfl) rfl ?_; clear hE a; intro a hE
    refine WL.nil ?_
    subst hK60
    exact ⟨(x0.Kind != 11), hq55, hE.pick _ ⟨rfl, rfl, trivial⟩, hS⟩
   ·replace hq55 := iteF hg62 hq55
    refine WL.no hE (runs_not hE rfl rfl rfl (by rw [hg62]; decide)) rfl ?_; clear hE a; intro a hE
    refine WL.no hE (runs_not hE rfl rfl rfl (by rw [hg62]; decide)) rfl ?_; clear hE a; intro a hE
    refine WL.no hE (runs_not hE rfl rfl rfl (by rw [hg62]; decide)) rfl ?_; clear hE a; intro a hE
    refine WL.vS hS hE (runs_if hE rfl rfl rfl hg61) (Gives.pickF hE rfl hg62 rfl) rfl ?_; clear hE a; intro a hE
    refine vP hS hE (Gives.pickF hE rfl hg61 rfl) rfl ?_; clear hE a; intro a hE
    refine WL.nil ?_
    subst hK60
    exact ⟨false, hq55, hE.pick _ ⟨rfl, rfl, trivial⟩, hS⟩
 ·clear hE hS a w; rintro a w ⟨q59, rfl, hE, hS⟩
  refine W.cond hE rfl (fun hc63 => ?_) (fun hc63 => ?_)
  ·replace hr := iteT hc63 hr
   refine W.seq (W.region ?_)
   refine vP hS hE (Gives.p hE rfl) rfl ?_; clear hE a; intro a hE
   obtain ⟨x64, hx65, hr⟩ := bindS hr
   refine vP hS hE (Gives.catS hE rfl rfl hx65) rfl ?_; clear hE a; intro a hE
   obtain ⟨x66, hx67, hr⟩ := bindS hr
   refine vP hS hE (Gives.catS hE rfl rfl hx67) rfl ?_; clear hE a; intro a hE
   refine vP hS hE (Gives.p hE rfl) rfl ?_; clear hE a; intro a hE
   refine WL.nil ?_
   refine W.ret ?_
   refine finG (fn := Tryz.f45) (rs := [.tmp 4]) (vs := [_]) hE rfl ⟨rfl, trivial⟩ ?_
   obtain rfl := Option.some.inj hr
   replace hS := hS.tail
   replace hS := hS.tail
   exact ⟨rfl, hS⟩
  ·replace hr := iteF hc63 hr
   refine W.skip ?_
   refine W.seq (W.region ?_)
   refine vP hS hE (Gives.p hE rfl) rfl ?_; clear hE a; intro a hE
   refine vP hS hE (Gives.p hE rfl) rfl ?_; clear hE a; intro a hE
   refine WL.nil ?_
   refine W.ret ?_
   refine finG (fn := Tryz.f45) (rs := [.tmp 4]) (vs := [_]) hE rfl ⟨rfl, trivial⟩ ?_
   obtain rfl := Option.some.inj hr
   replace hS := hS.tail
   replace hS := hS.tail
   exact ⟨rfl, hS⟩
set_option maxHeartbeats 8000000 in
theorem Fishref2CondText_ok : ∀ {fu : Nat} {w : World} {s : Sg} {R : List HP} {x0 : FareCond} {a0_0 : Option Addr} {c0_0 : Nat} (_hS : St w s (R)) (_hTab : TabX s) (_h0_0 : Sl 4 RFareCond s a0_0 c0_0 x0.Kids) {r : ByteArray} (_hr : Fishref2CondText fu x0 = some r),
  Calls Tryz.prog 21 [.agg (List.toArray [.int .i64 x0.Kind, .int .i64 x0.A, .int .i64 x0.B, .slice a0_0 x0.Kids.length c0_0])].toArray w (fun e w => e = .returned (.string r) ∧ St w s (R)) := by
 intro fu
 induction fu with
 | zero => intro w s R x0 a0_0 c0_0 hS hTab h0_0 r hr; rw [Fishref2CondText] at hr; exact absurd hr (by simp)
 | succ fu ih_Fishref2CondText =>
  intro w s R x0 a0_0 c0_0 hS hTab h0_0 r hr
  rw [Fishref2CondText] at hr
  generalize Fishref2CondText fu = self_Fishref2CondText at hr ih_Fishref2CondText
  refine enter Tryz.func21 rfl rfl rfl fun a hE => ?_
  refine W.seq (W.region ?_)
  refine WL.box hE hS (runs_plain rfl) rfl rfl rfl ?_; clear hE hS a w; intro b51 a w hE hS
  refine vP hS hE (Gives.p hE rfl) rfl ?_; clear hE a; intro a hE
  refine WL.nil ?_
  refine W.seq (W.region ?_)
  refine WL.lit hE hS (e := 9) (es := 1) (vs := [(0, .string (str [97, 108, 119, 97, 121, 115])), (1, .string (str [99, 97, 114, 100])), (2, .string (str [97, 103, 101])), (3, .string (str [116, 105, 109, 101])), (4, .string (str [107, 109])), (5, .string (str [99, 111, 117, 110, 116])), (6, .string (str [116, 111, 117, 99, 104])), (7, .string (str [98, 101, 103, 105, 110])), (8, .string (str [102, 105, 110, 105, 115, 104]))]) (cs := [.string (str [97, 108, 119, 97, 121, 115]), .string (str [99, 97, 114, 100]), .string (str [97, 103, 101]), .string (str [116, 105, 109, 101]), .string (str [107, 109]), .string (str [99, 111, 117, 110, 116]), .string (str [116, 111, 117, 99, 104]), .string (str [98, 101, 103, 105, 110]), .string (str [102, 105, 110, 105, 115, 104])]) (runs_plain rfl) rfl (by kernel_rfl) rfl ?_; clear hE hS a w; intro b52 a w hE hS
  replace hS := hS.ptVec (es := 1) (m := 9) rfl (by decide)
  have h54 : Ev 1 RS s [.string (str [97, 108, 119, 97, 121, 115]), .string (str [99, 97, 114, 100]), .string (str [97, 103, 101]), .string (str [116, 105, 109, 101]), .string (str [107, 109]), .string (str [99, 111, 117, 110, 116]), .string (str [116, 111, 117, 99, 104]), .string (str [98, 101, 103, 105, 110]), .string (str [102, 105, 110, 105, 115, 104])] [(str [97, 108, 119, 97, 121, 115]), (str [99, 97, 114, 100]), (str [97, 103, 101]), (str [116, 105, 109, 101]), (str [107, 109]), (str [99, 111, 117, 110, 116]), (str [116, 111, 117, 99, 104]), (str [98, 101, 103, 105, 110]), (str [102, 105, 110, 105, 115, 104])] := (Ev.cons (c1 := [.string (str [97, 108, 119, 97, 121, 115])]) rfl rfl (Ev.cons (c1 := [.string (str [99, 97, 114, 100])]) rfl rfl (Ev.cons (c1 := [.string (str [97, 103, 101])]) rfl rfl (Ev.cons (c1 := [.string (str [116, 105, 109, 101])]) rfl rfl (Ev.cons (c1 := [.string (str [107, 109])]) rfl rfl (Ev.cons (c1 := [.string (str [99, 111, 117, 110, 116])]) rfl rfl (Ev.cons (c1 := [.string (str [116, 111, 117, 99, 104])]) rfl rfl (Ev.cons (c1 := [.string (str [98, 101, 103, 105, 110])]) rfl rfl (Ev.cons (c1 := [.string (str [102, 105, 110, 105, 115, 104])]) rfl rfl (Ev.nil))))))))))
  have hF := hS.fixD RS.mono 0 rfl h54 (rfl); clear hS; obtain ⟨s55, hle56, hS, h57⟩ := hF
  replace h0_0 := Sl.mono RFareCond.mono hle56 h0_0
  refine vP hS hE (Gives.p hE rfl) rfl ?_; clear hE a; intro a hE
  refine WL.nil ?_
  refine W.seq ?_
  refine W.seq (W.region ?_)
  refine vP hS hE (Gives.fld hE rfl fl43_0) rfl ?_; clear hE a; intro a hE
  refine vP hS hE (Gives.loadB hE 0 rfl rfl rfl ty3) rfl ?_; clear hE a; intro a hE
  refine WL.nil ?_
  refine W.block ?_
  refine W.seq (W.region ?_)
  refine vP hS hE (Gives.p hE rfl) rfl ?_; clear hE a; intro a hE
  refine vP hS hE (Gives.p hE rfl) rfl ?_; clear hE a; intro a hE
  refine WL.nil ?_
  obtain ⟨q59, hq58, hr⟩ := bindS hr
  refine W.cut (fun a w => .next () = q59 ∧ Rep a 69 [(1, .pointer (some ⟨b51, 0, none⟩)), (3, .slice (some ⟨b52, 0, none⟩) 9 9)] ∧ St w s55 (pt b51 (.cells #[.int .i64 x0.Kind, .int .i64 x0.A, .int .i64 x0.B, .slice a0_0 x0.Kids.length c0_0] 43 (0, 0)) :: R)) ?_ ?_
  ·refine W.gen fun K62 hK62 => ?_
   refine W.cond hE rfl (fun hc63 => ?_) (fun hc63 => ?_)
   ·replace hq58 := iteT hc63 hq58
    refine W.seq ?_
    refine W.regionQ (C := fun w => St w s55 (pt b51 (.cells #[.int .i64 x0.Kind, .int .i64 x0.A, .int .i64 x0.B, .slice a0_0 x0.Kids.length c0_0] 43 (0, 0)) :: R)) mixed (by kernel_rfl) hS.drew ?_
    refine qP hE (Gives.loadBA hE 0 rfl rfl ty43) rfl ?_; clear hE a; intro a hE
    refine qP hE (Gives.fld hE rfl fl43_3) rfl ?_; clear hE a; intro a hE
    refine qP hE (Gives.loadB hE 0 rfl rfl rfl ty41) rfl ?_; clear hE a; intro a hE
    obtain ⟨x64, hx65, hq58⟩ := bindS hq58
    obtain ⟨hi66, hlt67, hy68⟩ := gx_some hx65
    obtain ⟨cs69, hl70, hR71, hat72⟩ := h0_0.at hy68
    obtain ⟨a73, c74, rfl, h75⟩ := hR71.unf
    refine qP hE (Gives.idx hE ((0 : Int)).toNat rfl rfl sl41 hi66 hlt67 (h0_0.aok hlt67)) rfl ?_; clear hE a; intro a hE
    refine qP hE (Gives.loadA hE rfl (fun w h => hat72 w _ h) ty43) rfl ?_; clear hE a; intro a hE
    obtain ⟨q76, hq77, hq58⟩ := bindS hq58
    refine QL.fnq hE (fun w hS => Fishref2kidText_ok @ih_Fishref2CondText hS (TabG.mono hle56 hTab) h0_0 h75 hq77) (runs_plain rfl) bd45 rfl rfl rfl ?_; clear hE a; intro a hE
    obtain ⟨x78, hx79, hq58⟩ := bindS hq58
    refine qP hE (Gives.catS hE rfl rfl hx79) rfl ?_; clear hE a; intro a hE
    refine qP hE (Gives.p hE rfl) rfl ?_; clear hE a; intro a hE
    refine QL.nil ?_; clear hS w; intro w hS
    refine W.ret ?_
    subst hK62
    rw [← Option.some.inj hq58] at hr
    dsimp only at hr
    refine finG (fn := Tryz.f21) (rs := [.tmp 2]) (vs := [_]) hE rfl ⟨rfl, trivial⟩ ?_
    obtain rfl := Option.some.inj hr
    replace hS := hS.tail
    exact ⟨rfl, (hS.down hle56)⟩
   ·replace hq58 := iteF hc63 hq58
    refine W.seq ?_
    refine W.seq (W.region ?_)
    refine vP hS hE (Gives.p hE rfl) rfl ?_; clear hE a; intro a hE
    refine vP hS hE (Gives.p hE rfl) rfl ?_; clear hE a; intro a hE
    refine WL.nil ?_
    obtain ⟨q81, hq80, hq58⟩ := bndS hq58
    refine W.cut (fun a w => ∃ (q84 : Bool), q84 = q81 ∧ Rep a 69 [(1, .pointer (some ⟨b51, 0, none⟩)), (3, .slice (some ⟨b52, 0, none⟩) 9 9), (22, .bool q84)] ∧ St w s55 (pt b51 (.cells #[.int .i64 x0.Kind, .int .i64 x0.A, .int .i64 x0.B, .slice a0_0 x0.Kids.length c0_0] 43 (0, 0)) :: R)) ?_ ?_
    ·refine W.gen fun K85 hK85 => ?_
     refine W.cond hE rfl (fun hc86 => ?_) (fun hc86 => ?_)
     ·replace hq80 := iteT hc86 hq80
      refine W.skip ?_
      subst hK85
      exact ⟨(x0.Kind == 10), hq80, hE.pick _ ⟨rfl, rfl, rfl, trivial⟩, hS⟩
     ·replace hq80 := iteF hc86 hq80
      refine W.region ?_
      refine vP hS hE (Gives.p hE rfl) rfl ?_; clear hE a; intro a hE
      refine vP hS hE (Gives.p hE rfl) rfl ?_; clear hE a; intro a hE
      refine WL.nil ?_
      subst hK85
      exact ⟨(x0.Kind == 11), hq80, hE.pick _ ⟨rfl, rfl, rfl, trivial⟩, hS⟩
    ·clear hE hS a w; rintro a w ⟨q84, rfl, hE, hS⟩
     refine W.cond hE rfl (fun hc87 => ?_) (fun hc87 => ?_)
     ·replace hq58 := iteT hc87 hq58
      refine W.seq (W.region ?_)
      refine vP hS hE (Gives.p hE rfl) rfl ?_; clear hE a; intro a hE
      refine WL.nil ?_
      refine W.seq ?_
      refine W.seq (W.region ?_)
      refine vP hS hE (Gives.fld hE rfl fl43_0) rfl ?_; clear hE a; intro a hE
      refine vP hS hE (Gives.loadB hE 0 rfl rfl rfl ty3) rfl ?_; clear hE a; intro a hE
      refine vP hS hE (Gives.p hE rfl) rfl ?_; clear hE a; intro a hE
      refine WL.nil ?_
      obtain ⟨q89, hq88, hq58⟩ := bndS hq58
      refine W.cut (fun a w => ∃ (q92 : ByteArray), q92 = q89 ∧ Rep a 69 [(1, .pointer (some ⟨b51, 0, none⟩)), (4, .string q92)] ∧ St w s55 (pt b51 (.cells #[.int .i64 x0.Kind, .int .i64 x0.A, .int .i64 x0.B, .slice a0_0 x0.Kids.length c0_0] 43 (0, 0)) :: R)) ?_ ?_
      ·refine W.gen fun K93 hK93 => ?_
       refine W.cond hE rfl (fun hc94 => ?_) (fun hc94 => ?_)
       ·replace hq88 := iteT hc94 hq88
        refine W.region ?_
        refine vP hS hE (Gives.p hE rfl) rfl ?_; clear hE a; intro a hE
        refine WL.nil ?_
        subst hK93
        exact ⟨(str [32, 111, 114, 32]), hq88, hE.pick _ ⟨rfl, rfl, trivial⟩, hS⟩
       ·replace hq88 := iteF hc94 hq88
        refine W.skip ?_
        subst hK93
        exact ⟨(str [32, 97, 110, 100, 32]), hq88, hE.pick _ ⟨rfl, rfl, trivial⟩, hS⟩
      ·clear hE hS a w; rintro a w ⟨q92, rfl, hE, hS⟩
       refine W.seq (W.region ?_)
       replace hS := hS.vecNil 9 1
       refine vP hS hE (Gives.p hE rfl) rfl ?_; clear hE a; intro a hE
       refine WL.nil ?_
       refine W.seq ?_
       refine W.seq (W.region ?_)
       refine vP hS hE (Gives.fld hE rfl fl43_3) rfl ?_; clear hE a; intro a hE
       refine vP hS hE (Gives.loadB hE 1 rfl rfl rfl ty41) rfl ?_; clear hE a; intro a hE
       refine vP hS hE (Gives.len hE rfl sl41) rfl ?_; clear hE a; intro a hE
       refine vP hS hE (Gives.p hE rfl) rfl ?_; clear hE a; intro a hE
       refine WL.nil ?_
       obtain ⟨q97, hq96, hq58⟩ := bindS hq58
       refine W.cut (fun a w => ∃ (q107 : List ByteArray), ∃ (a108 : Option Addr), ∃ (c109 : Nat), ∃ (n111 : Nat), ∃ (cs112 : List Value), q107 = q97 ∧ Ev 1 RS s55 cs112 q107 ∧ q107.length = n111 ∧ Rep a 69 [(4, .string q92), (5, .slice a108 n111 c109)] ∧ St w s55 (vecC 9 1 a108 c109 n111 cs112 :: pt b51 (.cells #[.int .i64 x0.Kind, .int .i64 x0.A, .int .i64 x0.B, .slice a0_0 x0.Kids.length c0_0] 43 (0, 0)) :: R)) ?_ ?_
       ·refine W.block ?_
        refine W.loop (fun m a w => ∃ (rest100 : List FareCond) (k98 : Nat), ∃ (q107 : List ByteArray), ∃ (a108 : Option Addr), ∃ (c109 : Nat), ∃ (n111 : Nat), ∃ (cs112 : List Value), rest100.length = m ∧ x0.Kids.drop k98 = rest100 ∧ Fishref2CondText.loop1 x0 self_Fishref2CondText rest100 q107 = some q97 ∧ Ev 1 RS s55 cs112 q107 ∧ q107.length = n111 ∧ Rep a 69 [(1, .pointer (some ⟨b51, 0, none⟩)), (4, .string q92), (5, .slice a108 n111 c109), (29, .slice a0_0 x0.Kids.length c0_0), (30, .int .i64 ((x0.Kids).length : Int)), (31, .int .i64 ((k98 : Nat) : Int))] ∧ St w s55 (vecC 9 1 a108 c109 n111 cs112 :: pt b51 (.cells #[.int .i64 x0.Kind, .int .i64 x0.A, .int .i64 x0.B, .slice a0_0 x0.Kids.length c0_0] 43 (0, 0)) :: R)) (m := x0.Kids.length) ⟨x0.Kids, 0, [], none, 0, 0, [], rfl, rfl, hq96, (Ev.nil), (rfl), hE.pick _ ⟨rfl, rfl, rfl, rfl, rfl, rfl, trivial⟩, hS⟩ ?_
        clear hE hS a w hq96; rintro m104 a w ⟨rest100, k98, q107, a108, c109, n111, cs112, rfl, hd101, hq96, h110, rfl, hE, hS⟩
        refine W.gen fun K114 hK114 => ?_
        rcases rest100 with _ | ⟨x99, rest100⟩
        ·have hlt102 := drop_nil hd101
         refine W.seq (W.region ?_)
         refine vP hS hE (Gives.p hE rfl) rfl ?_; clear hE a; intro a hE
         refine WL.nil ?_
         refine W.seq ?_
         refine W.condF hE rfl (decide_eq_false (by omega)) ?_
         subst hK114
         refine W.exit rfl ?_
         exact ⟨q107, a108, c109, q107.length, cs112, Option.some.inj hq96, h110, rfl, hE.pick _ ⟨rfl, rfl, trivial⟩, hS⟩
        ·obtain ⟨hlt102, hx103, hd101⟩ := drop_cons hd101
         rw [Fishref2CondText.loop1] at hq96
         refine W.seq (W.region ?_)
         refine vP hS hE (Gives.p hE rfl) rfl ?_; clear hE a; intro a hE
         refine WL.nil ?_
         refine W.seq ?_
         refine W.condT hE rfl (decide_eq_true (by omega)) ?_
         refine W.skip ?_
         refine W.seq ?_
         refine W.block ?_
         refine W.seq (W.region ?_)
         obtain ⟨cs115, hl116, hR117, hat118⟩ := h0_0.at hx103
         obtain ⟨a119, c120, rfl, h121⟩ := hR117.unf
         refine vP hS hE (Gives.idx hE k98 rfl rfl sl41 rfl hlt102 (h0_0.aok hlt102)) rfl ?_; clear hE a; intro a hE
         refine vP hS hE (Gives.loadA hE rfl (fun w h => hat118 w _ h) ty43) rfl ?_; clear hE a; intro a hE
         refine WL.alloc hE hS (runs_plain rfl) zr43 rfl ?_; clear hE hS a w; intro b122 a w hE hS
         refine WL.storeI hE hS 0 rfl [.int .i64 x99.Kind, .int .i64 x99.A, .int .i64 x99.B, .slice a119 x99.Kids.length c120] (runs_plain rfl) rfl rfl rfl ty43 rfl rfl rfl rfl ?_; clear hE hS a w; intro a w hE hS
         refine WL.nil ?_
         refine W.region ?_
         refine vP hS hE (Gives.p hE rfl) rfl ?_; clear hE a; intro a hE
         refine vP hS hE (Gives.loadBA hE 2 rfl rfl ty43) rfl ?_; clear hE a; intro a hE
         refine vP hS hE (Gives.loadBA hE 0 rfl rfl ty43) rfl ?_; clear hE a; intro a hE
         obtain ⟨q123, hq124, hq96⟩ := bindS hq96
         have hc_ := Fishref2kidText_ok @ih_Fishref2CondText hS (TabG.mono hle56 hTab) h0_0 h121 hq124
         refine WL.fnq hE (hc_) (runs_plain rfl) bd45 rfl rfl rfl ?_
         clear hE hS hc_; rintro e w ⟨rfl, hS⟩; refine ⟨_, rfl, ?_⟩; clear a; intro a hE
         refine WL.lit hE hS (e := 9) (es := 1) (vs := [(0, .string q123)]) (cs := [.string q123]) (runs_plain rfl) rfl (by kernel_rfl) rfl ?_; clear hE hS a w; intro b125 a w hE hS
         obtain ⟨x126, hx127, hq96⟩ := bindS hq96
         refine WL.appD hE hS 1 (m := 1) (runs_plain rfl) rfl rfl rfl ap59 rfl h110 rfl (xs := [q123]) (Ev.cons (c1 := [.string q123]) rfl rfl (Ev.nil)) rfl rfl hx127 rfl ?_; clear hE hS a w; intro a128 c129 cs130 a w h131 hE hS
         refine vP hS hE (Gives.p hE rfl) rfl ?_; clear hE a; intro a hE
         refine WL.nil ?_
         refine W.region ?_
         refine vP hS hE (Gives.inc hE rfl (by have := h0_0.small; omega)) rfl ?_; clear hE a; intro a hE
         refine vP hS hE (Gives.p hE rfl) rfl ?_; clear hE a; intro a hE
         refine WL.nil ?_
         replace hS := hS.tail
         subst hK114
         exact ⟨rest100.length, Nat.lt_succ_self _, rest100, k98 + 1, x126, a128, c129, x126.length, cs130, rfl, hd101, hq96, h131, (rfl), hE.pick _ ⟨rfl, rfl, rfl, rfl, rfl, rfl, trivial⟩, hS⟩
       ·clear hE hS a w; rintro a w ⟨q107, a108, c109, n111, cs112, rfl, h110, rfl, hE, hS⟩
        refine W.seq (W.region ?_)
        refine vP hS hE (Gives.p hE rfl) rfl ?_; clear hE a; intro a hE
        refine vP hS hE (Gives.p hE rfl) rfl ?_; clear hE a; intro a hE
        have hF := hS.fixD RS.mono 0 rfl h110 rfl; clear hS; obtain ⟨s134, hle135, hS, h136⟩ := hF
        replace h0_0 := Sl.mono RFareCond.mono hle135 h0_0
        obtain ⟨q132, hq133, hq58⟩ := bindS hq58
        refine WL.fnq hE (join_ok hS h136 hq133) (runs_plain rfl) bd46 rfl rfl rfl ?_
        clear hE hS; rintro e w ⟨rfl, hS⟩; refine ⟨_, rfl, ?_⟩; clear a; intro a hE
        refine vP hS hE (Gives.p hE rfl) rfl ?_; clear hE a; intro a hE
        refine WL.nil ?_
        refine W.ret ?_
        subst hK62
        rw [← Option.some.inj hq58] at hr
        dsimp only at hr
        refine finG (fn := Tryz.f21) (rs := [.tmp 2]) (vs := [_]) hE rfl ⟨rfl, trivial⟩ ?_
        obtain rfl := Option.some.inj hr
        replace hS := hS.tail
        exact ⟨rfl, (hS.down (Sg.Le.trans hle56 hle135))⟩
     ·replace hq58 := iteF hc87 hq58
      refine W.skip ?_
      subst hK62
      exact ⟨Option.some.inj hq58, hE.pick _ ⟨rfl, rfl, trivial⟩, hS⟩
  ·clear hE hS a w; rintro a w ⟨rfl, hE, hS⟩
   dsimp only at hr
   refine W.seq (W.region ?_)
   refine vP hS hE (Gives.p hE rfl) rfl ?_; clear hE a; intro a hE
   refine vP hS hE (Gives.fld hE rfl fl43_0) rfl ?_; clear hE a; intro a hE
   refine vP hS hE (Gives.loadB hE 0 rfl rfl rfl ty3) rfl ?_; clear hE a; intro a hE
   obtain ⟨x137, hx138, hr⟩ := bindS hr
   obtain ⟨hi139, hlt140, hy141⟩ := gx_some hx138
   obtain ⟨cs142, hl143, hR144, hat145⟩ := h57.at hy141
   subst hR144
   refine vP hS hE (Gives.idx hE (x0.Kind).toNat rfl rfl sl59 hi139 hlt140 (h57.aok hlt140)) rfl ?_; clear hE a; intro a hE
   refine vP hS hE (Gives.load1 hE rfl (fun w h => hat145 w _ h) ty9) rfl ?_; clear hE a; intro a hE
   refine vP hS hE (Gives.p hE rfl) rfl ?_; clear hE a; intro a hE
   refine WL.nil ?_
   refine W.seq ?_
   refine W.seq (W.region ?_)
   refine vP hS hE (Gives.fld hE rfl fl43_0) rfl ?_; clear hE a; intro a hE
   refine vP hS hE (Gives.loadB hE 0 rfl rfl rfl ty3) rfl ?_; clear hE a; intro a hE
   refine WL.fnq hE (Fishref2numbersOf_ok hS  rfl (r := Fishref2numbersOf x0.Kind)) (runs_plain rfl) bd47 rfl rfl rfl ?_
   clear hE hS; rintro e w ⟨rfl, hS⟩; refine ⟨_, rfl, ?_⟩; clear a; intro a hE
   refine vP hS hE (Gives.p hE rfl) rfl ?_; clear hE a; intro a hE
   refine WL.nil ?_
   obtain ⟨q158, hq157, hr⟩ := bindS hr
   refine W.cut (fun a w => ∃ (q163 : ByteArray), ∃ (q164 : Int), (q163, q164) = q158 ∧ Rep a 69 [(8, .string q163)] ∧ St w s55 (pt b51 (.cells #[.int .i64 x0.Kind, .int .i64 x0.A, .int .i64 x0.B, .slice a0_0 x0.Kids.length c0_0] 43 (0, 0)) :: R)) ?_ ?_
   ·refine W.block ?_
    refine W.loop (fun m a w => ∃ (n159 : Nat), ∃ (q163 : ByteArray), ∃ (q164 : Int), n159 = m ∧ Fishref2CondText.loop3 x0 n159 q163 q164 = some q158 ∧ Rep a 69 [(1, .pointer (some ⟨b51, 0, none⟩)), (8, .string q163), (52, .int .i64 (Fishref2numbersOf x0.Kind)), (53, .int .i64 q164)] ∧ St w s55 (pt b51 (.cells #[.int .i64 x0.Kind, .int .i64 x0.A, .int .i64 x0.B, .slice a0_0 x0.Kids.length c0_0] 43 (0, 0)) :: R)) (m := fu) ⟨fu, x137, 0, rfl, hq157, hE.pick _ ⟨rfl, rfl, rfl, rfl, trivial⟩, hS⟩ ?_
    clear hE hS a w hq157; rintro m160 a w ⟨n159, q163, q164, rfl, hq157, hE, hS⟩
    refine W.gen fun K165 hK165 => ?_
    rcases n159 with _ | n159
    ·rw [Fishref2CondText.loop3] at hq157; exact absurd hq157 (by simp)
    rw [Fishref2CondText.loop3] at hq157
    refine W.seq (W.region ?_)
    refine vP hS hE (Gives.p hE rfl) rfl ?_; clear hE a; intro a hE
    refine WL.nil ?_
    refine W.seq ?_
    refine W.cond hE rfl (fun hc166 => ?_) (fun hc166 => ?_)
    ·replace hq157 := iteT hc166 hq157
     refine W.skip ?_
     refine W.seq ?_
     refine W.block ?_
     refine W.seq (W.region ?_)
     refine vP hS hE (Gives.p hE rfl) rfl ?_; clear hE a; intro a hE
     refine vP hS hE (Gives.p hE rfl) rfl ?_; clear hE a; intro a hE
     refine WL.nil ?_
     refine W.region ?_
     refine vP hS hE (Gives.p hE rfl) rfl ?_; clear hE a; intro a hE
     refine vP hS hE (Gives.fld hE rfl fl43_1) rfl ?_; clear hE a; intro a hE
     refine vP hS hE (Gives.loadB hE 0 rfl rfl rfl ty3) rfl ?_; clear hE a; intro a hE
     refine vP hS hE (Gives.fld hE rfl fl43_2) rfl ?_; clear hE a; intro a hE
     refine vP hS hE (Gives.loadB hE 0 rfl rfl rfl ty3) rfl ?_; clear hE a; intro a hE
     refine vP hS hE (Gives.build hE (vs := [(0, .int .i64 x0.A), (1, .int .i64 x0.B)]) [.int .i64 x0.A, .int .i64 x0.B] rfl (by kernel_rfl)) rfl ?_; clear hE a; intro a hE
     refine vP hS hE (Gives.p hE rfl) rfl ?_; clear hE a; intro a hE
     obtain ⟨x167, hx168, hq157⟩ := bindS hq157
     obtain ⟨hi169, hlt170, hy171⟩ := gx_some hx168
     refine vP hS hE (Gives.indexMi hE (f := (Value.int .i64)) (l := [x0.A, x0.B]) ar96 rfl rfl rfl rfl hi169 hy171) rfl ?_; clear hE a; intro a hE
     obtain ⟨q172, hq173, hq157⟩ := bindS hq157
     refine WL.fnq hE (itoa_ok hS (TabG.mono hle56 hTab).tab hq173) (runs_plain rfl) bd20 rfl rfl rfl ?_
     clear hE hS; rintro e w ⟨rfl, hS⟩; refine ⟨_, rfl, ?_⟩; clear a; intro a hE
     obtain ⟨x174, hx175, hq157⟩ := bindS hq157
     refine vP hS hE (Gives.catS hE rfl rfl hx175) rfl ?_; clear hE a; intro a hE
     obtain ⟨x176, hx177, hq157⟩ := bindS hq157
     refine vP hS hE (Gives.catS hE rfl rfl hx177) rfl ?_; clear hE a; intro a hE
     refine vP hS hE (Gives.p hE rfl) rfl ?_; clear hE a; intro a hE
     refine WL.nil ?_
     refine W.region ?_
     refine vP hS hE (Gives.p hE rfl) rfl ?_; clear hE a; intro a hE
     refine vP hS hE (Gives.p hE rfl) rfl ?_; clear hE a; intro a hE
     refine WL.nil ?_
     subst hK165
     exact ⟨n159, Nat.lt_succ_self _, n159, x176, (w64 (q164 + 1)), rfl, hq157, hE.pick _ ⟨rfl, rfl, rfl, rfl, trivial⟩, hS⟩
    ·replace hq157 := iteF hc166 hq157
     subst hK165
     refine W.exit rfl ?_
     exact ⟨q163, q164, Option.some.inj hq157, hE.pick _ ⟨rfl, trivial⟩, hS⟩
   ·clear hE hS a w; rintro a w ⟨q163, q164, rfl, hE, hS⟩
    dsimp only at hr
    refine W.seq (W.region ?_)
    refine vP hS hE (Gives.p hE rfl) rfl ?_; clear hE a; intro a hE
    refine vP hS hE (Gives.p hE rfl) rfl ?_; clear hE a; intro a hE
    refine WL.nil ?_
    refine W.ret ?_
    refine finG (fn := Tryz.f21) (rs := [.tmp 2]) (vs := [_]) hE rfl ⟨rfl, trivial⟩ ?_
    obtain rfl := Option.some.inj hr
    replace hS := hS.tail
    exact ⟨rfl, (hS.down hle56)⟩
set_option maxHeartbeats 8000000 in
theorem Fishref2TariffText_ok {fu : Nat}  {w : World} {s : Sg} {R : List HP} {x0 : FareTariff} {a0_0 : Option Addr} {c0_0 : Nat} {a0_1 : Option Addr} {c0_1 : Nat} (hS : St w s (R)) (hTab : TabX s) (h0_0 : Sl 2 RFareBand s a0_0 c0_0 x0.Bands) (h0_1 : Sl 7 RFareRule s a0_1 c0_1 x0.Rules) {r : ByteArray} (hr : Fishref2TariffText fu x0 = some r) :
  Calls Tryz.prog 9 [.agg (List.toArray [.bool x0.ByKm, .slice a0_0 x0.Bands.length c0_0, .int .i64 x0.Round, .slice a0_1 x0.Rules.length c0_1])].toArray w (fun e w => e = .returned (.string r) ∧ St w s (R)) := by
 refine enter Tryz.func9 rfl rfl rfl fun a hE => ?_
 rw [Fishref2TariffText] at hr
 refine W.seq (W.region ?_)
 refine WL.box hE hS (runs_plain rfl) rfl rfl rfl ?_; clear hE hS a w; intro b51 a w hE hS
 refine vP hS hE (Gives.p hE rfl) rfl ?_; clear hE a; intro a hE
 refine WL.nil ?_
 refine W.seq (W.region ?_)
 refine vP hS hE (Gives.p hE rfl) rfl ?_; clear hE a; intro a hE
 refine WL.nil ?_
 refine W.seq ?_
 refine W.seq (W.region ?_)
 refine vP hS hE (Gives.fld hE rfl fl25_0) rfl ?_; clear hE a; intro a hE
 refine vP hS hE (Gives.loadB hE 0 rfl rfl rfl ty4) rfl ?_; clear hE a; intro a hE
 refine WL.nil ?_
 obtain ⟨q53, hq52, hr⟩ := bndS hr
 refine W.cut (fun a w => ∃ (q56 : ByteArray), q56 = q53 ∧ Rep a 69 [(1, .pointer (some ⟨b51, 0, none⟩)), (3, .string q56)] ∧ St w s (pt b51 (.cells #[.bool x0.ByKm, .slice a0_0 x0.Bands.length c0_0, .int .i64 x0.Round, .slice a0_1 x0.Rules.length c0_1] 25 (0, 0)) :: R)) ?_ ?_
 ·refine W.gen fun K57 hK57 => ?_
  refine W.cond hE rfl (fun hc58 => ?_) (fun hc58 => ?_)
  ·replace hq52 := iteT hc58 hq52
   refine W.region ?_
   refine vP hS hE (Gives.p hE rfl) rfl ?_; clear hE a; intro a hE
   refine WL.nil ?_
   subst hK57
   exact ⟨(str [107, 109, 10]), hq52, hE.pick _ ⟨rfl, rfl, trivial⟩, hS⟩
  ·replace hq52 := iteF hc58 hq52
   refine W.skip ?_
   subst hK57
   exact ⟨(str [122, 111, 110, 101, 115, 10]), hq52, hE.pick _ ⟨rfl, rfl, trivial⟩, hS⟩
 ·clear hE hS a w; rintro a w ⟨q56, rfl, hE, hS⟩
  refine W.seq ?_
  refine W.seq (W.region ?_)
  refine vP hS hE (Gives.fld hE rfl fl25_1) rfl ?_; clear hE a; intro a hE
  refine vP hS hE (Gives.loadB hE 0 rfl rfl rfl ty22) rfl ?_; clear hE a; intro a hE
  refine vP hS hE (Gives.len hE rfl sl22) rfl ?_; clear hE a; intro a hE
  refine vP hS hE (Gives.p hE rfl) rfl ?_; clear hE a; intro a hE
  refine WL.nil ?_
  obtain ⟨q60, hq59, hr⟩ := bindS hr
  refine W.cut (fun a w => ∃ (q70 : ByteArray), q70 = q60 ∧ Rep a 69 [(1, .pointer (some ⟨b51, 0, none⟩)), (3, .string q70)] ∧ St w s (pt b51 (.cells #[.bool x0.ByKm, .slice a0_0 x0.Bands.length c0_0, .int .i64 x0.Round, .slice a0_1 x0.Rules.length c0_1] 25 (0, 0)) :: R)) ?_ ?_
  ·refine W.block ?_
   refine W.loop (fun m a w => ∃ (rest63 : List FareBand) (k61 : Nat), ∃ (q70 : ByteArray), rest63.length = m ∧ x0.Bands.drop k61 = rest63 ∧ Fishref2TariffText.loop1 rest63 q70 = some q60 ∧ Rep a 69 [(1, .pointer (some ⟨b51, 0, none⟩)), (3, .string q70), (11, .slice a0_0 x0.Bands.length c0_0), (12, .int .i64 ((x0.Bands).length : Int)), (13, .int .i64 ((k61 : Nat) : Int))] ∧ St w s (pt b51 (.cells #[.bool x0.ByKm, .slice a0_0 x0.Bands.length c0_0, .int .i64 x0.Round, .slice a0_1 x0.Rules.length c0_1] 25 (0, 0)) :: R)) (m := x0.Bands.length) ⟨x0.Bands, 0, q56, rfl, rfl, hq59, hE.pick _ ⟨rfl, rfl, rfl, rfl, rfl, trivial⟩, hS⟩ ?_
   clear hE hS a w hq59; rintro m67 a w ⟨rest63, k61, q70, rfl, hd64, hq59, hE, hS⟩
   refine W.gen fun K71 hK71 => ?_
   rcases rest63 with _ | ⟨x62, rest63⟩
   ·have hlt65 := drop_nil hd64
    refine W.seq (W.region ?_)
    refine vP hS hE (Gives.p hE rfl) rfl ?_; clear hE a; intro a hE
    refine WL.nil ?_
    refine W.seq ?_
    refine W.condF hE rfl (decide_eq_false (by omega)) ?_
    subst hK71
    refine W.exit rfl ?_
    exact ⟨q70, Option.some.inj hq59, hE.pick _ ⟨rfl, rfl, trivial⟩, hS⟩
   ·obtain ⟨hlt65, hx66, hd64⟩ := drop_cons hd64
    rw [Fishref2TariffText.loop1] at hq59
    refine W.seq (W.region ?_)
    refine vP hS hE (Gives.p hE rfl) rfl ?_; clear hE a; intro a hE
    refine WL.nil ?_
    refine W.seq ?_
    refine W.condT hE rfl (decide_eq_true (by omega)) ?_
    refine W.skip ?_
    refine W.seq ?_
    refine W.block ?_
    refine W.seq (W.region ?_)
    obtain ⟨cs72, hl73, hR74, hat75⟩ := h0_0.at hx66
    subst hR74
    refine vP hS hE (Gives.idx hE k61 rfl rfl sl22 rfl hlt65 (h0_0.aok hlt65)) rfl ?_; clear hE a; intro a hE
    refine vP hS hE (Gives.loadA hE rfl (fun w h => hat75 w _ h) ty40) rfl ?_; clear hE a; intro a hE
    refine WL.alloc hE hS (runs_plain rfl) zr40 rfl ?_; clear hE hS a w; intro b76 a w hE hS
    refine WL.storeI hE hS 0 rfl (FareBand.cells x62) (runs_plain rfl) rfl rfl rfl ty40 rfl rfl rfl rfl ?_; clear hE hS a w; intro a w hE hS
    refine WL.nil ?_
    refine W.regionQ (C := fun w => St w s (pt b76 (.cells (FareBand.cells x62).toArray 40 (0, 0)) :: pt b51 (.cells #[.bool x0.ByKm, .slice a0_0 x0.Bands.length c0_0, .int .i64 x0.Round, .slice a0_1 x0.Rules.length c0_1] 25 (0, 0)) :: R)) mixed (by kernel_rfl) hS.drew ?_
    refine qP hE (Gives.p hE rfl) rfl ?_; clear hE a; intro a hE
    refine qP hE (Gives.fld hE rfl fl40_0) rfl ?_; clear hE a; intro a hE
    refine qP hE (Gives.loadB hE 0 rfl rfl rfl ty3) rfl ?_; clear hE a; intro a hE
    obtain ⟨q77, hq78, hq59⟩ := bindS hq59
    refine QL.fnq hE (fun w hS => itoa_ok hS (TabG.mono (Sg.Le.refl _) hTab).tab hq78) (runs_plain rfl) bd20 rfl rfl rfl ?_; clear hE a; intro a hE
    obtain ⟨x79, hx80, hq59⟩ := bindS hq59
    refine qP hE (Gives.catS hE rfl rfl hx80) rfl ?_; clear hE a; intro a hE
    obtain ⟨x81, hx82, hq59⟩ := bindS hq59
    refine qP hE (Gives.catS hE rfl rfl hx82) rfl ?_; clear hE a; intro a hE
    refine qP hE (Gives.fld hE rfl fl40_1) rfl ?_; clear hE a; intro a hE
    refine qP hE (Gives.loadB hE 0 rfl rfl rfl ty3) rfl ?_; clear hE a; intro a hE
    obtain ⟨q83, hq84, hq59⟩ := bindS hq59
    refine QL.fnq hE (fun w hS => itoa_ok hS (TabG.mono (Sg.Le.refl _) hTab).tab hq84) (runs_plain rfl) bd20 rfl rfl rfl ?_; clear hE a; intro a hE
    obtain ⟨x85, hx86, hq59⟩ := bindS hq59
    refine qP hE (Gives.catS hE rfl rfl hx86) rfl ?_; clear hE a; intro a hE
    obtain ⟨x87, hx88, hq59⟩ := bindS hq59
    refine qP hE (Gives.catS hE rfl rfl hx88) rfl ?_; clear hE a; intro a hE
    obtain ⟨x89, hx90, hq59⟩ := bindS hq59
    refine qP hE (Gives.catS hE rfl rfl hx90) rfl ?_; clear hE a; intro a hE
    refine qP hE (Gives.p hE rfl) rfl ?_; clear hE a; intro a hE
    refine QL.nil ?_; clear hS w; intro w hS
    refine W.region ?_
    refine vP hS hE (Gives.inc hE rfl (by have := h0_0.small; omega)) rfl ?_; clear hE a; intro a hE
    refine vP hS hE (Gives.p hE rfl) rfl ?_; clear hE a; intro a hE
    refine WL.nil ?_
    replace hS := hS.tail
    subst hK71
    exact ⟨rest63.length, Nat.lt_succ_self _, rest63, k61 + 1, x89, rfl, hd64, hq59, hE.pick _ ⟨rfl, rfl, rfl, rfl, rfl, trivial⟩, hS⟩
  ·clear hE hS a w; rintro a w ⟨q70, rfl, hE, hS⟩
   refine W.seq (W.region ?_)
   refine vP hS hE (Gives.p hE rfl) rfl ?_; clear hE a; intro a hE
   refine vP hS hE (Gives.fld hE rfl fl25_2) rfl ?_; clear hE a; intro a hE
   refine vP hS hE (Gives.loadB hE 0 rfl rfl rfl ty3) rfl ?_; clear hE a; intro a hE
   obtain ⟨q91, hq92, hr⟩ := bindS hr
   refine WL.fnq hE (itoa_ok hS (TabG.mono (Sg.Le.refl _) hTab).tab hq92) (runs_plain rfl) bd20 rfl rfl rfl ?_
   clear hE hS; rintro e w ⟨rfl, hS⟩; refine ⟨_, rfl, ?_⟩; clear a; intro a hE
   obtain ⟨x93, hx94, hr⟩ := bindS hr
   refine vP hS hE (Gives.catS hE rfl rfl hx94) rfl ?_; clear hE a; intro a hE
   obtain ⟨x95, hx96, hr⟩ := bindS hr
   refine vP hS hE (Gives.catS hE rfl rfl hx96) rfl ?_; clear hE a; intro a hE
   obtain ⟨x97, hx98, hr⟩ := bindS hr
   refine vP hS hE (Gives.catS hE rfl rfl hx98) rfl ?_; clear hE a; intro a hE
   refine vP hS hE (Gives.p hE rfl) rfl ?_; clear hE a; intro a hE
   refine WL.nil ?_
   refine W.seq ?_
   refine W.seq (W.region ?_)
   refine vP hS hE (Gives.fld hE rfl fl25_3) rfl ?_; clear hE a; intro a hE
   refine vP hS hE (Gives.loadB hE 0 rfl rfl rfl ty23) rfl ?_; clear hE a; intro a hE
   refine vP hS hE (Gives.len hE rfl sl23) rfl ?_; clear hE a; intro a hE
   refine vP hS hE (Gives.p hE rfl) rfl ?_; clear hE a; intro a hE
   refine WL.nil ?_
   obtain ⟨q100, hq99, hr⟩ := bindS hr
   refine W.cut (fun a w => ∃ (q110 : ByteArray), ∃ (s108 : Sg), s.Le s108 ∧ q110 = q100 ∧ Rep a 69 [(3, .string q110)] ∧ St w s108 (pt b51 (.cells #[.bool x0.ByKm, .slice a0_0 x0.Bands.length c0_0, .int .i64 x0.Round, .slice a0_1 x0.Rules.length c0_1] 25 (0, 0)) :: R)) ?_ ?_
   ·refine W.block ?_
    refine W.loop (fun m a w => ∃ (rest103 : List FareRule) (k101 : Nat), ∃ (q110 : ByteArray), ∃ (s108 : Sg), rest103.length = m ∧ x0.Rules.drop k101 = rest103 ∧ s.Le s108 ∧ Fishref2TariffText.loop2 fu rest103 q110 = some q100 ∧ Rep a 69 [(3, .string q110), (38, .slice a0_1 x0.Rules.length c0_1), (39, .int .i64 ((x0.Rules).length : Int)), (40, .int .i64 ((k101 : Nat) : Int))] ∧ St w s108 (pt b51 (.cells #[.bool x0.ByKm, .slice a0_0 x0.Bands.length c0_0, .int .i64 x0.Round, .slice a0_1 x0.Rules.length c0_1] 25 (0, 0)) :: R)) (m := x0.Rules.length) ⟨x0.Rules, 0, x97, s, rfl, rfl, (Sg.Le.refl _), hq99, hE.pick _ ⟨rfl, rfl, rfl, rfl, trivial⟩, hS⟩ ?_
    clear hE hS a w hq99; rintro m107 a w ⟨rest103, k101, q110, s108, rfl, hd104, hle109, hq99, hE, hS⟩
    refine W.gen fun K111 hK111 => ?_
    replace h0_1 := Sl.mono RFareRule.mono hle109 h0_1
    replace h0_0 := Sl.mono RFareBand.mono hle109 h0_0
    rcases rest103 with _ | ⟨x102, rest103⟩
    ·have hlt105 := drop_nil hd104
     refine W.seq (W.region ?_)
     refine vP hS hE (Gives.p hE rfl) rfl ?_; clear hE a; intro a hE
     refine WL.nil ?_
     refine W.seq ?_
     refine W.condF hE rfl (decide_eq_false (by omega)) ?_
     subst hK111
     refine W.exit rfl ?_
     exact ⟨q110, s108, hle109, Option.some.inj hq99, hE.pick _ ⟨rfl, trivial⟩, hS⟩
    ·obtain ⟨hlt105, hx106, hd104⟩ := drop_cons hd104
     rw [Fishref2TariffText.loop2] at hq99
     refine W.seq (W.region ?_)
     refine vP hS hE (Gives.p hE rfl) rfl ?_; clear hE a; intro a hE
     refine WL.nil ?_
     refine W.seq ?_
     refine W.condT hE rfl (decide_eq_true (by omega)) ?_
     refine W.skip ?_
     refine W.seq ?_
     refine W.block ?_
     refine W.seq (W.region ?_)
     obtain ⟨cs112, hl113, hR114, hat115⟩ := h0_1.at hx106
     obtain ⟨a116, c117, rfl, h118⟩ := hR114
     refine vP hS hE (Gives.idx hE k101 rfl rfl sl23 rfl hlt105 (h0_1.aok hlt105)) rfl ?_; clear hE a; intro a hE
     refine vP hS hE (Gives.loadA hE rfl (fun w h => hat115 w _ h) ty45) rfl ?_; clear hE a; intro a hE
     refine WL.alloc hE hS (runs_plain rfl) zr45 rfl ?_; clear hE hS a w; intro b119 a w hE hS
     refine WL.storeI hE hS 0 rfl [.int .i64 x102.If.Kind, .int .i64 x102.If.A, .int .i64 x102.If.B, .slice a116 x102.If.Kids.length c117, .int .i64 x102.Do, .int .i64 x102.N, .bool x102.Stop] (runs_plain rfl) rfl rfl rfl ty45 rfl rfl rfl rfl ?_; clear hE hS a w; intro a w hE hS
     refine WL.nil ?_
     refine W.seq ?_
     refine W.gen fun K120 hK120 => ?_
     refine rE hS [] [] [0, 1, 2, 3, 4, 5, 6, 7, 8, 9, 10, 11, 12, 13, 14, 15, 16, 17] [0, 1, 2, 3, 4, 5, 6, 7, 8, 9, 10, 11, 12, 13, 14, 15, 16, 17] mixed ?_
     replace hS := hS.drew
     refine Rg.takeP (i := 0) hE rfl (by kernel_rfl) (runs_plain rfl) (Gives.p hE rfl) rfl (tw_sel (fun _ => hS) (fun _ => hS)) ?_; clear hE a; intro a hE
     refine Rg.takeP (i := 1) hE rfl (by kernel_rfl) (runs_plain rfl) (Gives.fld hE rfl fl45_0) rfl (tw_sel (fun _ => hS) (fun _ => hS)) ?_; clear hE a; intro a hE
     refine Rg.take (i := 2) true rfl hE rfl (by kernel_rfl) (runs_plain rfl) (Gives.loadA (cs := [.int .i64 x102.If.Kind, .int .i64 x102.If.A, .int .i64 x102.If.B, .slice a116 x102.If.Kids.length c117]) hE rfl (fun w h => (St.seesAt h 0 rfl).part 0 4) ty43) rfl (tw_sel (fun _ => hS) (fun _ => hS)) ?_; clear hE a; intro a hE
     refine Rg.takeP (i := 6) hE rfl (by kernel_rfl) (runs_plain rfl) (Gives.fld hE rfl fl45_1) rfl (tw_sel (fun _ => hS) (fun _ => hS)) ?_; clear hE a; intro a hE
     refine Rg.take (i := 7) true rfl hE rfl (by kernel_rfl) (runs_plain rfl) (Gives.loadB hE 0 rfl rfl rfl ty3) rfl (tw_sel (fun _ => hS) (fun _ => hS)) ?_; clear hE a; intro a hE
     refine Rg.takeP (i := 12) hE rfl (by kernel_rfl) (runs_plain rfl) (Gives.fld hE rfl fl45_2) rfl (tw_sel (fun _ => hS) (fun _ => hS)) ?_; clear hE a; intro a hE
     refine Rg.take (i := 13) true rfl hE rfl (by kernel_rfl) (runs_plain rfl) (Gives.loadB hE 0 rfl rfl rfl ty3) rfl (tw_sel (fun _ => hS) (fun _ => hS)) ?_; clear hE a; intro a hE
     obtain ⟨q121, hq122, hq99⟩ := bindS hq99
     obtain ⟨x123, hx124, hq99⟩ := bindS hq99
     obtain ⟨x131, hx132, hq99⟩ := bindS hq99
     obtain ⟨x140, hx141, hq99⟩ := bindS hq99
     obtain ⟨x142, hx143, hq99⟩ := bindS hq99
     obtain ⟨q144, hq145, hq99⟩ := bindS hq99
     obtain ⟨x146, hx147, hq99⟩ := bindS hq99
     obtain ⟨x148, hx149, hq99⟩ := bindS hq99
     suffices key : ∀ s128 (a : Act) (w : World), s108.Le s128 → Sl 7 RFareRule s128 a0_1 c0_1 x0.Rules → Sl 4 RFareCond s128 a116 c117 x102.If.Kids → Sl 2 RFareBand s128 a0_0 c0_0 x0.Bands → Rep a 69 [(3, .string x148), (7, .pointer (some ⟨b119, 0, none⟩)), (38, .slice a0_1 x0.Rules.length c0_1), (39, .int .i64 ((x0.Rules).length : Int)), (40, .int .i64 ((k101 : Nat) : Int))] → St w s128 (pt b119 (.cells #[.int .i64 x102.If.Kind, .int .i64 x102.If.A, .int .i64 x102.If.B, .slice a116 x102.If.Kids.length c117, .int .i64 x102.Do, .int .i64 x102.N, .bool x102.Stop] 45 (0, 0)) :: pt b51 (.cells #[.bool x0.ByKm, .slice a0_0 x0.Bands.length c0_0, .int .i64 x0.Round, .slice a0_1 x0.Rules.length c0_1] 25 (0, 0)) :: R) → K120.nor a w by
      refine Rg.many 3 [5] (by kernel_rfl) ⟨?_, ?_, trivial⟩
      ·refine Br.mk (i := 3) true true rfl (by kernel_rfl) (by kernel_rfl) ?_
       have hc_ := Fishref2CondText_ok hS (TabG.mono hle109 hTab) h118 hq122
       refine WL.fnq hE (hc_) (runs_plain rfl) bd21 rfl rfl rfl ?_
       clear hE hS hc_; rintro e w ⟨rfl, hS⟩; refine ⟨_, rfl, ?_⟩; clear a; intro a hE
       refine WL.nil ?_
       refine ⟨⟨fun _ => hS, fun _ => hS⟩, ?_⟩
       refine Rg.takeP (i := 4) hE rfl (by kernel_rfl) (runs_plain rfl) (Gives.catS hE rfl rfl hx124) rfl (tw_sel (fun _ => hS) (fun _ => hS)) ?_; clear hE a; intro a hE
       refine Rg.many 5 [14] (by kernel_rfl) ⟨?_, ?_, trivial⟩
       ·refine Br.mk (i := 5) true true rfl (by kernel_rfl) (by kernel_rfl) ?_
        refine WL.lit hE hS (e := 9) (es := 1) (vs := [(0, .string (str [])), (1, .string (str [112, 101, 114, 99, 101, 110, 116])), (2, .string (str [109, 105, 110, 117, 115])), (3, .string (str [112, 108, 117, 115])), (4, .string (str [102, 105, 120])), (5, .string (str [97, 116, 109, 111, 115, 116])), (6, .string (str [97, 116, 108, 101, 97, 115, 116]))]) (cs := [.string (str []), .string (str [112, 101, 114, 99, 101, 110, 116]), .string (str [109, 105, 110, 117, 115]), .string (str [112, 108, 117, 115]), .string (str [102, 105, 120]), .string (str [97, 116, 109, 111, 115, 116]), .string (str [97, 116, 108, 101, 97, 115, 116])]) (runs_plain rfl) rfl (by kernel_rfl) rfl ?_; clear hE hS a w; intro b125 a w hE hS
        replace hS := hS.ptVec (es := 1) (m := 7) rfl (by decide)
        have h127 : Ev 1 RS s108 [.string (str []), .string (str [112, 101, 114, 99, 101, 110, 116]), .string (str [109, 105, 110, 117, 115]), .string (str [112, 108, 117, 115]), .string (str [102, 105, 120]), .string (str [97, 116, 109, 111, 115, 116]), .string (str [97, 116, 108, 101, 97, 115, 116])] [(str []), (str [112, 101, 114, 99, 101, 110, 116]), (str [109, 105, 110, 117, 115]), (str [112, 108, 117, 115]), (str [102, 105, 120]), (str [97, 116, 109, 111, 115, 116]), (str [97, 116, 108, 101, 97, 115, 116])] := (Ev.cons (c1 := [.string (str [])]) rfl rfl (Ev.cons (c1 := [.string (str [112, 101, 114, 99, 101, 110, 116])]) rfl rfl (Ev.cons (c1 := [.string (str [109, 105, 110, 117, 115])]) rfl rfl (Ev.cons (c1 := [.string (str [112, 108, 117, 115])]) rfl rfl (Ev.cons (c1 := [.string (str [102, 105, 120])]) rfl rfl (Ev.cons (c1 := [.string (str [97, 116, 109, 111, 115, 116])]) rfl rfl (Ev.cons (c1 := [.string (str [97, 116, 108, 101, 97, 115, 116])]) rfl rfl (Ev.nil))))))))
        have hF := hS.fixD RS.mono 0 rfl h127 (rfl); clear hS; obtain ⟨s128, hle129, hS, h130⟩ := hF
        replace h0_1 := Sl.mono RFareRule.mono hle129 h0_1
        replace h118 := Sl.mono RFareCond.mono hle129 h118
        replace h0_0 := Sl.mono RFareBand.mono hle129 h0_0
        refine WL.nil ?_
        refine ⟨⟨fun _ => (St.down hle129 hS), fun _ => (St.down hle129 hS)⟩, ?_⟩
        obtain ⟨hi133, hlt134, hy135⟩ := gx_some hx132
        obtain ⟨cs136, hl137, hR138, hat139⟩ := h130.at hy135
        subst hR138
        refine Rg.takeP (i := 8) hE rfl (by kernel_rfl) (runs_plain rfl) (Gives.idx hE (x102.Do).toNat rfl rfl sl59 hi133 hlt134 (h130.aok hlt134)) rfl (tw_sel (fun _ => (St.down hle129 hS)) (fun _ => (St.down hle129 hS))) ?_; clear hE a; intro a hE
        refine Rg.many 9 [14] (by kernel_rfl) ⟨?_, ?_, trivial⟩
        ·refine Br.mk (i := 9) true true rfl (by kernel_rfl) (by kernel_rfl) ?_
         refine vP hS hE (Gives.load1 hE rfl (fun w h => hat139 w _ h) ty9) rfl ?_; clear hE a; intro a hE
         refine WL.nil ?_
         refine ⟨⟨fun _ => (St.down hle129 hS), fun _ => (St.down hle129 hS)⟩, ?_⟩
         refine Rg.takeP (i := 10) hE rfl (by kernel_rfl) (runs_plain rfl) (Gives.catS hE rfl rfl hx141) rfl (tw_sel (fun _ => (St.down hle129 hS)) (fun _ => (St.down hle129 hS))) ?_; clear hE a; intro a hE
         refine Rg.takeP (i := 11) hE rfl (by kernel_rfl) (runs_plain rfl) (Gives.catS hE rfl rfl hx143) rfl (tw_sel (fun _ => (St.down hle129 hS)) (fun _ => (St.down hle129 hS))) ?_; clear hE a; intro a hE
         refine Rg.one (i := 14) true true rfl (by kernel_rfl) (by kernel_rfl) (by kernel_rfl) ?_
         refine WL.fnq hE (itoa_ok hS (TabG.mono (Sg.Le.trans hle109 hle129) hTab).tab hq145) (runs_plain rfl) bd20 rfl rfl rfl ?_
         clear hE hS; rintro e w ⟨rfl, hS⟩; refine ⟨_, rfl, ?_⟩; clear a; intro a hE
         refine WL.nil ?_
         refine ⟨⟨fun _ => (St.down hle129 hS), fun _ => (St.down hle129 hS)⟩, ?_⟩
         refine Rg.takeP (i := 15) hE rfl (by kernel_rfl) (runs_plain rfl) (Gives.catS hE rfl rfl hx147) rfl (tw_sel (fun _ => (St.down hle129 hS)) (fun _ => (St.down hle129 hS))) ?_; clear hE a; intro a hE
         refine Rg.takeP (i := 16) hE rfl (by kernel_rfl) (runs_plain rfl) (Gives.catS hE rfl rfl hx149) rfl (tw_sel (fun _ => (St.down hle129 hS)) (fun _ => (St.down hle129 hS))) ?_; clear hE a; intro a hE
         refine Rg.takeP (i := 17) hE rfl (by kernel_rfl) (runs_plain rfl) (Gives.p hE rfl) rfl (tw_sel (fun _ => (St.down hle129 hS)) (fun _ => (St.down hle129 hS))) ?_; clear hE a; intro a hE
         refine Rg.done (by kernel_rfl) ?_
         exact key _ _ _ hle129 h0_1 h118 h0_0 (hE.pick _ ⟨rfl, rfl, rfl, rfl, rfl, trivial⟩) hS
        ·refine Br.mk (i := 14) true true rfl (by kernel_rfl) (by kernel_rfl) ?_
         refine WL.fnq hE (itoa_ok hS (TabG.mono (Sg.Le.trans hle109 hle129) hTab).tab hq145) (runs_plain rfl) bd20 rfl rfl rfl ?_
         clear hE hS; rintro e w ⟨rfl, hS⟩; refine ⟨_, rfl, ?_⟩; clear a; intro a hE
         refine WL.nil ?_
         refine ⟨⟨fun _ => (St.down hle129 hS), fun _ => (St.down hle129 hS)⟩, ?_⟩
         refine Rg.one (i := 9) true true rfl (by kernel_rfl) (by kernel_rfl) (by kernel_rfl) ?_
         refine vP hS hE (Gives.load1 hE rfl (fun w h => hat139 w _ h) ty9) rfl ?_; clear hE a; intro a hE
         refine WL.nil ?_
         refine ⟨⟨fun _ => (St.down hle129 hS), fun _ => (St.down hle129 hS)⟩, ?_⟩
         refine Rg.takeP (i := 10) hE rfl (by kernel_rfl) (runs_plain rfl) (Gives.catS hE rfl rfl hx141) rfl (tw_sel (fun _ => (St.down hle129 hS)) (fun _ => (St.down hle129 hS))) ?_; clear hE a; intro a hE
         refine Rg.takeP (i := 11) hE rfl (by kernel_rfl) (runs_plain rfl) (Gives.catS hE rfl rfl hx143) rfl (tw_sel (fun _ => (St.down hle129 hS)) (fun _ => (St.down hle129 hS))) ?_; clear hE a; intro a hE
         refine Rg.takeP (i := 15) hE rfl (by kernel_rfl) (runs_plain rfl) (Gives.catS hE rfl rfl hx147) rfl (tw_sel (fun _ => (St.down hle129 hS)) (fun _ => (St.down hle129 hS))) ?_; clear hE a; intro a hE
         refine Rg.takeP (i := 16) hE rfl (by kernel_rfl) (runs_plain rfl) (Gives.catS hE rfl rfl hx149) rfl (tw_sel (fun _ => (St.down hle129 hS)) (fun _ => (St.down hle129 hS))) ?_; clear hE a; intro a hE
         refine Rg.takeP (i := 17) hE rfl (by kernel_rfl) (runs_plain rfl) (Gives.p hE rfl) rfl (tw_sel (fun _ => (St.down hle129 hS)) (fun _ => (St.down hle129 hS))) ?_; clear hE a; intro a hE
         refine Rg.done (by kernel_rfl) ?_
         exact key _ _ _ hle129 h0_1 h118 h0_0 (hE.pick _ ⟨rfl, rfl, rfl, rfl, rfl, trivial⟩) hS
       ·refine Br.mk (i := 14) true true rfl (by kernel_rfl) (by kernel_rfl) ?_
        refine WL.fnq hE (itoa_ok hS (TabG.mono hle109 hTab).tab hq145) (runs_plain rfl) bd20 rfl rfl rfl ?_
        clear hE hS; rintro e w ⟨rfl, hS⟩; refine ⟨_, rfl, ?_⟩; clear a; intro a hE
        refine WL.nil ?_
        refine ⟨⟨fun _ => hS, fun _ => hS⟩, ?_⟩
        refine Rg.one (i := 5) true true rfl (by kernel_rfl) (by kernel_rfl) (by kernel_rfl) ?_
        refine WL.lit hE hS (e := 9) (es := 1) (vs := [(0, .string (str [])), (1, .string (str [112, 101, 114, 99, 101, 110, 116])), (2, .string (str [109, 105, 110, 117, 115])), (3, .string (str [112, 108, 117, 115])), (4, .string (str [102, 105, 120])), (5, .string (str [97, 116, 109, 111, 115, 116])), (6, .string (str [97, 116, 108, 101, 97, 115, 116]))]) (cs := [.string (str []), .string (str [112, 101, 114, 99, 101, 110, 116]), .string (str [109, 105, 110, 117, 115]), .string (str [112, 108, 117, 115]), .string (str [102, 105, 120]), .string (str [97, 116, 109, 111, 115, 116]), .string (str [97, 116, 108, 101, 97, 115, 116])]) (runs_plain rfl) rfl (by kernel_rfl) rfl ?_; clear hE hS a w; intro b125 a w hE hS
        replace hS := hS.ptVec (es := 1) (m := 7) rfl (by decide)
        have h127 : Ev 1 RS s108 [.string (str []), .string (str [112, 101, 114, 99, 101, 110, 116]), .string (str [109, 105, 110, 117, 115]), .string (str [112, 108, 117, 115]), .string (str [102, 105, 120]), .string (str [97, 116, 109, 111, 115, 116]), .string (str [97, 116, 108, 101, 97, 115, 116])] [(str []), (str [112, 101, 114, 99, 101, 110, 116]), (str [109, 105, 110, 117, 115]), (str [112, 108, 117, 115]), (str [102, 105, 120]), (str [97, 116, 109, 111, 115, 116]), (str [97, 116, 108, 101, 97, 115, 116])] := (Ev.cons (c1 := [.string (str [])]) rfl rfl (Ev.cons (c1 := [.string (str [112, 101, 114, 99, 101, 110, 116])]) rfl rfl (Ev.cons (c1 := [.string (str [109, 105, 110, 117, 115])]) rfl rfl (Ev.cons (c1 := [.string (str [112, 108, 117, 115])]) rfl rfl (Ev.cons (c1 := [.string (str [102, 105, 120])]) rfl rfl (Ev.cons (c1 := [.string (str [97, 116, 109, 111, 115, 116])]) rfl rfl (Ev.cons (c1 := [.string (str [97, 116, 108, 101, 97, 115, 116])]) rfl rfl (Ev.nil))))))))
        have hF := hS.fixD RS.mono 0 rfl h127 (rfl); clear hS; obtain ⟨s128, hle129, hS, h130⟩ := hF
        replace h0_1 := Sl.mono RFareRule.mono hle129 h0_1
        replace h118 := Sl.mono RFareCond.mono hle129 h118
        replace h0_0 := Sl.mono RFareBand.mono hle129 h0_0
        refine WL.nil ?_
        refine ⟨⟨fun _ => (St.down hle129 hS), fun _ => (St.down hle129 hS)⟩, ?_⟩
        obtain ⟨hi133, hlt134, hy135⟩ := gx_some hx132
        obtain ⟨cs136, hl137, hR138, hat139⟩ := h130.at hy135
        subst hR138
        refine Rg.takeP (i := 8) hE rfl (by kernel_rfl) (runs_plain rfl) (Gives.idx hE (x102.Do).toNat rfl rfl sl59 hi133 hlt134 (h130.aok hlt134)) rfl (tw_sel (fun _ => (St.down hle129 hS)) (fun _ => (St.down hle129 hS))) ?_; clear hE a; intro a hE
        refine Rg.one (i := 9) true true rfl (by kernel_rfl) (by kernel_rfl) (by kernel_rfl) ?_
        refine vP hS hE (Gives.load1 hE rfl (fun w h => hat139 w _ h) ty9) rfl ?_; clear hE a; intro a hE
        refine WL.nil ?_
        refine ⟨⟨fun _ => (St.down hle129 hS), fun _ => (St.down hle129 hS)⟩, ?_⟩
        refine Rg.takeP (i := 10) hE rfl (by kernel_rfl) (runs_plain rfl) (Gives.catS hE rfl rfl hx141) rfl (tw_sel (fun _ => (St.down hle129 hS)) (fun _ => (St.down hle129 hS))) ?_; clear hE a; intro a hE
        refine Rg.takeP (i := 11) hE rfl (by kernel_rfl) (runs_plain rfl) (Gives.catS hE rfl rfl hx143) rfl (tw_sel (fun _ => (St.down hle129 hS)) (fun _ => (St.down hle129 hS))) ?_; clear hE a; intro a hE
        refine Rg.takeP (i := 15) hE rfl (by kernel_rfl) (runs_plain rfl) (Gives.catS hE rfl rfl hx147) rfl (tw_sel (fun _ => (St.down hle129 hS)) (fun _ => (St.down hle129 hS))) ?_; clear hE a; intro a hE
        refine Rg.takeP (i := 16) hE rfl (by kernel_rfl) (runs_plain rfl) (Gives.catS hE rfl rfl hx149) rfl (tw_sel (fun _ => (St.down hle129 hS)) (fun _ => (St.down hle129 hS))) ?_; clear hE a; intro a hE
        refine Rg.takeP (i := 17) hE rfl (by kernel_rfl) (runs_plain rfl) (Gives.p hE rfl) rfl (tw_sel (fun _ => (St.down hle129 hS)) (fun _ => (St.down hle129 hS))) ?_; clear hE a; intro a hE
        refine Rg.done (by kernel_rfl) ?_
        exact key _ _ _ hle129 h0_1 h118 h0_0 (hE.pick _ ⟨rfl, rfl, rfl, rfl, rfl, trivial⟩) hS
      ·refine Br.mk (i := 5) true true rfl (by kernel_rfl) (by kernel_rfl) ?_
       refine WL.lit hE hS (e := 9) (es := 1) (vs := [(0, .string (str [])), (1, .string (str [112, 101, 114, 99, 101, 110, 116])), (2, .string (str [109, 105, 110, 117, 115])), (3, .string (str [112, 108, 117, 115])), (4, .string (str [102, 105, 120])), (5, .string (str [97, 116, 109, 111, 115, 116])), (6, .string (str [97, 116, 108, 101, 97, 115, 116]))]) (cs := [.string (str []), .string (str [112, 101, 114, 99, 101, 110, 116]), .string (str [109, 105, 110, 117, 115]), .string (str [112, 108, 117, 115]), .string (str [102, 105, 120]), .string (str [97, 116, 109, 111, 115, 116]), .string (str [97, 116, 108, 101, 97, 115, 116])]) (runs_plain rfl) rfl (by kernel_rfl) rfl ?_; clear hE hS a w; intro b125 a w hE hS
       replace hS := hS.ptVec (es := 1) (m := 7) rfl (by decide)
       have h127 : Ev 1 RS s108 [.string (str []), .string (str [112, 101, 114, 99, 101, 110, 116]), .string (str [109, 105, 110, 117, 115]), .string (str [112, 108, 117, 115]), .string (str [102, 105, 120]), .string (str [97, 116, 109, 111, 115, 116]), .string (str [97, 116, 108, 101, 97, 115, 116])] [(str []), (str [112, 101, 114, 99, 101, 110, 116]), (str [109, 105, 110, 117, 115]), (str [112, 108, 117, 115]), (str [102, 105, 120]), (str [97, 116, 109, 111, 115, 116]), (str [97, 116, 108, 101, 97, 115, 116])] := (Ev.cons (c1 := [.string (str [])]) rfl rfl (Ev.cons (c1 := [.string (str [112, 101, 114, 99, 101, 110, 116])]) rfl rfl (Ev.cons (c1 := [.string (str [109, 105, 110, 117, 115])]) rfl rfl (Ev.cons (c1 := [.string (str [112, 108, 117, 115])]) rfl rfl (Ev.cons (c1 := [.string (str [102, 105, 120])]) rfl rfl (Ev.cons (c1 := [.string (str [97, 116, 109, 111, 115, 116])]) rfl rfl (Ev.cons (c1 := [.string (str [97, 116, 108, 101, 97, 115, 116])]) rfl rfl (Ev.nil))))))))
       have hF := hS.fixD RS.mono 0 rfl h127 (rfl); clear hS; obtain ⟨s128, hle129, hS, h130⟩ := hF
       replace h0_1 := Sl.mono RFareRule.mono hle129 h0_1
       replace h118 := Sl.mono RFareCond.mono hle129 h118
       replace h0_0 := Sl.mono RFareBand.mono hle129 h0_0
       refine WL.nil ?_
       refine ⟨⟨fun _ => (St.down hle129 hS), fun _ => (St.down hle129 hS)⟩, ?_⟩
       obtain ⟨hi133, hlt134, hy135⟩ := gx_some hx132
       obtain ⟨cs136, hl137, hR138, hat139⟩ := h130.at hy135
       subst hR138
       refine Rg.takeP (i := 8) hE rfl (by kernel_rfl) (runs_plain rfl) (Gives.idx hE (x102.Do).toNat rfl rfl sl59 hi133 hlt134 (h130.aok hlt134)) rfl (tw_sel (fun _ => (St.down hle129 hS)) (fun _ => (St.down hle129 hS))) ?_; clear hE a; intro a hE
       refine Rg.many 3 [9] (by kernel_rfl) ⟨?_, ?_, trivial⟩
       ·refine Br.mk (i := 3) true true rfl (by kernel_rfl) (by kernel_rfl) ?_
        have hc_ := Fishref2CondText_ok hS (TabG.mono (Sg.Le.trans hle109 hle129) hTab) h118 hq122
        refine WL.fnq hE (hc_) (runs_plain rfl) bd21 rfl rfl rfl ?_
        clear hE hS hc_; rintro e w ⟨rfl, hS⟩; refine ⟨_, rfl, ?_⟩; clear a; intro a hE
        refine WL.nil ?_
        refine ⟨⟨fun _ => (St.down hle129 hS), fun _ => (St.down hle129 hS)⟩, ?_⟩
        refine Rg.takeP (i := 4) hE rfl (by kernel_rfl) (runs_plain rfl) (Gives.catS hE rfl rfl hx124) rfl (tw_sel (fun _ => (St.down hle129 hS)) (fun _ => (St.down hle129 hS))) ?_; clear hE a; intro a hE
        refine Rg.many 9 [14] (by kernel_rfl) ⟨?_, ?_, trivial⟩
        ·refine Br.mk (i := 9) true true rfl (by kernel_rfl) (by kernel_rfl) ?_
         refine vP hS hE (Gives.load1 hE rfl (fun w h => hat139 w _ h) ty9) rfl ?_; clear hE a; intro a hE
         refine WL.nil ?_
         refine ⟨⟨fun _ => (St.down hle129 hS), fun _ => (St.down hle129 hS)⟩, ?_⟩
         refine Rg.takeP (i := 10) hE rfl (by kernel_rfl) (runs_plain rfl) (Gives.catS hE rfl rfl hx141) rfl (tw_sel (fun _ => (St.down hle129 hS)) (fun _ => (St.down hle129 hS))) ?_; clear hE a; intro a hE
         refine Rg.takeP (i := 11) hE rfl (by kernel_rfl) (runs_plain rfl) (Gives.catS hE rfl rfl hx143) rfl (tw_sel (fun _ => (St.down hle129 hS)) (fun _ => (St.down hle129 hS))) ?_; clear hE a; intro a hE
         refine Rg.one (i := 14) true true rfl (by kernel_rfl) (by kernel_rfl) (by kernel_rfl) ?_
         refine WL.fnq hE (itoa_ok hS (TabG.mono (Sg.Le.trans hle109 hle129) hTab).tab hq145) (runs_plain rfl) bd20 rfl rfl rfl ?_
         clear hE hS; rintro e w ⟨rfl, hS⟩; refine ⟨_, rfl, ?_⟩; clear a; intro a hE
         refine WL.nil ?_
         refine ⟨⟨fun _ => (St.down hle129 hS), fun _ => (St.down hle129 hS)⟩, ?_⟩
         refine Rg.takeP (i := 15) hE rfl (by kernel_rfl) (runs_plain rfl) (Gives.catS hE rfl rfl hx147) rfl (tw_sel (fun _ => (St.down hle129 hS)) (fun _ => (St.down hle129 hS))) ?_; clear hE a; intro a hE
         refine Rg.takeP (i := 16) hE rfl (by kernel_rfl) (runs_plain rfl) (Gives.catS hE rfl rfl hx149) rfl (tw_sel (fun _ => (St.down hle129 hS)) (fun _ => (St.down hle129 hS))) ?_; clear hE a; intro a hE
         refine Rg.takeP (i := 17) hE rfl (by kernel_rfl) (runs_plain rfl) (Gives.p hE rfl) rfl (tw_sel (fun _ => (St.down hle129 hS)) (fun _ => (St.down hle129 hS))) ?_; clear hE a; intro a hE
         refine Rg.done (by kernel_rfl) ?_
         exact key _ _ _ hle129 h0_1 h118 h0_0 (hE.pick _ ⟨rfl, rfl, rfl, rfl, rfl, trivial⟩) hS
        ·refine Br.mk (i := 14) true true rfl (by kernel_rfl) (by kernel_rfl) ?_
         refine WL.fnq hE (itoa_ok hS (TabG.mono (Sg.Le.trans hle109 hle129) hTab).tab hq145) (runs_plain rfl) bd20 rfl rfl rfl ?_
         clear hE hS; rintro e w ⟨rfl, hS⟩; refine ⟨_, rfl, ?_⟩; clear a; intro a hE
         refine WL.nil ?_
         refine ⟨⟨fun _ => (St.down hle129 hS), fun _ => (St.down hle129 hS)⟩, ?_⟩
         refine Rg.one (i := 9) true true rfl (by kernel_rfl) (by kernel_rfl) (by kernel_rfl) ?_
         refine vP hS hE (Gives.load1 hE rfl (fun w h => hat139 w _ h) ty9) rfl ?_; clear hE a; intro a hE
         refine WL.nil ?_
         refine ⟨⟨fun _ => (St.down hle129 hS), fun _ => (St.down hle129 hS)⟩, ?_⟩
         refine Rg.takeP (i := 10) hE rfl (by kernel_rfl) (runs_plain rfl) (Gives.catS hE rfl rfl hx141) rfl (tw_sel (fun _ => (St.down hle129 hS)) (fun _ => (St.down hle129 hS))) ?_; clear hE a; intro a hE
         refine Rg.takeP (i := 11) hE rfl (by kernel_rfl) (runs_plain rfl) (Gives.catS hE rfl rfl hx143) rfl (tw_sel (fun _ => (St.down hle129 hS)) (fun _ => (St.down hle129 hS))) ?_; clear hE a; intro a hE
         refine Rg.takeP (i := 15) hE rfl (by kernel_rfl) (runs_plain rfl) (Gives.catS hE rfl rfl hx147) rfl (tw_sel (fun _ => (St.down hle129 hS)) (fun _ => (St.down hle129 hS))) ?_; clear hE a; intro a hE
         refine Rg.takeP (i := 16) hE rfl (by kernel_rfl) (runs_plain rfl) (Gives.catS hE rfl rfl hx149) rfl (tw_sel (fun _ => (St.down hle129 hS)) (fun _ => (St.down hle129 hS))) ?_; clear hE a; intro a hE
         refine Rg.takeP (i := 17) hE rfl (by kernel_rfl) (runs_plain rfl) (Gives.p hE rfl) rfl (tw_sel (fun _ => (St.down hle129 hS)) (fun _ => (St.down hle129 hS))) ?_; clear hE a; intro a hE
         refine Rg.done (by kernel_rfl) ?_
         exact key _ _ _ hle129 h0_1 h118 h0_0 (hE.pick _ ⟨rfl, rfl, rfl, rfl, rfl, trivial⟩) hS
       ·refine Br.mk (i := 9) true true rfl (by kernel_rfl) (by kernel_rfl) ?_
        refine vP hS hE (Gives.load1 hE rfl (fun w h => hat139 w _ h) ty9) rfl ?_; clear hE a; intro a hE
        refine WL.nil ?_
        refine ⟨⟨fun _ => (St.down hle129 hS), fun _ => (St.down hle129 hS)⟩, ?_⟩
        refine Rg.one (i := 3) true true rfl (by kernel_rfl) (by kernel_rfl) (by kernel_rfl) ?_
        have hc_ := Fishref2CondText_ok hS (TabG.mono (Sg.Le.trans hle109 hle129) hTab) h118 hq122
        refine WL.fnq hE (hc_) (runs_plain rfl) bd21 rfl rfl rfl ?_
        clear hE hS hc_; rintro e w ⟨rfl, hS⟩; refine ⟨_, rfl, ?_⟩; clear a; intro a hE
        refine WL.nil ?_
        refine ⟨⟨fun _ => (St.down hle129 hS), fun _ => (St.down hle129 hS)⟩, ?_⟩
        refine Rg.takeP (i := 4) hE rfl (by kernel_rfl) (runs_plain rfl) (Gives.catS hE rfl rfl hx124) rfl (tw_sel (fun _ => (St.down hle129 hS)) (fun _ => (St.down hle129 hS))) ?_; clear hE a; intro a hE
        refine Rg.takeP (i := 10) hE rfl (by kernel_rfl) (runs_plain rfl) (Gives.catS hE rfl rfl hx141) rfl (tw_sel (fun _ => (St.down hle129 hS)) (fun _ => (St.down hle129 hS))) ?_; clear hE a; intro a hE
        refine Rg.takeP (i := 11) hE rfl (by kernel_rfl) (runs_plain rfl) (Gives.catS hE rfl rfl hx143) rfl (tw_sel (fun _ => (St.down hle129 hS)) (fun _ => (St.down hle129 hS))) ?_; clear hE a; intro a hE
        refine Rg.one (i := 14) true true rfl (by kernel_rfl) (by kernel_rfl) (by kernel_rfl) ?_
        refine WL.fnq hE (itoa_ok hS (TabG.mono (Sg.Le.trans hle109 hle129) hTab).tab hq145) (runs_plain rfl) bd20 rfl rfl rfl ?_
        clear hE hS; rintro e w ⟨rfl, hS⟩; refine ⟨_, rfl, ?_⟩; clear a; intro a hE
        refine WL.nil ?_
        refine ⟨⟨fun _ => (St.down hle129 hS), fun _ => (St.down hle129 hS)⟩, ?_⟩
        refine Rg.takeP (i := 15) hE rfl (by kernel_rfl) (runs_plain rfl) (Gives.catS hE rfl rfl hx147) rfl (tw_sel (fun _ => (St.down hle129 hS)) (fun _ => (St.down hle129 hS))) ?_; clear hE a; intro a hE
        refine Rg.takeP (i := 16) hE rfl (by kernel_rfl) (runs_plain rfl) (Gives.catS hE rfl rfl hx149) rfl (tw_sel (fun _ => (St.down hle129 hS)) (fun _ => (St.down hle129 hS))) ?_; clear hE a; intro a hE
        refine Rg.takeP (i := 17) hE rfl (by kernel_rfl) (runs_plain rfl) (Gives.p hE rfl) rfl (tw_sel (fun _ => (St.down hle129 hS)) (fun _ => (St.down hle129 hS))) ?_; clear hE a; intro a hE
        refine Rg.done (by kernel_rfl) ?_
        exact key _ _ _ hle129 h0_1 h118 h0_0 (hE.pick _ ⟨rfl, rfl, rfl, rfl, rfl, trivial⟩) hS
     clear hE hS a w; intro s128 a w hle150 h0_1 h118 h0_0 hE hS
     subst hK120
     refine W.seq ?_
     refine W.seq (W.region ?_)
     refine vP hS hE (Gives.fld hE rfl fl45_3) rfl ?_; clear hE a; intro a hE
     refine vP hS hE (Gives.loadB hE 0 rfl rfl rfl ty4) rfl ?_; clear hE a; intro a hE
     refine WL.nil ?_
     obtain ⟨q152, hq151, hq99⟩ := bindS hq99
     refine W.cut (fun a w => ∃ (q155 : ByteArray), q155 = q152 ∧ Rep a 69 [(3, .string q155), (38, .slice a0_1 x0.Rules.length c0_1), (39, .int .i64 ((x0.Rules).length : Int)), (40, .int .i64 ((k101 : Nat) : Int))] ∧ St w s128 (pt b119 (.cells #[.int .i64 x102.If.Kind, .int .i64 x102.If.A, .int .i64 x102.If.B, .slice a116 x102.If.Kids.length c117, .int .i64 x102.Do, .int .i64 x102.N, .bool x102.Stop] 45 (0, 0)) :: pt b51 (.cells #[.bool x0.ByKm, .slice a0_0 x0.Bands.length c0_0, .int .i64 x0.Round, .slice a0_1 x0.Rules.length c0_1] 25 (0, 0)) :: R)) ?_ ?_
     ·refine W.gen fun K156 hK156 => ?_
      refine W.cond hE rfl (fun hc157 => ?_) (fun hc157 => ?_)
      ·replace hq151 := iteT hc157 hq151
       refine W.region ?_
       refine vP hS hE (Gives.p hE rfl) rfl ?_; clear hE a; intro a hE
       obtain ⟨x158, hx159, hq151⟩ := bindS hq151
       refine vP hS hE (Gives.catS hE rfl rfl hx159) rfl ?_; clear hE a; intro a hE
       refine vP hS hE (Gives.p hE rfl) rfl ?_; clear hE a; intro a hE
       refine WL.nil ?_
       subst hK156
       exact ⟨x158, Option.some.inj hq151, hE.pick _ ⟨rfl, rfl, rfl, rfl, trivial⟩, hS⟩
      ·replace hq151 := iteF hc157 hq151
       refine W.skip ?_
       subst hK156
       exact ⟨x148, Option.some.inj hq151, hE.pick _ ⟨rfl, rfl, rfl, rfl, trivial⟩, hS⟩
     ·clear hE hS a w; rintro a w ⟨q155, rfl, hE, hS⟩
      refine W.region ?_
      refine vP hS hE (Gives.p hE rfl) rfl ?_; clear hE a; intro a hE
      obtain ⟨x160, hx161, hq99⟩ := bindS hq99
      refine vP hS hE (Gives.catS hE rfl rfl hx161) rfl ?_; clear hE a; intro a hE
      refine vP hS hE (Gives.p hE rfl) rfl ?_; clear hE a; intro a hE
      refine WL.nil ?_
      refine W.region ?_
      refine vP hS hE (Gives.inc hE rfl (by have := h0_1.small; omega)) rfl ?_; clear hE a; intro a hE
      refine vP hS hE (Gives.p hE rfl) rfl ?_; clear hE a; intro a hE
      refine WL.nil ?_
      replace hS := hS.tail
      subst hK111
      exact ⟨rest103.length, Nat.lt_succ_self _, rest103, k101 + 1, x160, s128, rfl, hd104, (Sg.Le.trans hle109 hle150), hq99, hE.pick _ ⟨rfl, rfl, rfl, rfl, trivial⟩, hS⟩
   ·clear hE hS a w; rintro a w ⟨q110, s108, hle109, rfl, hE, hS⟩
    replace h0_1 := Sl.mono RFareRule.mono hle109 h0_1
    replace h0_0 := Sl.mono RFareBand.mono hle109 h0_0
    refine W.seq (W.region ?_)
    refine vP hS hE (Gives.p hE rfl) rfl ?_; clear hE a; intro a hE
    refine vP hS hE (Gives.p hE rfl) rfl ?_; clear hE a; intro a hE
    refine WL.nil ?_
    refine W.ret ?_
    refine finG (fn := Tryz.f9) (rs := [.tmp 2]) (vs := [_]) hE rfl ⟨rfl, trivial⟩ ?_
    obtain rfl := Option.some.inj hr
    replace hS := hS.tail
    exact ⟨rfl, (hS.down hle109)⟩
set_option maxHeartbeats 8000000 in
theorem SlicesEqualLfareBand_ok  {w : World} {s : Sg} {R : List HP} {x0 : List FareBand} {a0 : Option Addr} {c0 : Nat} {x1 : List FareBand} {a1 : Option Addr} {c1 : Nat} (hS : St w s (R)) (h0 : Sl 2 RFareBand s a0 c0 x0) (h1 : Sl 2 RFareBand s a1 c1 x1) {r : Bool} (hr : SlicesEqualLfareBand x0 x1 = some r) :
  Calls Tryz.prog 24 [.slice a0 x0.length c0, .slice a1 x1.length c1].toArray w (fun e w => e = .returned (.bool r) ∧ St w s (R)) := by
 refine enter Tryz.func24 rfl rfl rfl fun a hE => ?_
 rw [SlicesEqualLfareBand] at hr
 refine W.seq (W.region ?_)
 refine vP hS hE (Gives.p hE rfl) rfl ?_; clear hE a; intro a hE
 refine WL.nil ?_
 refine W.seq ?_
 refine W.seq (W.region ?_)
 refine vP hS hE (Gives.p hE rfl) rfl ?_; clear hE a; intro a hE
 refine vP hS hE (Gives.len hE rfl sl22) rfl ?_; clear hE a; intro a hE
 refine vP hS hE (Gives.p hE rfl) rfl ?_; clear hE a; intro a hE
 refine vP hS hE (Gives.len hE rfl sl22) rfl ?_; clear hE a; intro a hE
 refine vP hS hE (Gives.p hE rfl) rfl ?_; clear hE a; intro a hE
 refine WL.nil ?_
 refine W.cond hE rfl (fun hc51 => ?_) (fun hc51 => ?_)
 ·replace hr := iteT hc51 hr
  refine W.seq (W.region ?_)
  refine vP hS hE (Gives.p hE rfl) rfl ?_; clear hE a; intro a hE
  refine WL.nil ?_
  refine W.ret ?_
  refine finG (fn := Tryz.f24) (rs := [.tmp 4]) (vs := [_]) hE rfl ⟨rfl, trivial⟩ ?_
  obtain rfl := Option.some.inj hr
  exact ⟨rfl, hS⟩
 ·replace hr := iteF hc51 hr
  refine W.skip ?_
  refine W.seq ?_
  refine W.seq (W.region ?_)
  refine vP hS hE (Gives.p hE rfl) rfl ?_; clear hE a; intro a hE
  refine vP hS hE (Gives.len hE rfl sl22) rfl ?_; clear hE a; intro a hE
  refine vP hS hE (Gives.p hE rfl) rfl ?_; clear hE a; intro a hE
  refine WL.nil ?_
  obtain ⟨q53, hq52, hr⟩ := bindS hr
  refine W.cut (fun a w => (.next ()) = q53 ∧ Rep a 26 [] ∧ St w s (R)) ?_ ?_
  ·refine W.block ?_
   refine W.loop (fun m a w => ∃ (rest56 : List FareBand) (k54 : Nat), rest56.length = m ∧ x0.drop k54 = rest56 ∧ SlicesEqualLfareBand.loop1 x1 rest56 k54 = some q53 ∧ Rep a 26 [(0, .slice a0 x0.length c0), (1, .slice a1 x1.length c1), (12, .int .i64 ((x0).length : Int)), (13, .int .i64 ((k54 : Nat) : Int))] ∧ St w s (R)) (m := x0.length) ⟨x0, 0, rfl, rfl, hq52, hE.pick _ ⟨rfl, rfl, rfl, rfl, trivial⟩, hS⟩ ?_
   clear hE hS a w hq52; rintro m60 a w ⟨rest56, k54, rfl, hd57, hq52, hE, hS⟩
   refine W.gen fun K63 hK63 => ?_
   rcases rest56 with _ | ⟨x55, rest56⟩
   ·have hlt58 := drop_nil hd57
    refine W.seq (W.region ?_)
    refine vP hS hE (Gives.p hE rfl) rfl ?_; clear hE a; intro a hE
    refine WL.nil ?_
    refine W.seq ?_
    refine W.condF hE rfl (decide_eq_false (by omega)) ?_
    subst hK63
    refine W.exit rfl ?_
    exact ⟨Option.some.inj hq52, hE.pick _ trivial, hS⟩
   ·obtain ⟨hlt58, hx59, hd57⟩ := drop_cons hd57
    rw [SlicesEqualLfareBand.loop1] at hq52
    refine W.seq (W.region ?_)
    refine vP hS hE (Gives.p hE rfl) rfl ?_; clear hE a; intro a hE
    refine WL.nil ?_
    refine W.seq ?_
    refine W.condT hE rfl (decide_eq_true (by omega)) ?_
    refine W.skip ?_
    refine W.seq ?_
    refine W.block ?_
    refine W.seq (W.region ?_)
    refine vP hS hE (Gives.p hE rfl) rfl ?_; clear hE a; intro a hE
    refine vP hS hE (Gives.p hE rfl) rfl ?_; clear hE a; intro a hE
    refine WL.nil ?_
    refine W.seq ?_
    refine W.regionQ (C := fun w => St w s (R)) mixed (by kernel_rfl) hS.drew ?_
    refine qP hE (Gives.p hE rfl) rfl ?_; clear hE a; intro a hE
    refine qP hE (Gives.p hE rfl) rfl ?_; clear hE a; intro a hE
    obtain ⟨cs64, hl65, hR66, hat67⟩ := h0.at hx59
    subst hR66
    refine qP hE (Gives.idx hE k54 rfl rfl sl22 rfl hlt58 (h0.aok hlt58)) rfl ?_; clear hE a; intro a hE
    refine qP hE (Gives.loadA hE rfl (fun w h => hat67 w _ h) ty40) rfl ?_; clear hE a; intro a hE
    refine qP hE (Gives.p hE rfl) rfl ?_; clear hE a; intro a hE
    refine qP hE (Gives.p hE rfl) rfl ?_; clear hE a; intro a hE
    obtain ⟨x68, hx69, hq52⟩ := bindS hq52
    obtain ⟨hi70, hlt71, hy72⟩ := gx_some hx69
    obtain ⟨cs73, hl74, hR75, hat76⟩ := h1.at hy72
    subst hR75
    refine qP hE (Gives.idx hE (((k54 : Nat) : Int)).toNat rfl rfl sl22 hi70 hlt71 (h1.aok hlt71)) rfl ?_; clear hE a; intro a hE
    refine qP hE (Gives.loadA hE rfl (fun w h => hat76 w _ h) ty40) rfl ?_; clear hE a; intro a hE
    refine qP hE (show Gives _ _ _ _ (Value.bool (!((x55.Upto == x68.Upto) && (x55.Price == x68.Price)))) from Gives.neS hE [.i .i64, .i .i64] [.i .i64 x55.Upto, .i .i64 x55.Price] [.i .i64 x68.Upto, .i .i64 x68.Price] rfl rfl se40 rfl rfl rfl rfl) rfl ?_; clear hE a; intro a hE
    refine QL.nil ?_; clear hS w; intro w hS
    refine W.cond hE rfl (fun hc77 => ?_) (fun hc77 => ?_)
    ·replace hq52 := iteT hc77 hq52
     refine W.seq (W.region ?_)
     refine vP hS hE (Gives.p hE rfl) rfl ?_; clear hE a; intro a hE
     refine WL.nil ?_
     refine W.ret ?_
     subst hK63
     rw [← Option.some.inj hq52] at hr
     dsimp only at hr
     refine finG (fn := Tryz.f24) (rs := [.tmp 4]) (vs := [_]) hE rfl ⟨rfl, trivial⟩ ?_
     obtain rfl := Option.some.inj hr
     exact ⟨rfl, hS⟩
    ·replace hq52 := iteF hc77 hq52
     refine W.skip ?_
     refine W.region ?_
     refine vP hS hE (Gives.inc hE rfl (by have := h0.small; omega)) rfl ?_; clear hE a; intro a hE
     refine vP hS hE (Gives.p hE rfl) rfl ?_; clear hE a; intro a hE
     refine WL.nil ?_
     subst hK63
     exact ⟨rest56.length, Nat.lt_succ_self _, rest56, k54 + 1, rfl, hd57, hq52, hE.pick _ ⟨rfl, rfl, rfl, rfl, trivial⟩, hS⟩
  ·clear hE hS a w; rintro a w ⟨rfl, hE, hS⟩
   dsimp only at hr
   refine W.seq (W.region ?_)
   refine vP hS hE (Gives.p hE rfl) rfl ?_; clear hE a; intro a hE
   refine WL.nil ?_
   refine W.ret ?_
   refine finG (fn := Tryz.f24) (rs := [.tmp 4]) (vs := [_]) hE rfl ⟨rfl, trivial⟩ ?_
   obtain rfl := Option.some.inj hr
   exact ⟨rfl, hS⟩
set_option maxHeartbeats 8000000 in
theorem SlicesEqualFuncLfareCond_v2_ok  {self_Fishref2SameCond : FareCond → FareCond → Option Bool} (ih_Fishref2SameCond : ∀ {w : World} {s : Sg} {R : List HP} {x0 : FareCond} {a0_0 : Option Addr} {c0_0 : Nat} {x1 : FareCond} {a1_0 : Option Addr} {c1_0 : Nat} (_hS : St w s (R)) (_h0_0 : Sl 4 RFareCond s a0_0 c0_0 x0.Kids) (_h1_0 : Sl 4 RFareCond s a1_0 c1_0 x1.Kids) {r : Bool} (_hr : self_Fishref2SameCond x0 x1 = some r), Calls Tryz.prog 23 [.agg (List.toArray [.int .i64 x0.Kind, .int .i64 x0.A, .int .i64 x0.B, .slice a0_0 x0.Kids.length c0_0]), .agg (List.toArray [.int .i64 x1.Kind, .int .i64 x1.A, .int .i64 x1.B, .slice a1_0 x1.Kids.length c1_0])].toArray w (fun e w => e = .returned (.bool r) ∧ St w s (R))) {w : World} {s : Sg} {R : List HP} {x0 : List FareCond} {a0 : Option Addr} {c0 : Nat} {x1 : List FareCond} {a1 : Option Addr} {c1 : Nat} (hS : St w s (R)) (h0 : Sl 4 RFareCond s a0 c0 x0) (h1 : Sl 4 RFareCond s a1 c1 x1) {r : Bool} (hr : SlicesEqualFuncLfareCond_v2 self_Fishref2SameCond x0 x1 = some r) :
  Calls Tryz.prog 48 [.slice a0 x0.length c0, .slice a1 x1.length c1, .func (.func 23) #[] #[]].toArray w (fun e w => e = .returned (.bool r) ∧ St w s (R)) := by
 refine enter Tryz.func48 rfl rfl rfl fun a hE => ?_
 rw [SlicesEqualFuncLfareCond_v2] at hr
 refine W.seq (W.region ?_)
 refine vP hS hE (Gives.p hE rfl) rfl ?_; clear hE a; intro a hE
 refine WL.nil ?_
 refine W.seq ?_
 refine W.seq (W.region ?_)
 refine vP hS hE (Gives.p hE rfl) rfl ?_; clear hE a; intro a hE
 refine vP hS hE (Gives.len hE rfl sl41) rfl ?_; clear hE a; intro a hE
 refine vP hS hE (Gives.p hE rfl) rfl ?_; clear hE a; intro a hE
 refine vP hS hE (Gives.len hE rfl sl41) rfl ?_; clear hE a; intro a hE
 refine vP hS hE (Gives.p hE rfl) rfl ?_; clear hE a; intro a hE
 refine WL.nil ?_
 refine W.cond hE rfl (fun hc51 => ?_) (fun hc51 => ?_)
 ·replace hr := iteT hc51 hr
  refine W.seq (W.region ?_)
  refine vP hS hE (Gives.p hE rfl) rfl ?_; clear hE a; intro a hE
  refine WL.nil ?_
  refine W.ret ?_
  refine finG (fn := Tryz.f48) (rs := [.tmp 6]) (vs := [_]) hE rfl ⟨rfl, trivial⟩ ?_
  obtain rfl := Option.some.inj hr
  exact ⟨rfl, hS⟩
 ·replace hr := iteF hc51 hr
  refine W.skip ?_
  refine W.seq ?_
  refine W.seq (W.region ?_)
  refine vP hS hE (Gives.p hE rfl) rfl ?_; clear hE a; intro a hE
  refine vP hS hE (Gives.len hE rfl sl41) rfl ?_; clear hE a; intro a hE
  refine vP hS hE (Gives.p hE rfl) rfl ?_; clear hE a; intro a hE
  refine WL.nil ?_
  obtain ⟨q53, hq52, hr⟩ := bindS hr
  refine W.cut (fun a w => (.next ()) = q53 ∧ Rep a 32 [] ∧ St w s (R)) ?_ ?_
  ·refine W.block ?_
   refine W.loop (fun m a w => ∃ (rest56 : List FareCond) (k54 : Nat), rest56.length = m ∧ x0.drop k54 = rest56 ∧ SlicesEqualFuncLfareCond_v2.loop1 x1 self_Fishref2SameCond rest56 k54 = some q53 ∧ Rep a 32 [(1, .slice a1 x1.length c1), (2, .func (.func 23) #[] #[]), (15, .slice a0 x0.length c0), (16, .int .i64 ((x0).length : Int)), (17, .int .i64 ((k54 : Nat) : Int))] ∧ St w s (R)) (m := x0.length) ⟨x0, 0, rfl, rfl, hq52, hE.pick _ ⟨rfl, rfl, rfl, rfl, rfl, trivial⟩, hS⟩ ?_
   clear hE hS a w hq52; rintro m60 a w ⟨rest56, k54, rfl, hd57, hq52, hE, hS⟩
   refine W.gen fun K63 hK63 => ?_
   rcases rest56 with _ | ⟨x55, rest56⟩
   ·have hlt58 := drop_nil hd57
    refine W.seq (W.region ?_)
    refine vP hS hE (Gives.p hE rfl) rfl ?_; clear hE a; intro a hE
    refine WL.nil ?_
    refine W.seq ?_
    refine W.condF hE rfl (decide_eq_false (by omega)) ?_
    subst hK63
    refine W.exit rfl ?_
    exact ⟨Option.some.inj hq52, hE.pick _ trivial, hS⟩
   ·obtain ⟨hlt58, hx59, hd57⟩ := drop_cons hd57
    rw [SlicesEqualFuncLfareCond_v2.loop1] at hq52
    refine W.seq (W.region ?_)
    refine vP hS hE (Gives.p hE rfl) rfl ?_; clear hE a; intro a hE
    refine WL.nil ?_
    refine W.seq ?_
    refine W.condT hE rfl (decide_eq_true (by omega)) ?_
    refine W.skip ?_
    refine W.seq ?_
    refine W.block ?_
    refine W.seq (W.region ?_)
    refine vP hS hE (Gives.p hE rfl) rfl ?_; clear hE a; intro a hE
    obtain ⟨cs64, hl65, hR66, hat67⟩ := h0.at hx59
    obtain ⟨a68, c69, rfl, h70⟩ := hR66.unf
    refine vP hS hE (Gives.idx hE k54 rfl rfl sl41 rfl hlt58 (h0.aok hlt58)) rfl ?_; clear hE a; intro a hE
    refine vP hS hE (Gives.loadA hE rfl (fun w h => hat67 w _ h) ty43) rfl ?_; clear hE a; intro a hE
    refine WL.alloc hE hS (runs_plain rfl) zr43 rfl ?_; clear hE hS a w; intro b71 a w hE hS
    refine vP hS hE (Gives.p hE rfl) rfl ?_; clear hE a; intro a hE
    refine WL.storeI hE hS 0 rfl [.int .i64 x55.Kind, .int .i64 x55.A, .int .i64 x55.B, .slice a68 x55.Kids.length c69] (runs_plain rfl) rfl rfl rfl ty43 rfl rfl rfl rfl ?_; clear hE hS a w; intro a w hE hS
    refine WL.nil ?_
    refine W.seq (W.region ?_)
    refine vP hS hE (Gives.p hE rfl) rfl ?_; clear hE a; intro a hE
    refine vP hS hE (Gives.p hE rfl) rfl ?_; clear hE a; intro a hE
    obtain ⟨x72, hx73, hq52⟩ := bindS hq52
    obtain ⟨hi74, hlt75, hy76⟩ := gx_some hx73
    obtain ⟨cs77, hl78, hR79, hat80⟩ := h1.at hy76
    obtain ⟨a81, c82, rfl, h83⟩ := hR79.unf
    refine vP hS hE (Gives.idx hE (((k54 : Nat) : Int)).toNat rfl rfl sl41 hi74 hlt75 (h1.aok hlt75)) rfl ?_; clear hE a; intro a hE
    refine vP hS hE (Gives.loadA hE rfl (fun w h => hat80 w _ h) ty43) rfl ?_; clear hE a; intro a hE
    refine WL.alloc hE hS (runs_plain rfl) zr43 rfl ?_; clear hE hS a w; intro b84 a w hE hS
    refine WL.storeI hE hS 0 rfl [.int .i64 x72.Kind, .int .i64 x72.A, .int .i64 x72.B, .slice a81 x72.Kids.length c82] (runs_plain rfl) rfl rfl rfl ty43 rfl rfl rfl rfl ?_; clear hE hS a w; intro a w hE hS
    refine WL.nil ?_
    refine W.seq (W.region ?_)
    refine vP hS hE (Gives.p hE rfl) rfl ?_; clear hE a; intro a hE
    refine vP hS hE (Gives.loadBA hE 1 rfl rfl ty43) rfl ?_; clear hE a; intro a hE
    refine vP hS hE (Gives.loadBA hE 0 rfl rfl ty43) rfl ?_; clear hE a; intro a hE
    obtain ⟨q85, hq86, hq52⟩ := bindS hq52
    have hc_ := ih_Fishref2SameCond hS h70 h83 hq86
    refine WL.fnw hE (hc_) rfl (runs_plain rfl) bd23 rfl rfl rfl ?_
    clear hE hS hc_; rintro e w ⟨rfl, hS⟩; refine ⟨_, rfl, ?_⟩; clear a; intro a hE
    refine vP hS hE (Gives.p hE rfl) rfl ?_; clear hE a; intro a hE
    refine WL.nil ?_
    refine W.cond hE rfl (fun hc87 => ?_) (fun hc87 => ?_)
    ·replace hq52 := iteT hc87 hq52
     refine W.seq (W.region ?_)
     refine vP hS hE (Gives.p hE rfl) rfl ?_; clear hE a; intro a hE
     refine WL.nil ?_
     refine W.ret ?_
     subst hK63
     rw [← Option.some.inj hq52] at hr
     dsimp only at hr
     refine finG (fn := Tryz.f48) (rs := [.tmp 6]) (vs := [_]) hE rfl ⟨rfl, trivial⟩ ?_
     obtain rfl := Option.some.inj hr
     replace hS := hS.tail
     replace hS := hS.tail
     exact ⟨rfl, hS⟩
    ·replace hq52 := iteF hc87 hq52
     refine W.skip ?_
     refine W.region ?_
     refine vP hS hE (Gives.inc hE rfl (by have := h0.small; omega)) rfl ?_; clear hE a; intro a hE
     refine vP hS hE (Gives.p hE rfl) rfl ?_; clear hE a; intro a hE
     refine WL.nil ?_
     replace hS := hS.tail
     replace hS := hS.tail
     subst hK63
     exact ⟨rest56.length, Nat.lt_succ_self _, rest56, k54 + 1, rfl, hd57, hq52, hE.pick _ ⟨rfl, rfl, rfl, rfl, rfl, trivial⟩, hS⟩
  ·clear hE hS a w; rintro a w ⟨rfl, hE, hS⟩
   dsimp only at hr
   refine W.seq (W.region ?_)
   refine vP hS hE (Gives.p hE rfl) rfl ?_; clear hE a; intro a hE
   refine WL.nil ?_
   refine W.ret ?_
   refine finG (fn := Tryz.f48) (rs := [.tmp 6]) (vs := [_]) hE rfl ⟨rfl, trivial⟩ ?_
   obtain rfl := Option.some.inj hr
   exact ⟨rfl, hS⟩
set_option maxHeartbeats 8000000 in
theorem Fishref2SameCond_ok : ∀ {fu : Nat} {w : World} {s : Sg} {R : List HP} {x0 : FareCond} {a0_0 : Option Addr} {c0_0 : Nat} {x1 : FareCond} {a1_0 : Option Addr} {c1_0 : Nat} (_hS : St w s (R)) (_h0_0 : Sl 4 RFareCond s a0_0 c0_0 x0.Kids) (_h1_0 : Sl 4 RFareCond s a1_0 c1_0 x1.Kids) {r : Bool} (_hr : Fishref2SameCond fu x0 x1 = some r),
  Calls Tryz.prog 23 [.agg (List.toArray [.int .i64 x0.Kind, .int .i64 x0.A, .int .i64 x0.B, .slice a0_0 x0.Kids.length c0_0]), .agg (List.toArray [.int .i64 x1.Kind, .int .i64 x1.A, .int .i64 x1.B, .slice a1_0 x1.Kids.length c1_0])].toArray w (fun e w => e = .returned (.bool r) ∧ St w s (R)) := by
 intro fu
 induction fu with
 | zero => intro w s R x0 a0_0 c0_0 x1 a1_0 c1_0 hS h0_0 h1_0 r hr; rw [Fishref2SameCond] at hr; exact absurd hr (by simp)
 | succ fu ih_Fishref2SameCond =>
  intro w s R x0 a0_0 c0_0 x1 a1_0 c1_0 hS h0_0 h1_0 r hr
  rw [Fishref2SameCond] at hr
  generalize Fishref2SameCond fu = self_Fishref2SameCond at hr ih_Fishref2SameCond
  refine enter Tryz.func23 rfl rfl rfl fun a hE => ?_
  refine W.seq (W.region ?_)
  refine WL.box hE hS (runs_plain rfl) rfl rfl rfl ?_; clear hE hS a w; intro b51 a w hE hS
  refine WL.box hE hS (runs_plain rfl) rfl rfl rfl ?_; clear hE hS a w; intro b52 a w hE hS
  refine vP hS hE (Gives.p hE rfl) rfl ?_; clear hE a; intro a hE
  refine WL.nil ?_
  refine W.seq ?_
  obtain ⟨q54, hq53, hr⟩ := bindS hr
  refine W.cut (fun a w => ∃ (q57 : Bool), q57 = q54 ∧ Rep a 31 [(4, .bool q57)] ∧ St w s (pt b52 (.cells #[.int .i64 x1.Kind, .int .i64 x1.A, .int .i64 x1.B, .slice a1_0 x1.Kids.length c1_0] 43 (0, 0)) :: pt b51 (.cells #[.int .i64 x0.Kind, .int .i64 x0.A, .int .i64 x0.B, .slice a0_0 x0.Kids.length c0_0] 43 (0, 0)) :: R)) ?_ ?_
  ·refine W.gen fun K58 hK58 => ?_
   refine W.region ?_
   refine vP hS hE (Gives.fld hE rfl fl43_0) rfl ?_; clear hE a; intro a hE
   refine vP hS hE (Gives.loadB hE 1 rfl rfl rfl ty3) rfl ?_; clear hE a; intro a hE
   refine vP hS hE (Gives.fld hE rfl fl43_0) rfl ?_; clear hE a; intro a hE
   refine vP hS hE (Gives.loadB hE 0 rfl rfl rfl ty3) rfl ?_; clear hE a; intro a hE
   refine vP hS hE (Gives.p hE rfl) rfl ?_; clear hE a; intro a hE
   refine vP hS hE (Gives.p hE rfl) rfl ?_; clear hE a; intro a hE
   rcases Bool.eq_false_or_eq_true (x0.Kind == x1.Kind) with hg59 | hg59
   ·replace hq53 := iteT hg59 hq53
    refine WL.vS hS hE (runs_if hE rfl rfl rfl hg59) (Gives.fld hE rfl fl43_1) rfl ?_; clear hE a; intro a hE
    refine WL.vS hS hE (runs_if hE rfl rfl rfl hg59) (Gives.loadB hE 1 rfl rfl rfl ty3) rfl ?_; clear hE a; intro a hE
    refine WL.vS hS hE (runs_if hE rfl rfl rfl hg59) (Gives.fld hE rfl fl43_1) rfl ?_; clear hE a; intro a hE
    refine WL.vS hS hE (runs_if hE rfl rfl rfl hg59) (Gives.loadB hE 0 rfl rfl rfl ty3) rfl ?_; clear hE a; intro a hE
    refine WL.vS hS hE (runs_if hE rfl rfl rfl hg59) (Gives.p hE rfl) rfl ?_; clear hE a; intro a hE
    refine vP hS hE (Gives.pickT hE rfl hg59 rfl) rfl ?_; clear hE a; intro a hE
    refine vP hS hE (Gives.p hE rfl) rfl ?_; clear hE a; intro a hE
    rcases Bool.eq_false_or_eq_true (x0.A == x1.A) with hg60 | hg60
    ·replace hq53 := iteT hg60 hq53
     refine WL.vS hS hE (runs_if hE rfl rfl rfl hg60) (Gives.fld hE rfl fl43_2) rfl ?_; clear hE a; intro a hE
     refine WL.vS hS hE (runs_if hE rfl rfl rfl hg60) (Gives.loadB hE 1 rfl rfl rfl ty3) rfl ?_; clear hE a; intro a hE
     refine WL.vS hS hE (runs_if hE rfl rfl rfl hg60) (Gives.fld hE rfl fl43_2) rfl ?_; clear hE a; intro a hE
     refine WL.vS hS hE (runs_if hE rfl rfl rfl hg60) (Gives.loadB hE 0 rfl rfl rfl ty3) rfl ?_; clear hE a; intro a hE
     refine WL.vS hS hE (runs_if hE rfl rfl rfl hg60) (Gives.p hE rfl) rfl ?_; clear hE a; intro a hE
     refine vP hS hE (Gives.pickT hE rfl hg60 rfl) rfl ?_; clear hE a; intro a hE
     refine vP hS hE (Gives.p hE rfl) rfl ?_; clear hE a; intro a hE
     rcases Bool.eq_false_or_eq_true (x0.B == x1.B) with hg61 | hg61
     ·replace hq53 := iteT hg61 hq53
      refine WL.vS hS hE (runs_if hE rfl rfl rfl hg61) (Gives.fld hE rfl fl43_3) rfl ?_; clear hE a; intro a hE
      refine WL.vS hS hE (runs_if hE rfl rfl rfl hg61) (Gives.loadB hE 1 rfl rfl rfl ty41) rfl ?_; clear hE a; intro a hE
      refine WL.vS hS hE (runs_if hE rfl rfl rfl hg61) (Gives.fld hE rfl fl43_3) rfl ?_; clear hE a; intro a hE
      refine WL.vS hS hE (runs_if hE rfl rfl rfl hg61) (Gives.loadB hE 0 rfl rfl rfl ty41) rfl ?_; clear hE a; intro a hE
      obtain ⟨q62, hq63, hq53⟩ := bindS hq53
      have hc_ := SlicesEqualFuncLfareCond_v2_ok @ih_Fishref2SameCond hS h0_0 h1_0 hq63
      refine WL.fnq hE (hc_) (runs_if hE rfl rfl rfl hg61) bd48 rfl rfl rfl ?_
      clear hE hS hc_; rintro e w ⟨rfl, hS⟩; refine ⟨_, rfl, ?_⟩; clear a; intro a hE
      refine vP hS hE (Gives.pickT hE rfl hg61 rfl) rfl ?_; clear hE a; intro a hE
      refine vP hS hE (Gives.p hE rfl) rfl ?_; clear hE a; intro a hE
      refine WL.nil ?_
      subst hK58
      exact ⟨q62, Option.some.inj hq53, hE.pick _ ⟨rfl, trivial⟩, hS⟩
     ·replace hq53 := iteF hg61 hq53
      refine WL.no hE (runs_not hE rfl rfl rfl (by rw [hg61]; decide)) rfl ?_; clear hE a; intro a hE
      refine WL.no hE (runs_not hE rfl rfl rfl (by rw [hg61]; decide)) rfl ?_; clear hE a; intro a hE
      refine WL.no hE (runs_not hE rfl rfl rfl (by rw [hg61]; decide)) rfl ?_; clear hE a; intro a hE
      refine WL.no hE (runs_not hE rfl rfl rfl (by rw [hg61]; decide)) rfl ?_; clear hE a; intro a hE
      refine WL.no hE (runs_not hE rfl rfl rfl (by rw [hg61]; decide)) rfl ?_; clear hE a; intro a hE
      refine vP hS hE (Gives.pickF hE rfl hg61 rfl) rfl ?_; clear hE a; intro a hE
      refine vP hS hE (Gives.p hE rfl) rfl ?_; clear hE a; intro a hE
      refine WL.nil ?_
      subst hK58
      exact ⟨false, Option.some.inj hq53, hE.pick _ ⟨rfl, trivial⟩, hS⟩
    ·replace hq53 := iteF hg60 hq53
     refine WL.no hE (runs_not hE rfl rfl rfl (by rw [hg60]; decide)) rfl ?_; clear hE a; intro a hE
     refine WL.no hE (runs_not hE rfl rfl rfl (by rw [hg60]; decide)) rfl ?_; clear hE a; intro a hE
     refine WL.no hE (runs_not hE rfl rfl rfl (by rw [hg60]; decide)) rfl ?_; clear hE a; intro a hE
     refine WL.no hE (runs_not hE rfl rfl rfl (by rw [hg60]; decide)) rfl ?_; clear hE a; intro a hE
     refine WL.no hE (runs_not hE rfl rfl rfl (by rw [hg60]; decide)) rfl ?_; clear hE a; intro a hE
     refine vP hS hE (Gives.pickF hE rfl hg60 rfl) rfl ?_; clear hE a; intro a hE
     refine vP hS hE (Gives.p hE rfl) rfl ?_; clear hE a; intro a hE
     refine WL.no hE (runs_not hE rfl rfl rfl (by decide)) rfl ?_; clear hE a; intro a hE
     refine WL.no hE (runs_not hE rfl rfl rfl (by decide)) rfl ?_; clear hE a; intro a hE
     refine WL.no hE (runs_not hE rfl rfl rfl (by decide)) rfl ?_; clear hE a; intro a hE
     refine WL.no hE (runs_not hE rfl rfl rfl (by decide)) rfl ?_; clear hE a; intro a hE
     refine WL.no hE (runs_not hE rfl rfl rfl (by decide)) rfl ?_; clear hE a; intro a hE
     refine vP hS hE (Gives.pickF hE rfl rfl rfl) rfl ?_; clear hE a; intro a hE
     refine vP hS hE (Gives.p hE rfl) rfl ?_; clear hE a; intro a hE
     refine WL.nil ?_
     subst hK58
     exact ⟨false, Option.some.inj hq53, hE.pick _ ⟨rfl, trivial⟩, hS⟩
   ·replace hq53 := iteF hg59 hq53
    refine WL.no hE (runs_not hE rfl rfl rfl (by rw [hg59]; decide)) rfl ?_; clear hE a; intro a hE
    refine WL.no hE (runs_not hE rfl rfl rfl (by rw [hg59]; decide)) rfl ?_; clear hE a; intro a hE
    refine WL.no hE (runs_not hE rfl rfl rfl (by rw [hg59]; decide)) rfl ?_; clear hE a; intro a hE
    refine WL.no hE (runs_not hE rfl rfl rfl (by rw [hg59]; decide)) rfl ?_; clear hE a; intro a hE
    refine WL.no hE (runs_not hE rfl rfl rfl (by rw [hg59]; decide)) rfl ?_; clear hE a; intro a hE
    refine vP hS hE (Gives.pickF hE rfl hg59 rfl) rfl ?_; clear hE a; intro a hE
    refine vP hS hE (Gives.p hE rfl) rfl ?_; clear hE a; intro a hE
    refine WL.no hE (runs_not hE rfl rfl rfl (by decide)) rfl ?_; clear hE a; intro a hE
    refine WL.no hE (runs_not hE rfl rfl rfl (by decide)) rfl ?_; clear hE a; intro a hE
    refine WL.no hE (runs_not hE rfl rfl rfl (by decide)) rfl ?_; clear hE a; intro a hE
    refine WL.no hE (runs_not hE rfl rfl rfl (by decide)) rfl ?_; clear hE a; intro a hE
    refine WL.no hE (runs_not hE rfl rfl rfl (by decide)) rfl ?_; clear hE a; intro a hE
    refine vP hS hE (Gives.pickF hE rfl rfl rfl) rfl ?_; clear hE a; intro a hE
    refine vP hS hE (Gives.p hE rfl) rfl ?_; clear hE a; intro a hE
    refine WL.no hE (runs_not hE rfl rfl rfl (by decide)) rfl ?_; clear hE a; intro a hE
    refine WL.no hE (runs_not hE rfl rfl rfl (by decide)) rfl ?_; clear hE a; intro a hE
    refine WL.no hE (runs_not hE rfl rfl rfl (by decide)) rfl ?_; clear hE a; intro a hE
    refine WL.no hE (runs_not hE rfl rfl rfl (by decide)) rfl ?_; clear hE a; intro a hE
    refine WL.no hE (runs_not hE rfl rfl rfl (by decide)) rfl ?_; clear hE a; intro a hE
    refine vP hS hE (Gives.pickF hE rfl rfl rfl) rfl ?_; clear hE a; intro a hE
    refine vP hS hE (Gives.p hE rfl) rfl ?_; clear hE a; intro a hE
    refine WL.nil ?_
    subst hK58
    exact ⟨false, Option.some.inj hq53, hE.pick _ ⟨rfl, trivial⟩, hS⟩
  ·clear hE hS a w; rintro a w ⟨q57, rfl, hE, hS⟩
   refine W.ret ?_
   refine finG (fn := Tryz.f23) (rs := [.tmp 4]) (vs := [_]) hE rfl ⟨rfl, trivial⟩ ?_
   obtain rfl := Option.some.inj hr
   replace hS := hS.tail
   replace hS := hS.tail
   exact ⟨rfl, hS⟩
set_option maxHeartbeats 8000000 in
theorem Fishref2SameTariff_1_ok {fu : Nat}  {w : World} {s : Sg} {R : List HP} {x0 : FareRule} {a0_0 : Option Addr} {c0_0 : Nat} {x1 : FareRule} {a1_0 : Option Addr} {c1_0 : Nat} (hS : St w s (R)) (h0_0 : Sl 4 RFareCond s a0_0 c0_0 x0.If.Kids) (h1_0 : Sl 4 RFareCond s a1_0 c1_0 x1.If.Kids) {r : Bool} (hr : Fishref2SameTariff_1 fu x0 x1 = some r) :
  Calls Tryz.prog 22 [.agg (List.toArray [.int .i64 x0.If.Kind, .int .i64 x0.If.A, .int .i64 x0.If.B, .slice a0_0 x0.If.Kids.length c0_0, .int .i64 x0.Do, .int .i64 x0.N, .bool x0.Stop]), .agg (List.toArray [.int .i64 x1.If.Kind, .int .i64 x1.If.A, .int .i64 x1.If.B, .slice a1_0 x1.If.Kids.length c1_0, .int .i64 x1.Do, .int .i64 x1.N, .bool x1.Stop])].toArray w (fun e w => e = .returned (.bool r) ∧ St w s (R)) := by
 refine enter Tryz.func22 rfl rfl rfl fun a hE => ?_
 rw [Fishref2SameTariff_1] at hr
 refine W.seq (W.region ?_)
 refine WL.box hE hS (runs_plain rfl) rfl rfl rfl ?_; clear hE hS a w; intro b51 a w hE hS
 refine WL.box hE hS (runs_plain rfl) rfl rfl rfl ?_; clear hE hS a w; intro b52 a w hE hS
 refine vP hS hE (Gives.p hE rfl) rfl ?_; clear hE a; intro a hE
 refine WL.nil ?_
 refine W.seq ?_
 obtain ⟨q54, hq53, hr⟩ := bindS hr
 refine W.cut (fun a w => ∃ (q57 : Bool), q57 = q54 ∧ Rep a 31 [(4, .bool q57)] ∧ St w s (pt b52 (.cells #[.int .i64 x1.If.Kind, .int .i64 x1.If.A, .int .i64 x1.If.B, .slice a1_0 x1.If.Kids.length c1_0, .int .i64 x1.Do, .int .i64 x1.N, .bool x1.Stop] 45 (0, 0)) :: pt b51 (.cells #[.int .i64 x0.If.Kind, .int .i64 x0.If.A, .int .i64 x0.If.B, .slice a0_0 x0.If.Kids.length c0_0, .int .i64 x0.Do, .int .i64 x0.N, .bool x0.Stop] 45 (0, 0)) :: R)) ?_ ?_
 ·refine W.gen fun K58 hK58 => ?_
  refine W.region ?_
  refine vP hS hE (Gives.fld hE rfl fl45_1) rfl ?_; clear hE a; intro a hE
  refine vP hS hE (Gives.loadB hE 1 rfl rfl rfl ty3) rfl ?_; clear hE a; intro a hE
  refine vP hS hE (Gives.fld hE rfl fl45_1) rfl ?_; clear hE a; intro a hE
  refine vP hS hE (Gives.loadB hE 0 rfl rfl rfl ty3) rfl ?_; clear hE a; intro a hE
  refine vP hS hE (Gives.p hE rfl) rfl ?_; clear hE a; intro a hE
  refine vP hS hE (Gives.p hE rfl) rfl ?_; clear hE a; intro a hE
  rcases Bool.eq_false_or_eq_true (x0.Do == x1.Do) with hg59 | hg59
  ·replace hq53 := iteT hg59 hq53
   refine WL.vS hS hE (runs_if hE rfl rfl rfl hg59) (Gives.fld hE rfl fl45_2) rfl ?_; clear hE a; intro a hE
   refine WL.vS hS hE (runs_if hE rfl rfl rfl hg59) (Gives.loadB hE 1 rfl rfl rfl ty3) rfl ?_; clear hE a; intro a hE
   refine WL.vS hS hE (runs_if hE rfl rfl rfl hg59) (Gives.fld hE rfl fl45_2) rfl ?_; clear hE a; intro a hE
   refine WL.vS hS hE (runs_if hE rfl rfl rfl hg59) (Gives.loadB hE 0 rfl rfl rfl ty3) rfl ?_; clear hE a; intro a hE
   refine WL.vS hS hE (runs_if hE rfl rfl rfl hg59) (Gives.p hE rfl) rfl ?_; clear hE a; intro a hE
   refine vP hS hE (Gives.pickT hE rfl hg59 rfl) rfl ?_; clear hE a; intro a hE
   refine vP hS hE (Gives.p hE rfl) rfl ?_; clear hE a; intro a hE
   rcases Bool.eq_false_or_eq_true (x0.N == x1.N) with hg60 | hg60
   ·replace hq53 := iteT hg60 hq53
    refine WL.vS hS hE (runs_if hE rfl rfl rfl hg60) (Gives.fld hE rfl fl45_3) rfl ?_; clear hE a; intro a hE
    refine WL.vS hS hE (runs_if hE rfl rfl rfl hg60) (Gives.loadB hE 1 rfl rfl rfl ty4) rfl ?_; clear hE a; intro a hE
    refine WL.vS hS hE (runs_if hE rfl rfl rfl hg60) (Gives.fld hE rfl fl45_3) rfl ?_; clear hE a; intro a hE
    refine WL.vS hS hE (runs_if hE rfl rfl rfl hg60) (Gives.loadB hE 0 rfl rfl rfl ty4) rfl ?_; clear hE a; intro a hE
    refine WL.vS hS hE (runs_if hE rfl rfl rfl hg60) (Gives.eqB hE rfl rfl bl4) rfl ?_; clear hE a; intro a hE
    refine vP hS hE (Gives.pickT hE rfl hg60 rfl) rfl ?_; clear hE a; intro a hE
    refine vP hS hE (Gives.p hE rfl) rfl ?_; clear hE a; intro a hE
    rcases Bool.eq_false_or_eq_true (x0.Stop == x1.Stop) with hg61 | hg61
    ·replace hq53 := iteT hg61 hq53
     refine WL.vS hS hE (runs_if hE rfl rfl rfl hg61) (Gives.fld hE rfl fl45_0) rfl ?_; clear hE a; intro a hE
     refine WL.vS hS hE (runs_if hE rfl rfl rfl hg61) (Gives.loadA (cs := [.int .i64 x0.If.Kind, .int .i64 x0.If.A, .int .i64 x0.If.B, .slice a0_0 x0.If.Kids.length c0_0]) hE rfl (fun w h => (St.seesAt h 1 rfl).part 0 4) ty43) rfl ?_; clear hE a; intro a hE
     refine WL.vS hS hE (runs_if hE rfl rfl rfl hg61) (Gives.fld hE rfl fl45_0) rfl ?_; clear hE a; intro a hE
     refine WL.vS hS hE (runs_if hE rfl rfl rfl hg61) (Gives.loadA (cs := [.int .i64 x1.If.Kind, .int .i64 x1.If.A, .int .i64 x1.If.B, .slice a1_0 x1.If.Kids.length c1_0]) hE rfl (fun w h => (St.seesAt h 0 rfl).part 0 4) ty43) rfl ?_; clear hE a; intro a hE
     obtain ⟨q62, hq63, hq53⟩ := bindS hq53
     have hc_ := Fishref2SameCond_ok hS h0_0 h1_0 hq63
     refine WL.fnq hE (hc_) (runs_if hE rfl rfl rfl hg61) bd23 rfl rfl rfl ?_
     clear hE hS hc_; rintro e w ⟨rfl, hS⟩; refine ⟨_, rfl, ?_⟩; clear a; intro a hE
     refine vP hS hE (Gives.pickT hE rfl hg61 rfl) rfl ?_; clear hE a; intro a hE
     refine vP hS hE (Gives.p hE rfl) rfl ?_; clear hE a; intro a hE
     refine WL.nil ?_
     subst hK58
     exact ⟨q62, Option.some.inj hq53, hE.pick _ ⟨rfl, trivial⟩, hS⟩
    ·replace hq53 := iteF hg61 hq53
     refine WL.no hE (runs_not hE rfl rfl rfl (by rw [hg61]; decide)) rfl ?_; clear hE a; intro a hE
     refine WL.no hE (runs_not hE rfl rfl rfl (by rw [hg61]; decide)) rfl ?_; clear hE a; intro a hE
     refine WL.no hE (runs_not hE rfl rfl rfl (by rw [hg61]; decide)) rfl ?_; clear hE a; intro a hE
     refine WL.no hE (runs_not hE rfl rfl rfl (by rw [hg61]; decide)) rfl ?_; clear hE a; intro a hE
     refine WL.no hE (runs_not hE rfl rfl rfl (by rw [hg61]; decide)) rfl ?_; clear hE a; intro a hE
     refine vP hS hE (Gives.pickF hE rfl hg61 rfl) rfl ?_; clear hE a; intro a hE
     refine vP hS hE (Gives.p hE rfl) rfl ?_; clear hE a; intro a hE
     refine WL.nil ?_
     subst hK58
     exact ⟨false, Option.some.inj hq53, hE.pick _ ⟨rfl, trivial⟩, hS⟩
   ·replace hq53 := iteF hg60 hq53
    refine WL.no hE (runs_not hE rfl rfl rfl (by rw [hg60]; decide)) rfl ?_; clear hE a; intro a hE
    refine WL.no hE (runs_not hE rfl rfl rfl (by rw [hg60]; decide)) rfl ?_; clear hE a; intro a hE
    refine WL.no hE (runs_not hE rfl rfl rfl (by rw [hg60]; decide)) rfl ?_; clear hE a; intro a hE
    refine WL.no hE (runs_not hE rfl rfl rfl (by rw [hg60]; decide)) rfl ?_; clear hE a; intro a hE
    refine WL.no hE (runs_not hE rfl rfl rfl (by rw [hg60]; decide)) rfl ?_; clear hE a; intro a hE
    refine vP hS hE (Gives.pickF hE rfl hg60 rfl) rfl ?_; clear hE a; intro a hE
    refine vP hS hE (Gives.p hE rfl) rfl ?_; clear hE a; intro a hE
    refine WL.no hE (runs_not hE rfl rfl rfl (by decide)) rfl ?_; clear hE a; intro a hE
    refine WL.no hE (runs_not hE rfl rfl rfl (by decide)) rfl ?_; clear hE a; intro a hE
    refine WL.no hE (runs_not hE rfl rfl rfl (by decide)) rfl ?_; clear hE a; intro a hE
    refine WL.no hE (runs_not hE rfl rfl rfl (by decide)) rfl ?_; clear hE a; intro a hE
    refine WL.no hE (runs_not hE rfl rfl rfl (by decide)) rfl ?_; clear hE a; intro a hE
    refine vP hS hE (Gives.pickF hE rfl rfl rfl) rfl ?_; clear hE a; intro a hE
    refine vP hS hE (Gives.p hE rfl) rfl ?_; clear hE a; intro a hE
    refine WL.nil ?_
    subst hK58
    exact ⟨false, Option.some.inj hq53, hE.pick _ ⟨rfl, trivial⟩, hS⟩
  ·replace hq53 := iteF hg59 hq53
   refine WL.no hE (runs_not hE rfl rfl rfl (by rw [hg59]; decide)) rfl ?_; clear hE a; intro a hE
   refine WL.no hE (runs_not hE rfl rfl rfl (by rw [hg59]; decide)) rfl ?_; clear hE a; intro a hE
   refine WL.no hE (runs_not hE rfl rfl rfl (by rw [hg59]; decide)) rfl ?_; clear hE a; intro a hE
   refine WL.no hE (runs_not hE rfl rfl rfl (by rw [hg59]; decide)) rfl ?_; clear hE a; intro a hE
   refine WL.no hE (runs_not hE rfl rfl rfl (by rw [hg59]; decide)) rfl ?_; clear hE a; intro a hE
   refine vP hS hE (Gives.pickF hE rfl hg59 rfl) rfl ?_; clear hE a; intro a hE
   refine vP hS hE (Gives.p hE rfl) rfl ?_; clear hE a; intro a hE
   refine WL.no hE (runs_not hE rfl rfl rfl (by decide)) rfl ?_; clear hE a; intro a hE
   refine WL.no hE (runs_not hE rfl rfl rfl (by decide)) rfl ?_; clear hE a; intro a hE
   refine WL.no hE (runs_not hE rfl rfl rfl (by decide)) rfl ?_; clear hE a; intro a hE
   refine WL.no hE (runs_not hE rfl rfl rfl (by decide)) rfl ?_; clear hE a; intro a hE
   refine WL.no hE (runs_not hE rfl rfl rfl (by decide)) rfl ?_; clear hE a; intro a hE
   refine vP hS hE (Gives.pickF hE rfl rfl rfl) rfl ?_; clear hE a; intro a hE
   refine vP hS hE (Gives.p hE rfl) rfl ?_; clear hE a; intro a hE
   refine WL.no hE (runs_not hE rfl rfl rfl (by decide)) rfl ?_; clear hE a; intro a hE
   refine WL.no hE (runs_not hE rfl rfl rfl (by decide)) rfl ?_; clear hE a; intro a hE
   refine WL.no hE (runs_not hE rfl rfl rfl (by decide)) rfl ?_; clear hE a; intro a hE
   refine WL.no hE (runs_not hE rfl rfl rfl (by decide)) rfl ?_; clear hE a; intro a hE
   refine WL.no hE (runs_not hE rfl rfl rfl (by decide)) rfl ?_; clear hE a; intro a hE
   refine vP hS hE (Gives.pickF hE rfl rfl rfl) rfl ?_; clear hE a; intro a hE
   refine vP hS hE (Gives.p hE rfl) rfl ?_; clear hE a; intro a hE
   refine WL.nil ?_
   subst hK58
   exact ⟨false, Option.some.inj hq53, hE.pick _ ⟨rfl, trivial⟩, hS⟩
 ·clear hE hS a w; rintro a w ⟨q57, rfl, hE, hS⟩
  refine W.ret ?_
  refine finG (fn := Tryz.f22) (rs := [.tmp 4]) (vs := [_]) hE rfl ⟨rfl, trivial⟩ ?_
  obtain rfl := Option.some.inj hr
  replace hS := hS.tail
  replace hS := hS.tail
  exact ⟨rfl, hS⟩
end Go.Proofs.YtfdifpegldailaaGreatDoor
