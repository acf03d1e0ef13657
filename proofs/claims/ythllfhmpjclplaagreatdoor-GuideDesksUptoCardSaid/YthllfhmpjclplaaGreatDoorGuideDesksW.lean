/- The walks of the functions that GuideDesks reaches: each call comes to what its mirror says. The conditions are those of each contract. -/
import Derived.Test.YthllfhmpjclplaaGreatDoorGuideDesksW7
set_option maxRecDepth 10000
open Bool renaming eq_false_or_eq_true → b2o
namespace Go.Proofs.YthllfhmpjclplaaGreatDoor
open Go Go.Fp
variable {s : Sg} {R : List HP}
set_option maxHeartbeats 8000000 in
theorem a0l {fu o p c2 c3 c4 : Nat}  {w : World} {x0 : B0} {q t a2 a3 a4 : Option Addr} {x1 : Int} {x2 : List B0} {x3 : List A3} {x4 : List Int} (c : St w s (R)) (dq : a0S Tryz.prog s) (j : Sl 4 A7 s q o x0.Trains) (k : Sl 1 (RL 1 (RI .i64)) s t p x0.Turns) (h2 : Sl 2 S6 s a2 c2 x2) (h3 : Sl 1 D9 s a3 c3 x3) (h4 : Sl 1 (RI .i64) s a4 c4 x4) {r : Bool} (n : E7 fu x0 x1 x2 x3 x4 = some r) :
  Calls Tryz.prog 3 [.agg (List.toArray [.slice q x0.Trains.length o, .slice t x0.Turns.length p]), vi x1, .slice a2 x2.length c2, .slice a3 x3.length c3, .slice a4 x4.length c4].toArray w (fun e w => e = .returned (.bool r) ∧ St w s (R)) := by
 refine enter Tryz.func3 rfl rfl rfl fun a b => ?_
 rw [E7] at n
 refine sg [.s] c b fun a b => ?_
 refine bw b c fun S a w b c => ?_
 refine sl [.p,.e,.s,.B 0,.p] c b fun a b => ?_
 obtain ⟨dp, gI, n⟩ := B4 n
 refine fq b (a0d c (a0S.mono lr dq) j k gI) ?_
 clear b c; rintro e w (⟨G, gJ, rfl, N, c⟩ | ⟨H, ad, eY, eZ, e0, e1, cV, cW, kz, dr, cX, cY, kA, ds, G, gK, rfl, N, eg, eh, ei, rfl, ej, rfl, c⟩)
 ·refine ⟨_, rfl, ?_⟩; clear a; intro a b
  obtain ⟨j, k, h2, h3⟩ := m4 N j k h2 h3
  replace h4 := m1 N h4
  rw [gJ] at n; dsimp only at n
  refine sl [.p,.p,.p,.p,.p,.e,.s,.B 0] c b fun a b => ?_
  obtain ⟨fi, gL, n⟩ := B4 n
  refine fq b (P8 c j k gL) ?_; rintro _ w ⟨rfl, c⟩; refine ⟨_, rfl, fun a b => ?_⟩
  refine sl [.p,.e,.q,.q] c b fun a b => ?_
  obtain ⟨hU, a9, n⟩ := R8 n
  refine W.cut (fun a w => ∃ fj, fj = hU ∧ Rep a 219 [(1, vi x1), (2, .slice a2 x2.length c2), (3, .slice a3 x3.length c3), (4, .slice a4 x4.length c4), (5, pp S), (11, .pointer none), (12, vi dp.2), (13, vi fi), (49, .bool fj)] ∧ St w G (pc S #[.slice q x0.Trains.length o, .slice t x0.Turns.length p] 25 :: R)) ?_ ?_
  ·refine W.gen fun kB el => ?_
   refine sg [.r,.p,.p,.p] c b fun a b => ?_
   rcases b2o (fi == 0) with em | em
   ·replace a9 := iteT em a9
    refine sl [.p,.p,.p] c b fun a b => ?_
    rcases b2o (decide (x1 < 0)) with en | en
    ·replace a9 := iteT en a9
     refine sl [.O,.O,.T,.T,.e] c b fun a b => ?_
     subst el
     exact ⟨true, a9, b.pk, c⟩
    replace a9 := iteF en a9
    refine sl [.p,.p,.N,.T,.e] c b fun a b => ?_
    subst el
    exact ⟨decide (x1 > 28800), a9, b.pk, c⟩
   replace a9 := iteF em a9
   refine sl [.O,.O,.O,.U,.U,.O,.N,.e] c b fun a b => ?_
   subst el
   exact ⟨false, a9, b.pk, c⟩
  clear b c a w; rintro a w ⟨fj, rfl, b, c⟩
  obtain ⟨hV, cE, n⟩ := R8 n
  refine W.cut (fun a w => ∃ ek, ek = hV ∧ Rep a 219 [(1, vi x1), (2, .slice a2 x2.length c2), (3, .slice a3 x3.length c3), (4, .slice a4 x4.length c4), (5, pp S), (11, .pointer none), (12, vi dp.2), (13, vi ek)] ∧ St w G (pc S #[.slice q x0.Trains.length o, .slice t x0.Turns.length p] 25 :: R)) ?_ ?_
  ·refine W.gen fun kC fk => ?_
   refine W.cond b rfl (fun eo => ?_) (fun eo => ?_)
   ·replace cE := iteT eo cE
    refine sg [.r,.p,.e] c b fun a b => ?_
    subst fk
    exact ⟨2, cE, b.pk, c⟩
   replace cE := iteF eo cE
   refine W.skip ?_
   subst fk
   exact ⟨fi, cE, b.pk, c⟩
  clear b c a w; rintro a w ⟨ek, rfl, b, c⟩
  refine sg [.q,.q] c b fun a b => ?_
  obtain ⟨hW, bS, n⟩ := B4 n
  refine W.cut (fun a w => ∃ fl, fl = hW ∧ Rep a 219 [(1, vi x1), (2, .slice a2 x2.length c2), (3, .slice a3 x3.length c3), (4, .slice a4 x4.length c4), (5, pp S), (11, .pointer none), (13, vi ek), (56, .bool fl)] ∧ St w G (pc S #[.slice q x0.Trains.length o, .slice t x0.Turns.length p] 25 :: R)) ?_ ?_
  ·refine W.gen fun jd e2 => ?_
   refine W.region ?_
   obtain ⟨gM, fG, bS⟩ := B4 bS
   refine fq b (Y7 c (a0S.mono N dq) fG) ?_; rintro _ w ⟨rfl, c⟩; refine ⟨_, rfl, fun a b => ?_⟩
   refine sl [.p,.p] c b fun a b => ?_
   rcases b2o !gM with dt | dt
   ·replace bS := iteT dt bS
    refine sl [.O,.O,.O,.T,.e] c b fun a b => ?_
    subst e2
    exact ⟨true, oi bS, b.pk, c⟩
   replace bS := iteF dt bS
   refine sl [.p,.p,.p,.N,.e] c b fun a b => ?_
   subst e2
   exact ⟨(dp.2 != ek), oi bS, b.pk, c⟩
  clear b c a w; rintro a w ⟨fl, rfl, b, c⟩
  refine W.cond b rfl (fun du => ?_) (fun du => ?_)
  ·replace n := iteT du n
   refine sg [.s,.p,.e] c b fun a b => ?_
   refine W.ret ?_
   refine fg [_] b ?_
   obtain rfl := oi n
   replace c := c.tail
   exact ⟨rfl, (c.down N)⟩
  replace n := iteF du n
  refine sg [.k,.q,.s,.p,.p,.e] c b fun a b => ?_
  refine W.cond b rfl (fun dw => ?_) (fun dw => ?_)
  ·replace n := iteT dw n
   refine sg [.s,.p] c b fun a b => ?_
   refine vP c b (A6.isNilP b rfl rfl b0h) rfl fun a b => ?_
   refine sl [.p,.e] c b fun a b => ?_
   refine W.ret ?_
   refine fg [_] b ?_
   obtain rfl := oi n
   replace c := c.tail
   exact ⟨rfl, (c.down N)⟩
  replace n := iteF dw n
  refine sg [.k,.s,.B 0,.p] c b fun a b => ?_
  refine vP c b (A6.build b (vs := [(0, .agg (List.toArray [.slice q x0.Trains.length o, .slice t x0.Turns.length p])), (1, vi x1)]) [.slice q x0.Trains.length o, .slice t x0.Turns.length p, vi x1, vi 0, .slice none 0 0, .slice none 0 0] rfl (by kernel_rfl)) rfl fun a b => ?_
  refine bw b c fun aX a w b c => ?_
  refine sl [.p,.e,.q] c b fun a b => ?_
  replace c := c.vecNil 50 5
  replace c := c.hotNil 83 1
  have gN : HEv 1 C9 G ⟨[], []⟩ ([] : List C4) := HEv.nil
  obtain ⟨fm, l, n⟩ := B4 n
  refine W.cut (fun a w => ∃ bD aM aN a_ ar au ce cf ba bb bc bd aO aP bE aH aQ aR bF aI, (.next (bD, aM, aN, a_, ar, au)) = fm ∧ Sl 1 (RI .i64) G ce cf bD ∧ Sl 4 A7 G ba bb aM ∧ Sl 1 (RL 1 (RI .i64)) G bc bd aN ∧ HEv 1 C9 G aH ar ∧ ar.length = bE ∧ Ev 5 A5 G aI au ∧ au.length = bF ∧ Rep a 219 [(11, .pointer none), (14, pp aX)] ∧ St w G (M5 83 1 aO aP bE aH :: B2 50 5 aQ aR bF aI :: pc aX #[.slice ba aM.length bb, .slice bc aN.length bd, vi x1, vi a_, .slice aO bE aP, .slice aQ bF aR] 39 :: pc S #[.slice q x0.Trains.length o, .slice t x0.Turns.length p] 25 :: R)) ?_ ?_
  ·refine W.block ?_
   refine W.loop (fun m a w => ∃ cg bD aM aN a_ ar au ce cf ba bb bc bd aO aP bE aH aQ aR bF aI, cg = m ∧ E7.loop1 x2 x3 cg bD aM aN a_ ar au = some fm ∧ Sl 1 (RI .i64) G ce cf bD ∧ Sl 4 A7 G ba bb aM ∧ Sl 1 (RL 1 (RI .i64)) G bc bd aN ∧ HEv 1 C9 G aH ar ∧ ar.length = bE ∧ Ev 5 A5 G aI au ∧ au.length = bF ∧ Rep a 219 [(2, .slice a2 x2.length c2), (3, .slice a3 x3.length c3), (4, .slice ce bD.length cf), (11, .pointer none), (14, pp aX)] ∧ St w G (M5 83 1 aO aP bE aH :: B2 50 5 aQ aR bF aI :: pc aX #[.slice ba aM.length bb, .slice bc aN.length bd, vi x1, vi a_, .slice aO bE aP, .slice aQ bF aR] 39 :: pc S #[.slice q x0.Trains.length o, .slice t x0.Turns.length p] 25 :: R)) (m := fu) ⟨fu, x4, x0.Trains, x0.Turns, 0, ([] : List C4), [], a4, c4, q, o, t, p, none, 0, 0, ⟨[], []⟩, none, 0, 0, [], rfl, l, h4, j, k, gN, (rfl), (Ev.nil), (rfl), b.pk, c⟩ ?_
   clear b c a w l; rintro je a w ⟨cg, bD, aM, aN, a_, ar, au, ce, cf, ba, bb, bc, bd, aO, aP, bE, aH, aQ, aR, bF, aI, rfl, l, cF, ep, eq, er, rfl, es, rfl, b, c⟩
   refine W.gen fun jf dx => ?_
   rcases cg with _ | cg
   ·rw [E7.loop1] at l; exact absurd l (by simp)
   rw [E7.loop1] at l
   refine sg [.q,.s,.p,.l 3 1,.p,.e] c b fun a b => ?_
   refine W.cond b rfl (fun dy => ?_) (fun dy => ?_)
   ·replace l := iteT dy l
    refine sg [.k,.o,.q] c b fun a b => ?_
    refine rQ c mixed ?_
    obtain ⟨gO, iu, hX, fH, l⟩ := gxS l
    obtain ⟨iv, iw, fI, hY⟩ := cF.at fH
    subst fI
    refine sq [.p,.x 3,.H,.p] b fun a b => ?_
    obtain ⟨cG, iy, hZ, fJ, l⟩ := gxS l
    obtain ⟨iz, iA, fK, h0⟩ := cF.at fJ
    subst fK
    obtain ⟨fn, iB, h1, fL, l⟩ := gxS l
    obtain ⟨iC, iD, fM, h5⟩ := cF.at fL
    subst fM
    refine sq [.x 3,.H,.p,.x 3,.H,.p,.p,.p] b fun a b => ?_
    refine QL.nil ?_; clear c w; intro w c
    refine sg [.s,.p] c b fun a b => ?_
    obtain ⟨cZ, e3, l⟩ := B4 l
    obtain ⟨c0, c1, fo, gP⟩ := cF.cut e3
    obtain ⟨gQ, jg, jh, _⟩ := Q9 e3
    refine vP c b (A6.slL b a8S rfl rfl gQ (by omega) (by simpa using fo)) rfl fun a b => ?_
    refine sl [.p,.e,.q,.o,.s,.p,.p,.p,.e] c b fun a b => ?_
    obtain ⟨gR, v, l⟩ := B4 l
    refine W.cut (fun a w => ∃ cH cI c5 bT bU c6 c7 c8 c9 cJ cK dz cA cL cM dA cB, .next (cH, cI, c5, bT, bU) = gR ∧ Sl 4 A7 G c6 c7 cH ∧ Sl 1 (RL 1 (RI .i64)) G c8 c9 cI ∧ HEv 1 C9 G cA bT ∧ bT.length = dz ∧ Ev 5 A5 G cB bU ∧ bU.length = dA ∧ Rep a 219 [(2, .slice a2 x2.length c2), (3, .slice a3 x3.length c3), (4, .slice c0 cZ.length c1), (11, .pointer none), (14, pp aX)] ∧ St w G (M5 83 1 cJ cK dz cA :: B2 50 5 cL cM dA cB :: pc aX #[.slice c6 cH.length c7, .slice c8 cI.length c9, vi x1, vi c5, .slice cJ dz cK, .slice cL dA cM] 39 :: pc S #[.slice q x0.Trains.length o, .slice t x0.Turns.length p] 25 :: R)) ?_ ?_
    ·refine W.gen fun ji fN => ?_
     refine W.cond b rfl (fun dB => ?_) (fun dB => ?_)
     ·replace v := iteT dB v
      refine sg [.s,.p,.p] c b fun a b => ?_
      exact absurd v (by simp)
     replace v := iteF dB v
     refine W.seq ?_
     obtain ⟨gS, aJ, v⟩ := R8 v
     refine W.cut (fun a w => ∃ et, et = gS ∧ Rep a 219 [(2, .slice a2 x2.length c2), (3, .slice a3 x3.length c3), (4, .slice c0 cZ.length c1), (11, .pointer none), (14, pp aX), (16, vi cG), (17, vi fn), (110, .bool et)] ∧ St w G (M5 83 1 aO aP ar.length aH :: B2 50 5 aQ aR au.length aI :: pc aX #[.slice ba aM.length bb, .slice bc aN.length bd, vi x1, vi a_, .slice aO ar.length aP, .slice aQ au.length aR] 39 :: pc S #[.slice q x0.Trains.length o, .slice t x0.Turns.length p] 25 :: R)) ?_ ?_
     ·refine W.gen fun jj dC => ?_
      refine sg [.r,.p,.p,.p] c b fun a b => ?_
      rcases b2o (gO == 1) with dD | dD
      ·replace aJ := iteT dD aJ
       refine sl [.p,.p,.T,.p] c b fun a b => ?_
       rcases b2o (decide (cG ≥ 0)) with dE | dE
       ·replace aJ := iteT dE aJ
        refine sl [.p,.p,.l 25 2,.p,.T,.p,.e] c b fun a b => ?_
        subst dC
        exact ⟨decide (cG < ((x2).length : Int)), aJ, b.pk, c⟩
       replace aJ := iteF dE aJ
       refine sl [.O,.O,.O,.O,.N,.p,.e] c b fun a b => ?_
       subst dC
       exact ⟨false, aJ, b.pk, c⟩
      replace aJ := iteF dD aJ
      refine sl [.O,.O,.N,.p,.O,.O,.O,.O,.N,.p,.e] c b fun a b => ?_
      subst dC
      exact ⟨false, aJ, b.pk, c⟩
     clear b c a w; rintro a w ⟨et, rfl, b, c⟩
     refine W.cond b rfl (fun dF => ?_) (fun dF => ?_)
     ·replace v := iteT dF v
      obtain ⟨jk, iE, h6, fO, v⟩ := gxS v
      obtain ⟨iF, iG, fP, h7⟩ := h2.at fO
      obtain ⟨jl, jm, jn, jo, rfl, jp, jq⟩ := fP
      refine sg [.s,.p,.p,.p,.x 25,.h,.p] c b fun a b => ?_
      exact absurd v (by simp)
     replace v := iteF dF v
     refine W.seq ?_
     obtain ⟨gT, b_, v⟩ := R8 v
     refine W.cut (fun a w => ∃ eu, eu = gT ∧ Rep a 219 [(2, .slice a2 x2.length c2), (3, .slice a3 x3.length c3), (4, .slice c0 cZ.length c1), (11, .pointer none), (14, pp aX), (16, vi cG), (17, vi fn), (159, .bool eu)] ∧ St w G (M5 83 1 aO aP ar.length aH :: B2 50 5 aQ aR au.length aI :: pc aX #[.slice ba aM.length bb, .slice bc aN.length bd, vi x1, vi a_, .slice aO ar.length aP, .slice aQ au.length aR] 39 :: pc S #[.slice q x0.Trains.length o, .slice t x0.Turns.length p] 25 :: R)) ?_ ?_
     ·refine W.gen fun jr e4 => ?_
      refine sg [.r,.p,.p,.p] c b fun a b => ?_
      rcases b2o (decide (cG ≥ 0)) with dG | dG
      ·replace b_ := iteT dG b_
       refine sl [.p,.p,.l 42 1,.p,.T,.p,.e] c b fun a b => ?_
       subst e4
       exact ⟨decide (cG < ((x3).length : Int)), b_, b.pk, c⟩
      replace b_ := iteF dG b_
      refine sl [.O,.O,.O,.O,.N,.p,.e] c b fun a b => ?_
      subst e4
      exact ⟨false, b_, b.pk, c⟩
     clear b c a w; rintro a w ⟨eu, rfl, b, c⟩
     refine W.cond b rfl (fun dH => ?_) (fun dH => ?_)
     ·replace v := iteT dH v
      obtain ⟨js, iH, h8, fQ, v⟩ := gxS v
      obtain ⟨iI, iJ, fR, h9⟩ := h3.at fQ
      obtain ⟨jt, ju, rfl, jv⟩ := fR
      refine sg [.s,.p,.p,.p,.x 42,.h,.p] c b fun a b => ?_
      exact absurd v (by simp)
     replace v := iteF dH v
     refine W.skip ?_
     subst fN
     exact ⟨aM, aN, a_, ar, au, ba, bb, bc, bd, aO, aP, ar.length, aH, aQ, aR, au.length, aI, oi v, ep, eq, er, rfl, es, rfl, b.pk, c⟩
    clear b c a w; rintro a w ⟨cH, cI, c5, bT, bU, c6, c7, c8, c9, cJ, cK, dz, cA, cL, cM, dA, cB, rfl, gU, gV, gW, rfl, gX, rfl, b, c⟩
    dsimp only at l
    refine W.seq ?_
    obtain ⟨gY, fS, l⟩ := B4 l
    refine W.cut (fun a w => ∃ ev, ev = gY ∧ Rep a 219 [(2, .slice a2 x2.length c2), (3, .slice a3 x3.length c3), (4, .slice c0 cZ.length c1), (11, .pointer none), (14, pp aX), (211, .bool ev)] ∧ St w G (M5 83 1 cJ cK bT.length cA :: B2 50 5 cL cM bU.length cB :: pc aX #[.slice c6 cH.length c7, .slice c8 cI.length c9, vi x1, vi c5, .slice cJ bT.length cK, .slice cL bU.length cM] 39 :: pc S #[.slice q x0.Trains.length o, .slice t x0.Turns.length p] 25 :: R)) ?_ ?_
    ·refine W.gen fun jw iK => ?_
     refine rQ c mixed ?_
     refine sq [.p] b fun a b => ?_
     exact absurd fS (by simp)
    clear b c a w; rintro a w ⟨ev, rfl, b, c⟩
    refine W.cond b rfl (fun dI => ?_) (fun dI => ?_)
    ·replace l := iteT dI l
     refine sg [.s,.p,.e] c b fun a b => ?_
     refine W.ret ?_
     subst dx
     rw [← oi l] at n
     dsimp only at n
     refine fg [_] b ?_
     obtain rfl := oi n
     replace c := pm [.D 0,.D 0,.D 0,.D 0] c
     exact ⟨rfl, (c.down N)⟩
    replace l := iteF dI l
    refine W.skip ?_
    subst dx
    exact ⟨cg, Nat.lt_succ_self _, cg, cZ, cH, cI, c5, bT, bU, c0, c1, c6, c7, c8, c9, cJ, cK, bT.length, cA, cL, cM, bU.length, cB, rfl, l, gP, gU, gV, gW, rfl, gX, rfl, b.pk, c⟩
   replace l := iteF dy l
   subst dx
   refine W.exit rfl ?_
   exact ⟨bD, aM, aN, a_, ar, au, ce, cf, ba, bb, bc, bd, aO, aP, ar.length, aH, aQ, aR, au.length, aI, oi l, cF, ep, eq, er, rfl, es, rfl, b.pk, c⟩
  clear b c a w; rintro a w ⟨bD, aM, aN, a_, ar, au, ce, cf, ba, bb, bc, bd, aO, aP, bE, aH, aQ, aR, bF, aI, rfl, cF, ep, eq, er, rfl, es, rfl, b, c⟩
  dsimp only at n
  refine W.seq ?_
  refine rQ c mixed ?_
  refine sq [.p] b fun a b => ?_
  exact absurd n (by simp)
 refine ⟨_, rfl, ?_⟩; clear a; intro a b
 obtain ⟨j, k, h2, h3⟩ := m4 N j k h2 h3
 replace h4 := m1 N h4
 rw [gK] at n; dsimp only at n
 refine sl [.p,.p,.p,.p,.p,.e,.s,.B 3] c b fun a b => ?_
 obtain ⟨ew, fT, n⟩ := B4 n
 refine fq b (P8 c j k fT) ?_; rintro _ w ⟨rfl, c⟩; refine ⟨_, rfl, fun a b => ?_⟩
 refine sl [.p,.e,.q,.q] c b fun a b => ?_
 obtain ⟨gZ, aK, n⟩ := R8 n
 refine W.cut (fun a w => ∃ ex, ex = gZ ∧ Rep a 219 [(1, vi x1), (2, .slice a2 x2.length c2), (3, .slice a3 x3.length c3), (4, .slice a4 x4.length c4), (5, pp S), (11, pp ad), (12, vi dp.2), (13, vi ew), (49, .bool ex)] ∧ St w G (pc ad #[.slice eY H.1.length eZ, .slice e0 H.2.1.length e1, vi H.2.2.1, vi H.2.2.2.1, .slice cV H.2.2.2.2.1.length cW, .slice cX H.2.2.2.2.2.length cY] 69 :: M5 78 11 cV cW H.2.2.2.2.1.length dr :: B2 50 5 cX cY H.2.2.2.2.2.length ds :: pc S #[.slice q x0.Trains.length o, .slice t x0.Turns.length p] 25 :: R)) ?_ ?_
 ·refine W.gen fun jx dJ => ?_
  refine sg [.r,.p,.p,.p] c b fun a b => ?_
  rcases b2o (ew == 0) with dK | dK
  ·replace aK := iteT dK aK
   refine sl [.p,.p,.p] c b fun a b => ?_
   rcases b2o (decide (x1 < 0)) with dL | dL
   ·replace aK := iteT dL aK
    refine sl [.O,.O,.T,.T,.e] c b fun a b => ?_
    subst dJ
    exact ⟨true, aK, b.pk, c⟩
   replace aK := iteF dL aK
   refine sl [.p,.p,.N,.T,.e] c b fun a b => ?_
   subst dJ
   exact ⟨decide (x1 > 28800), aK, b.pk, c⟩
  replace aK := iteF dK aK
  refine sl [.O,.O,.O,.U,.U,.O,.N,.e] c b fun a b => ?_
  subst dJ
  exact ⟨false, aK, b.pk, c⟩
 clear b c a w; rintro a w ⟨ex, rfl, b, c⟩
 obtain ⟨g0, ca, n⟩ := R8 n
 refine W.cut (fun a w => ∃ c_, c_ = g0 ∧ Rep a 219 [(1, vi x1), (2, .slice a2 x2.length c2), (3, .slice a3 x3.length c3), (4, .slice a4 x4.length c4), (5, pp S), (11, pp ad), (12, vi dp.2), (13, vi c_)] ∧ St w G (pc ad #[.slice eY H.1.length eZ, .slice e0 H.2.1.length e1, vi H.2.2.1, vi H.2.2.2.1, .slice cV H.2.2.2.2.1.length cW, .slice cX H.2.2.2.2.2.length cY] 69 :: M5 78 11 cV cW H.2.2.2.2.1.length dr :: B2 50 5 cX cY H.2.2.2.2.2.length ds :: pc S #[.slice q x0.Trains.length o, .slice t x0.Turns.length p] 25 :: R)) ?_ ?_
 ·refine W.gen fun jy e5 => ?_
  refine W.cond b rfl (fun dM => ?_) (fun dM => ?_)
  ·replace ca := iteT dM ca
   refine sg [.r,.p,.e] c b fun a b => ?_
   subst e5
   exact ⟨2, ca, b.pk, c⟩
  replace ca := iteF dM ca
  refine W.skip ?_
  subst e5
  exact ⟨ew, ca, b.pk, c⟩
 clear b c a w; rintro a w ⟨c_, rfl, b, c⟩
 refine sg [.q,.q] c b fun a b => ?_
 obtain ⟨g1, bl, n⟩ := B4 n
 refine W.cut (fun a w => ∃ ey, ey = g1 ∧ Rep a 219 [(1, vi x1), (2, .slice a2 x2.length c2), (3, .slice a3 x3.length c3), (4, .slice a4 x4.length c4), (5, pp S), (11, pp ad), (13, vi c_), (56, .bool ey)] ∧ St w G (pc ad #[.slice eY H.1.length eZ, .slice e0 H.2.1.length e1, vi H.2.2.1, vi H.2.2.2.1, .slice cV H.2.2.2.2.1.length cW, .slice cX H.2.2.2.2.2.length cY] 69 :: M5 78 11 cV cW H.2.2.2.2.1.length dr :: B2 50 5 cX cY H.2.2.2.2.2.length ds :: pc S #[.slice q x0.Trains.length o, .slice t x0.Turns.length p] 25 :: R)) ?_ ?_
 ·refine W.gen fun jz e6 => ?_
  refine W.region ?_
  obtain ⟨g2, fU, bl⟩ := B4 bl
  refine fq b (Y7 c (a0S.mono N dq) fU) ?_; rintro _ w ⟨rfl, c⟩; refine ⟨_, rfl, fun a b => ?_⟩
  refine sl [.p,.p] c b fun a b => ?_
  rcases b2o !g2 with dN | dN
  ·replace bl := iteT dN bl
   refine sl [.O,.O,.O,.T,.e] c b fun a b => ?_
   subst e6
   exact ⟨true, oi bl, b.pk, c⟩
  replace bl := iteF dN bl
  refine sl [.p,.p,.p,.N,.e] c b fun a b => ?_
  subst e6
  exact ⟨(dp.2 != c_), oi bl, b.pk, c⟩
 clear b c a w; rintro a w ⟨ey, rfl, b, c⟩
 refine W.cond b rfl (fun dO => ?_) (fun dO => ?_)
 ·replace n := iteT dO n
  refine sg [.s,.p,.e] c b fun a b => ?_
  refine W.ret ?_
  refine fg [_] b ?_
  obtain rfl := oi n
  replace c := pm [.D 0,.D 0,.D 0,.D 0] c
  exact ⟨rfl, (c.down N)⟩
 replace n := iteF dO n
 refine sg [.k,.q,.s,.p,.p,.e] c b fun a b => ?_
 refine W.cond b rfl (fun dP => ?_) (fun dP => ?_)
 ·replace n := iteT dP n
  refine sg [.s,.p] c b fun a b => ?_
  refine vP c b (A6.isNilP b rfl rfl b0h) rfl fun a b => ?_
  refine sl [.p,.e] c b fun a b => ?_
  refine W.ret ?_
  refine fg [_] b ?_
  obtain rfl := oi n
  replace c := pm [.D 0,.D 0,.D 0,.D 0] c
  exact ⟨rfl, (c.down N)⟩
 replace n := iteF dP n
 refine sg [.k,.s,.B 3,.p] c b fun a b => ?_
 refine vP c b (A6.build b (vs := [(0, .agg (List.toArray [.slice q x0.Trains.length o, .slice t x0.Turns.length p])), (1, vi x1)]) [.slice q x0.Trains.length o, .slice t x0.Turns.length p, vi x1, vi 0, .slice none 0 0, .slice none 0 0] rfl (by kernel_rfl)) rfl fun a b => ?_
 refine bw b c fun O a w b c => ?_
 refine sl [.p,.e,.q] c b fun a b => ?_
 replace c := c.vecNil 50 5
 replace c := c.hotNil 83 1
 have da : HEv 1 C9 G ⟨[], []⟩ ([] : List C4) := HEv.nil
 obtain ⟨fp, h, n⟩ := B4 n
 refine W.cut (fun a w => ∃ bG P Q av u x U V aj aw y A ch ci az aA aB aC X Y bH aq ag ah bI ae aD aE aF aG Z aa bJ ax ak am bK an z, G.Le z ∧ (.next (bG, P, Q, av, u, x, U, V, aj, aw, y, A)) = fp ∧ Sl 1 (RI .i64) z ch ci bG ∧ Sl 4 A7 z az aA P ∧ Sl 1 (RL 1 (RI .i64)) z aB aC Q ∧ HEv 1 C9 z aq u ∧ u.length = bH ∧ Ev 5 A5 z ae x ∧ x.length = bI ∧ Sl 4 A7 z aD aE U ∧ Sl 1 (RL 1 (RI .i64)) z aF aG V ∧ HEv 11 D0 z ax y ∧ y.length = bJ ∧ Ev 5 A5 z an A ∧ A.length = bK ∧ Rep a 219 [(11, pp ad), (14, pp O)] ∧ St w z (M5 83 1 X Y bH aq :: B2 50 5 ag ah bI ae :: pc O #[.slice az P.length aA, .slice aB Q.length aC, vi x1, vi av, .slice X bH Y, .slice ag bI ah] 39 :: pc ad #[.slice aD U.length aE, .slice aF V.length aG, vi aj, vi aw, .slice Z bJ aa, .slice ak bK am] 69 :: M5 78 11 Z aa bJ ax :: B2 50 5 ak am bK an :: pc S #[.slice q x0.Trains.length o, .slice t x0.Turns.length p] 25 :: R)) ?_ ?_
 ·refine W.block ?_
  refine W.loop (fun m a w => ∃ cj bG P Q av u x U V aj aw y A ch ci az aA aB aC X Y bH aq ag ah bI ae aD aE aF aG Z aa bJ ax ak am bK an z, cj = m ∧ G.Le z ∧ E7.loop2 x1 x2 x3 fu cj bG P Q av u x U V aj aw y A = some fp ∧ Sl 1 (RI .i64) z ch ci bG ∧ Sl 4 A7 z az aA P ∧ Sl 1 (RL 1 (RI .i64)) z aB aC Q ∧ HEv 1 C9 z aq u ∧ u.length = bH ∧ Ev 5 A5 z ae x ∧ x.length = bI ∧ Sl 4 A7 z aD aE U ∧ Sl 1 (RL 1 (RI .i64)) z aF aG V ∧ HEv 11 D0 z ax y ∧ y.length = bJ ∧ Ev 5 A5 z an A ∧ A.length = bK ∧ Rep a 219 [(2, .slice a2 x2.length c2), (3, .slice a3 x3.length c3), (4, .slice ch bG.length ci), (11, pp ad), (14, pp O)] ∧ St w z (M5 83 1 X Y bH aq :: B2 50 5 ag ah bI ae :: pc O #[.slice az P.length aA, .slice aB Q.length aC, vi x1, vi av, .slice X bH Y, .slice ag bI ah] 39 :: pc ad #[.slice aD U.length aE, .slice aF V.length aG, vi aj, vi aw, .slice Z bJ aa, .slice ak bK am] 69 :: M5 78 11 Z aa bJ ax :: B2 50 5 ak am bK an :: pc S #[.slice q x0.Trains.length o, .slice t x0.Turns.length p] 25 :: R)) (m := fu) ⟨fu, x4, x0.Trains, x0.Turns, 0, ([] : List C4), [], H.1, H.2.1, H.2.2.1, H.2.2.2.1, H.2.2.2.2.1, H.2.2.2.2.2, a4, c4, q, o, t, p, none, 0, 0, ⟨[], []⟩, none, 0, 0, [], eY, eZ, e0, e1, cV, cW, H.2.2.2.2.1.length, dr, cX, cY, H.2.2.2.2.2.length, ds, G, rfl, lr, h, h4, j, k, da, (rfl), (Ev.nil), (rfl), eg, eh, ei, rfl, ej, rfl, b.pk, c⟩ ?_
  clear b c a w h; rintro jA a w ⟨cj, bG, P, Q, av, u, x, U, V, aj, aw, y, A, ch, ci, az, aA, aB, aC, X, Y, bH, aq, ag, ah, bI, ae, aD, aE, aF, aG, Z, aa, bJ, ax, ak, am, bK, an, z, rfl, I, h, aY, B, C, F, rfl, E, rfl, J, K, ai, rfl, L, rfl, b, c⟩
  refine W.gen fun jB cb => ?_
  obtain ⟨h2, h3, h4, j⟩ := m4 I h2 h3 h4 j
  obtain ⟨k, da, eg, eh⟩ := m4 I k da eg eh
  obtain ⟨ei, ej⟩ := m2 I ei ej
  rcases cj with _ | cj
  ·rw [E7.loop2] at h; exact absurd h (by simp)
  rw [E7.loop2] at h
  refine sg [.q,.s,.p,.l 3 1,.p,.e] c b fun a b => ?_
  refine W.cond b rfl (fun dQ => ?_) (fun dQ => ?_)
  ·replace h := iteT dQ h
   refine sg [.k,.o,.q] c b fun a b => ?_
   refine rQ c mixed ?_
   obtain ⟨g3, iL, h_, fV, h⟩ := gxS h
   obtain ⟨iM, iN, fW, ia⟩ := aY.at fV
   subst fW
   refine sq [.p,.x 3,.H,.p] b fun a b => ?_
   obtain ⟨cN, iO, ib, fX, h⟩ := gxS h
   obtain ⟨iP, iQ, fY, ic⟩ := aY.at fX
   subst fY
   obtain ⟨fr, iR, ie, fZ, h⟩ := gxS h
   obtain ⟨iS, iT, f0, ig⟩ := aY.at fZ
   subst f0
   refine sq [.x 3,.H,.p,.x 3,.H,.p,.p,.p] b fun a b => ?_
   refine QL.nil ?_; clear c w; intro w c
   refine sg [.s,.p] c b fun a b => ?_
   obtain ⟨be, e7, h⟩ := B4 h
   obtain ⟨bf, bg, fs, D⟩ := aY.cut e7
   obtain ⟨g4, jC, jD, _⟩ := Q9 e7
   refine vP c b (A6.slL b a8S rfl rfl g4 (by omega) (by simpa using fs)) rfl fun a b => ?_
   refine sl [.p,.e,.q,.o,.s,.p,.p,.p,.e] c b fun a b => ?_
   obtain ⟨g5, d, h⟩ := B4 h
   refine W.cut (fun a w => ∃ bL bM ck aZ a0 bn bo bV bW aS aT cl cm cn co bX bY dR bN bZ b0 dS bO cp cq cr cs b1 b2 dT bP b3 b4 dU bQ aU, z.Le aU ∧ .next (bL, bM, ck, aZ, a0, bn, bo, bV, bW, aS, aT) = g5 ∧ Sl 4 A7 aU cl cm bL ∧ Sl 1 (RL 1 (RI .i64)) aU cn co bM ∧ HEv 1 C9 aU bN aZ ∧ aZ.length = dR ∧ Ev 5 A5 aU bO a0 ∧ a0.length = dS ∧ Sl 4 A7 aU cp cq bn ∧ Sl 1 (RL 1 (RI .i64)) aU cr cs bo ∧ HEv 11 D0 aU bP aS ∧ aS.length = dT ∧ Ev 5 A5 aU bQ aT ∧ aT.length = dU ∧ Rep a 219 [(2, .slice a2 x2.length c2), (3, .slice a3 x3.length c3), (4, .slice bf be.length bg), (11, pp ad), (14, pp O)] ∧ St w aU (M5 83 1 bX bY dR bN :: B2 50 5 bZ b0 dS bO :: pc O #[.slice cl bL.length cm, .slice cn bM.length co, vi x1, vi ck, .slice bX dR bY, .slice bZ dS b0] 39 :: pc ad #[.slice cp bn.length cq, .slice cr bo.length cs, vi bV, vi bW, .slice b1 dT b2, .slice b3 dU b4] 69 :: M5 78 11 b1 b2 dT bP :: B2 50 5 b3 b4 dU bQ :: pc S #[.slice q x0.Trains.length o, .slice t x0.Turns.length p] 25 :: R)) ?_ ?_
   ·refine W.gen fun jE bR => ?_
    refine W.cond b rfl (fun dV => ?_) (fun dV => ?_)
    ·replace d := iteT dV d
     obtain ⟨ez, f1, d⟩ := B4 d
     refine sm [.s,.p,.p,.F 5,.F 5,.F 5] c b fun a w b c => ?_
     refine fq b (Z9 (y0 := (G3.mk (D7.mk (B0.mk U V) aj) aw y A)) c J K ai rfl L rfl f1) ?_; rintro _ w ⟨iU, jF, rfl, bq, g6, c⟩; refine ⟨_, rfl, fun a b => ?_⟩
     obtain ⟨h2, h3, D, aY⟩ := m4 bq h2 h3 D aY
     obtain ⟨J, K, ai, L⟩ := m4 bq J K ai L
     obtain ⟨F, E, B, C⟩ := m4 bq F E B C
     obtain ⟨j, k⟩ := m2 bq j k
     obtain ⟨g7, g8, rfl, eA⟩ := g6
     refine sl [.p,.p,.p,.p] c b fun a b => ?_
     refine al b c a3B fun g9 a w b c => ?_
     obtain ⟨eB, f2, d⟩ := B4 d
     refine so [.A 0,.p,.p,.e,.s,.p,.p,.F 5,.F 5,.F 6] c b fun a w b c => ?_
     refine fq b (W9 (y0 := (F3.mk (B0.mk P Q) x1 av u x)) c B C F rfl E rfl f2) ?_; rintro _ w ⟨iV, ft, rfl, br, g_, c⟩; refine ⟨_, rfl, fun a b => ?_⟩
     obtain ⟨h2, h3, D, aY⟩ := m4 br h2 h3 D aY
     obtain ⟨eA, B, C, F⟩ := m4 br eA B C F
     obtain ⟨E, J, K, ai⟩ := m4 br E J K ai
     obtain ⟨L, j, k⟩ := m3 br L j k
     obtain ⟨ha, hb, rfl, hc⟩ := g_
     refine sl [.p,.p,.p,.p] c b fun a b => ?_
     refine al b c a3B fun hd a w b c => ?_
     refine so [.A 0,.p,.p,.e,.q] c b fun a w b c => ?_
     obtain ⟨he, ay, d⟩ := B4 d
     refine W.cut (fun a w => ∃ eC, eC = he ∧ Rep a 219 [(2, .slice a2 x2.length c2), (3, .slice a3 x3.length c3), (4, .slice bf be.length bg), (11, pp ad), (14, pp O), (109, .bool eC)] ∧ St w ft (pc hd #[.slice ha eB.1.Rides.length hb] 42 :: pc O #[.slice az P.length aA, .slice aB Q.length aC, vi x1, vi av, .slice X u.length Y, .slice ag x.length ah] 39 :: M5 83 1 X Y u.length aq :: B2 50 5 ag ah x.length ae :: pc g9 #[.slice g7 ez.1.Rides.length g8] 42 :: pc ad #[.slice aD U.length aE, .slice aF V.length aG, vi aj, vi aw, .slice Z y.length aa, .slice ak A.length am] 69 :: M5 78 11 Z aa y.length ax :: B2 50 5 ak am A.length an :: pc S #[.slice q x0.Trains.length o, .slice t x0.Turns.length p] 25 :: R)) ?_ ?_
     ·refine W.gen fun jG dW => ?_
      refine sg [.r,.p,.p,.p,.p] c b fun a b => ?_
      rcases b2o (ez.2.2 != eB.2.2) with dX | dX
      ·replace ay := iteT dX ay
       refine sl [.O,.O,.O,.T,.p,.O,.O,.O,.O,.T,.e] c b fun a b => ?_
       subst dW
       exact ⟨true, oi ay, b.pk, c⟩
      replace ay := iteF dX ay
      refine sl [.p,.p,.p,.N,.p] c b fun a b => ?_
      rcases b2o (ez.2.1 != eB.2.1) with cT | cT
      ·replace ay := iteT cT ay
       refine sl [.O,.O,.O,.O,.T,.e] c b fun a b => ?_
       subst dW
       exact ⟨true, oi ay, b.pk, c⟩
      replace ay := iteF cT ay
      refine sl [.B 4,.B 0] c b fun a b => ?_
      obtain ⟨hf, f3, ay⟩ := B4 ay
      have b5 := Z6 c eA hc f3
      refine WL.fnq b (b5) (F9 b rfl rfl rfl cT) bd9 rfl rfl rfl ?_
      clear b c b5; rintro e w ⟨rfl, c⟩; refine ⟨_, rfl, ?_⟩; clear a; intro a b
      refine sl [.p,.N,.e] c b fun a b => ?_
      subst dW
      exact ⟨!hf, oi ay, b.pk, c⟩
     clear b c a w; rintro a w ⟨eC, rfl, b, c⟩
     refine W.cond b rfl (fun dY => ?_) (fun dY => ?_)
     ·replace d := iteT dY d
      refine sg [.s,.p,.e] c b fun a b => ?_
      refine W.ret ?_
      subst bR
      subst cb
      rw [← oi d] at h
      dsimp only at h
      rw [← oi h] at n
      dsimp only at n
      refine fg [_] b ?_
      obtain rfl := oi n
      replace c := pm [.D 0,.D 0,.D 0,.D 0,.D 0,.D 0,.D 0,.D 0,.D 0] c
      exact ⟨rfl, (c.down (Sg.Le.trans (Sg.Le.trans (Sg.Le.trans N I) bq) br))⟩
     replace d := iteF dY d
     refine sm [.k,.D 0,.D 3,.F 6,.F 6,.F 6,.F 6,.F 4,.F 6,.F 6] c b fun a w b c => ?_
     subst bR
     exact ⟨P, Q, av, u, x, U, V, aj, aw, y, A, az, aA, aB, aC, X, Y, u.length, aq, ag, ah, x.length, ae, aD, aE, aF, aG, Z, aa, y.length, ax, ak, am, A.length, an, ft, (Sg.Le.trans bq br), oi d, B, C, F, rfl, E, rfl, J, K, ai, rfl, L, rfl, b.pk, c⟩
    replace d := iteF dV d
    refine W.seq ?_
    obtain ⟨hg, aL, d⟩ := R8 d
    refine W.cut (fun a w => ∃ eD, eD = hg ∧ Rep a 219 [(2, .slice a2 x2.length c2), (3, .slice a3 x3.length c3), (4, .slice bf be.length bg), (11, pp ad), (14, pp O), (16, vi cN), (17, vi fr), (110, .bool eD)] ∧ St w z (M5 83 1 X Y u.length aq :: B2 50 5 ag ah x.length ae :: pc O #[.slice az P.length aA, .slice aB Q.length aC, vi x1, vi av, .slice X u.length Y, .slice ag x.length ah] 39 :: pc ad #[.slice aD U.length aE, .slice aF V.length aG, vi aj, vi aw, .slice Z y.length aa, .slice ak A.length am] 69 :: M5 78 11 Z aa y.length ax :: B2 50 5 ak am A.length an :: pc S #[.slice q x0.Trains.length o, .slice t x0.Turns.length p] 25 :: R)) ?_ ?_
    ·refine W.gen fun jH dZ => ?_
     refine sg [.r,.p,.p,.p] c b fun a b => ?_
     rcases b2o (g3 == 1) with d0 | d0
     ·replace aL := iteT d0 aL
      refine sl [.p,.p,.T,.p] c b fun a b => ?_
      rcases b2o (decide (cN ≥ 0)) with d1 | d1
      ·replace aL := iteT d1 aL
       refine sl [.p,.p,.l 25 2,.p,.T,.p,.e] c b fun a b => ?_
       subst dZ
       exact ⟨decide (cN < ((x2).length : Int)), aL, b.pk, c⟩
      replace aL := iteF d1 aL
      refine sl [.O,.O,.O,.O,.N,.p,.e] c b fun a b => ?_
      subst dZ
      exact ⟨false, aL, b.pk, c⟩
     replace aL := iteF d0 aL
     refine sl [.O,.O,.N,.p,.O,.O,.O,.O,.N,.p,.e] c b fun a b => ?_
     subst dZ
     exact ⟨false, aL, b.pk, c⟩
    clear b c a w; rintro a w ⟨eD, rfl, b, c⟩
    refine W.cond b rfl (fun d2 => ?_) (fun d2 => ?_)
    ·replace d := iteT d2 d
     obtain ⟨jI, iW, ih, f4, d⟩ := gxS d
     obtain ⟨iX, iY, f5, ii⟩ := h2.at f4
     obtain ⟨jJ, jK, jL, jM, rfl, ct, cu⟩ := f5
     obtain ⟨M, f6, d⟩ := B4 d
     refine sm [.s,.p,.p,.p,.x 25,.h,.p,.F 5,.F 5,.F 5] c b fun a w b c => ?_
     refine fq b (a0J (y0 := (G3.mk (D7.mk (B0.mk U V) aj) aw y A)) c (a0S.mono (Sg.Le.trans N I) dq) ct cu J K ai rfl L rfl f6) ?_; rintro _ w ⟨fv, fw, jN, f7, d3, eE, eF, eG, eH, db, dc, jO, d4, fx, rfl, bs, cv, rfl, cw, f8, cx, cy, cz, rfl, c⟩; refine ⟨_, rfl, fun a b => ?_⟩
     obtain ⟨h2, h3, D, ct⟩ := m4 bs h2 h3 D ct
     obtain ⟨cu, J, K, ai⟩ := m4 bs cu J K ai
     obtain ⟨L, F, E, B⟩ := m4 bs L F E B
     obtain ⟨C, j, k⟩ := m3 bs C j k
     obtain ⟨jP, iZ, ij, f9, d⟩ := gxS d
     obtain ⟨i0, i1, f_, ik⟩ := h2.at f9
     obtain ⟨jQ, jR, jS, jT, rfl, dd, de⟩ := f_
     refine sl [.p,.p,.p,.p,.p,.e,.s,.p,.e,.s,.p,.p,.x 25,.h] c b fun a b => ?_
     obtain ⟨hh, ga, d⟩ := B4 d
     refine fq b (P8 c dd de ga) ?_; rintro _ w ⟨rfl, c⟩; refine ⟨_, rfl, fun a b => ?_⟩
     refine sl [.p,.e,.q,.s,.p,.p,.e] c b fun a b => ?_
     obtain ⟨hi, aV, d⟩ := B4 d
     refine W.cut (fun a w => ∃ d5 d6 df cO cP dg b6 eI eJ cC dh di dj dk cQ cR d7 cD bp, fx.Le bp ∧ (d5, d6, df, cO, cP, dg, b6) = hi ∧ Sl 5 A5 bp eI eJ d5 ∧ HEv 1 C9 bp cC df ∧ df.length = u.length ∧ Sl 4 A7 bp dh di cO ∧ Sl 1 (RL 1 (RI .i64)) bp dj dk cP ∧ Ev 5 A5 bp cD b6 ∧ b6.length = d7 ∧ Rep a 219 [(2, .slice a2 x2.length c2), (3, .slice a3 x3.length c3), (4, .slice bf be.length bg), (11, pp ad), (14, pp O), (24, .slice fv M.1.length fw), (25, vi M.2.1), (26, .slice eI d5.length eJ), (27, vi d6)] ∧ St w bp (B2 50 5 fv fw M.1.length f7 :: pc ad #[.slice eE M.2.2.2.1.length eF, .slice eG M.2.2.2.2.1.length eH, vi M.2.2.2.2.2.1, vi M.2.2.2.2.2.2.1, .slice Z y.length aa, .slice db M.2.2.2.2.2.2.2.length dc] 69 :: M5 78 11 Z aa y.length d3 :: B2 50 5 db dc M.2.2.2.2.2.2.2.length d4 :: M5 83 1 X Y u.length cC :: B2 50 5 cQ cR d7 cD :: pc O #[.slice dh cO.length di, .slice dj cP.length dk, vi x1, vi dg, .slice X u.length Y, .slice cQ d7 cR] 39 :: pc S #[.slice q x0.Trains.length o, .slice t x0.Turns.length p] 25 :: R)) ?_ ?_
     ·refine W.gen fun jU e8 => ?_
      refine W.cond b rfl (fun d8 => ?_) (fun d8 => ?_)
      ·replace aV := iteT d8 aV
       obtain ⟨jV, i2, il, gb, aV⟩ := gxS aV
       obtain ⟨i3, i4, gc, im⟩ := h2.at gb
       obtain ⟨jW, jX, jY, jZ, rfl, dl, dm⟩ := gc
       obtain ⟨b7, gd, aV⟩ := B4 aV
       refine sm [.r,.p,.p,.p,.x 25,.h,.p,.F 5,.F 5,.F 6] c b fun a w b c => ?_
       refine fq b (Z5 (y0 := (F3.mk (B0.mk P Q) x1 av u x)) c dl dm B C F rfl E rfl gd) ?_; rintro _ w ⟨hj, hk, j0, i5, ge, hl, hm, hn, ho, hp, hq, j1, gf, j2, rfl, bt, hs, rfl, eK, gg, eL, eM, eN, rfl, c⟩; refine ⟨_, rfl, fun a b => ?_⟩
       obtain ⟨h2, h3, D, ct⟩ := m4 bt h2 h3 D ct
       obtain ⟨cu, dd, de, dl⟩ := m4 bt cu dd de dl
       obtain ⟨dm, B, C, F⟩ := m4 bt dm B C F
       obtain ⟨E, cv, cx, cy⟩ := m4 bt E cv cx cy
       obtain ⟨cw, cz, j, k⟩ := m4 bt cw cz j k
       refine sl [.p,.p,.p,.p,.p,.e] c b fun a b => ?_
       have hF := c.fixD A5.mono 0 rfl hs rfl; clear c; obtain ⟨ht, bu, c, hu⟩ := hF
       obtain ⟨h2, h3, D, ct⟩ := m4 bu h2 h3 D ct
       obtain ⟨cu, dd, de, dl⟩ := m4 bu cu dd de dl
       obtain ⟨dm, eL, eM, eK⟩ := m4 bu dm eL eM eK
       obtain ⟨eN, cv, cx, cy⟩ := m4 bu eN cv cx cy
       obtain ⟨cw, cz, j, k⟩ := m4 bu cw cz j k
       replace c := pm [.F 7,.F 1,.F 3,.F 3,.F 7,.F 7,.F 7,.F 7] c
       subst e8
       exact ⟨b7.1, b7.2.1, b7.2.2.1, b7.2.2.2.1, b7.2.2.2.2.1, b7.2.2.2.2.2.1, b7.2.2.2.2.2.2, hj, hk, ge, hl, hm, hn, ho, hp, hq, b7.2.2.2.2.2.2.length, gf, ht, (Sg.Le.trans bt bu), oi aV, hu, eK, gg, eL, eM, eN, rfl, b.pk, c⟩
      replace aV := iteF d8 aV
      refine W.skip ?_
      subst e8
      exact ⟨[], hh, u, P, Q, av, x, none, 0, aq, az, aA, aB, aC, ag, ah, x.length, ae, fx, lr, oi aV, Sl.nil, F, rfl, B, C, E, rfl, b.pk, c⟩
     clear b c a w; rintro a w ⟨d5, d6, df, cO, cP, dg, b6, eI, eJ, cC, dh, di, dj, dk, cQ, cR, d7, cD, bp, bv, rfl, hv, hw, gh, hx, hy, hz, rfl, b, c⟩
     dsimp only at d
     obtain ⟨h2, h3, D, cv⟩ := m4 bv h2 h3 D cv
     obtain ⟨cx, cy, cw, cz⟩ := m4 bv cx cy cw cz
     obtain ⟨F, E, B, C⟩ := m4 bv F E B C
     obtain ⟨j, k⟩ := m2 bv j k
     refine W.seq ?_
     obtain ⟨hA, bm, d⟩ := B4 d
     refine W.cut (fun a w => ∃ eO, eO = hA ∧ Rep a 219 [(2, .slice a2 x2.length c2), (3, .slice a3 x3.length c3), (4, .slice bf be.length bg), (11, pp ad), (14, pp O), (158, .bool eO)] ∧ St w bp (pc ad #[.slice eE M.2.2.2.1.length eF, .slice eG M.2.2.2.2.1.length eH, vi M.2.2.2.2.2.1, vi M.2.2.2.2.2.2.1, .slice Z y.length aa, .slice db M.2.2.2.2.2.2.2.length dc] 69 :: M5 78 11 Z aa y.length d3 :: B2 50 5 db dc M.2.2.2.2.2.2.2.length d4 :: M5 83 1 X Y u.length cC :: B2 50 5 cQ cR b6.length cD :: pc O #[.slice dh cO.length di, .slice dj cP.length dk, vi x1, vi dg, .slice X u.length Y, .slice cQ b6.length cR] 39 :: pc S #[.slice q x0.Trains.length o, .slice t x0.Turns.length p] 25 :: R)) ?_ ?_
     ·refine W.gen fun j3 e9 => ?_
      refine sg [.r,.p,.p,.p,.p] c b fun a b => ?_
      rcases b2o (M.2.1 != d6) with cU | cU
      ·replace bm := iteT cU bm
       refine so [.O,.O,.O,.O,.T,.e,.D 0] c b fun a w b c => ?_
       subst e9
       exact ⟨true, oi bm, b.pk, c⟩
      replace bm := iteF cU bm
      refine sl [.p,.p] c b fun a b => ?_
      obtain ⟨hB, gi, bm⟩ := B4 bm
      have hF := c.lendV A5.mono 0 rfl cv rfl; clear c; obtain ⟨j4, fy, c, gj, gk⟩ := hF
      have b5 := P6 c gj (Sl.mono A5.mono fy hv) gi
      refine WL.fnq b (b5) (F9 b rfl rfl rfl cU) b1k rfl rfl rfl ?_
      clear b c b5; rintro e w ⟨rfl, c⟩; refine ⟨_, rfl, ?_⟩; clear a; intro a b
      replace c := gk _ _ c
      refine so [.p,.N,.e,.D 0] c b fun a w b c => ?_
      subst e9
      exact ⟨!hB, oi bm, b.pk, c⟩
     clear b c a w; rintro a w ⟨eO, rfl, b, c⟩
     refine W.cond b rfl (fun d9 => ?_) (fun d9 => ?_)
     ·replace d := iteT d9 d
      refine sg [.s,.p,.e] c b fun a b => ?_
      refine W.ret ?_
      subst bR
      subst cb
      rw [← oi d] at h
      dsimp only at h
      rw [← oi h] at n
      dsimp only at n
      refine fg [_] b ?_
      obtain rfl := oi n
      replace c := pm [.D 0,.D 0,.D 0,.D 0,.D 0,.D 0,.D 0] c
      exact ⟨rfl, (c.down (Sg.Le.trans (Sg.Le.trans (Sg.Le.trans N I) bs) bv))⟩
     replace d := iteF d9 d
     refine sm [.k,.F 6,.F 3,.F 3,.F 3,.F 6,.F 6,.F 6] c b fun a w b c => ?_
     subst bR
     exact ⟨cO, cP, dg, df, b6, M.2.2.2.1, M.2.2.2.2.1, M.2.2.2.2.2.1, M.2.2.2.2.2.2.1, M.2.2.1, M.2.2.2.2.2.2.2, dh, di, dj, dk, X, Y, u.length, cC, cQ, cR, b6.length, cD, eE, eF, eG, eH, Z, aa, y.length, d3, db, dc, M.2.2.2.2.2.2.2.length, d4, bp, (Sg.Le.trans bs bv), oi d, hx, hy, hw, gh, hz, rfl, cx, cy, cw, f8, cz, rfl, b.pk, c⟩
    replace d := iteF d2 d
    refine W.seq ?_
    obtain ⟨hC, cc, d⟩ := R8 d
    refine W.cut (fun a w => ∃ eP, eP = hC ∧ Rep a 219 [(2, .slice a2 x2.length c2), (3, .slice a3 x3.length c3), (4, .slice bf be.length bg), (11, pp ad), (14, pp O), (16, vi cN), (17, vi fr), (159, .bool eP)] ∧ St w z (M5 83 1 X Y u.length aq :: B2 50 5 ag ah x.length ae :: pc O #[.slice az P.length aA, .slice aB Q.length aC, vi x1, vi av, .slice X u.length Y, .slice ag x.length ah] 39 :: pc ad #[.slice aD U.length aE, .slice aF V.length aG, vi aj, vi aw, .slice Z y.length aa, .slice ak A.length am] 69 :: M5 78 11 Z aa y.length ax :: B2 50 5 ak am A.length an :: pc S #[.slice q x0.Trains.length o, .slice t x0.Turns.length p] 25 :: R)) ?_ ?_
    ·refine W.gen fun j5 e_ => ?_
     refine sg [.r,.p,.p,.p] c b fun a b => ?_
     rcases b2o (decide (cN ≥ 0)) with d_ | d_
     ·replace cc := iteT d_ cc
      refine sl [.p,.p,.l 42 1,.p,.T,.p,.e] c b fun a b => ?_
      subst e_
      exact ⟨decide (cN < ((x3).length : Int)), cc, b.pk, c⟩
     replace cc := iteF d_ cc
     refine sl [.O,.O,.O,.O,.N,.p,.e] c b fun a b => ?_
     subst e_
     exact ⟨false, cc, b.pk, c⟩
    clear b c a w; rintro a w ⟨eP, rfl, b, c⟩
    refine W.cond b rfl (fun ea => ?_) (fun ea => ?_)
    ·replace d := iteT ea d
     obtain ⟨j6, i6, io, gl, d⟩ := gxS d
     obtain ⟨i7, i8, gm, ip⟩ := h3.at gl
     obtain ⟨j7, j8, rfl, dn⟩ := gm
     obtain ⟨b8, gn, d⟩ := B4 d
     refine sm [.s,.p,.p,.p,.x 42,.h,.p,.F 5,.F 5,.F 5] c b fun a w b c => ?_
     refine fq b (a0L (y0 := (G3.mk (D7.mk (B0.mk U V) aj) aw y A)) c dn J K ai rfl L rfl gn) ?_; rintro _ w ⟨eQ, eR, j9, fa, j_, rfl, bz, eS, rfl, c⟩; refine ⟨_, rfl, fun a b => ?_⟩
     obtain ⟨h2, h3, D, dn⟩ := m4 bz h2 h3 D dn
     obtain ⟨J, K, ai, L⟩ := m4 bz J K ai L
     obtain ⟨F, E, B, C⟩ := m4 bz F E B C
     obtain ⟨j, k⟩ := m2 bz j k
     obtain ⟨ka, i9, iq, go, d⟩ := gxS d
     obtain ⟨i_, ja, gp, ir⟩ := h3.at go
     obtain ⟨kb, kc, rfl, eT⟩ := gp
     obtain ⟨b9, gq, d⟩ := B4 d
     refine so [.p,.p,.p,.p,.p,.e,.s,.p,.p,.p,.x 42,.h,.p,.F 4,.F 4,.F 5] c b fun a w b c => ?_
     refine fq b (Z8 (y0 := (F3.mk (B0.mk P Q) x1 av u x)) c eT B C F rfl E rfl gq) ?_; rintro _ w ⟨eU, eV, kd, fb, fz, rfl, bA, hD, rfl, c⟩; refine ⟨_, rfl, fun a b => ?_⟩
     obtain ⟨h2, h3, D, dn⟩ := m4 bA h2 h3 D dn
     obtain ⟨eT, B, C, F⟩ := m4 bA eT B C F
     obtain ⟨E, J, K, eS⟩ := m4 bA E J K eS
     obtain ⟨L, j, k⟩ := m3 bA L j k
     refine sl [.p,.p,.p,.p,.p,.e,.q] c b fun a b => ?_
     obtain ⟨hG, cd, d⟩ := R8 d
     refine W.cut (fun a w => ∃ eW, eW = hG ∧ Rep a 219 [(2, .slice a2 x2.length c2), (3, .slice a3 x3.length c3), (4, .slice bf be.length bg), (11, pp ad), (14, pp O), (195, .bool eW)] ∧ St w fz (pc O #[.slice az P.length aA, .slice aB Q.length aC, vi x1, vi b9.2.2.1, .slice eU b9.2.2.2.length eV, .slice ag x.length ah] 39 :: M5 83 1 eU eV b9.2.2.2.length fb :: B2 50 5 ag ah x.length ae :: pc ad #[.slice aD U.length aE, .slice aF V.length aG, vi aj, vi b8.2.2.1, .slice eQ b8.2.2.2.length eR, .slice ak A.length am] 69 :: M5 78 11 eQ eR b8.2.2.2.length fa :: B2 50 5 ak am A.length an :: pc S #[.slice q x0.Trains.length o, .slice t x0.Turns.length p] 25 :: R)) ?_ ?_
     ·refine W.gen fun ke fc => ?_
      refine sg [.r,.p,.p,.p,.p] c b fun a b => ?_
      rcases b2o (b8.2.1 != b9.2.1) with eb | eb
      ·replace cd := iteT eb cd
       refine sl [.O,.O,.O,.T,.e] c b fun a b => ?_
       subst fc
       exact ⟨true, cd, b.pk, c⟩
      replace cd := iteF eb cd
      refine sl [.p,.p,.p,.N,.e] c b fun a b => ?_
      subst fc
      exact ⟨(b8.1 != b9.1), cd, b.pk, c⟩
     clear b c a w; rintro a w ⟨eW, rfl, b, c⟩
     refine W.cond b rfl (fun ec => ?_) (fun ec => ?_)
     ·replace d := iteT ec d
      refine sg [.s,.p,.e] c b fun a b => ?_
      refine W.ret ?_
      subst bR
      subst cb
      rw [← oi d] at h
      dsimp only at h
      rw [← oi h] at n
      dsimp only at n
      refine fg [_] b ?_
      obtain rfl := oi n
      replace c := pm [.D 0,.D 0,.D 0,.D 0,.D 0,.D 0,.D 0] c
      exact ⟨rfl, (c.down (Sg.Le.trans (Sg.Le.trans (Sg.Le.trans N I) bz) bA))⟩
     replace d := iteF ec d
     refine sm [.k,.F 6,.F 6,.F 6,.F 6,.F 4,.F 6,.F 6] c b fun a w b c => ?_
     subst bR
     exact ⟨P, Q, b9.2.2.1, b9.2.2.2, x, U, V, aj, b8.2.2.1, b8.2.2.2, A, az, aA, aB, aC, eU, eV, b9.2.2.2.length, fb, ag, ah, x.length, ae, aD, aE, aF, aG, eQ, eR, b8.2.2.2.length, fa, ak, am, A.length, an, fz, (Sg.Le.trans bz bA), oi d, B, C, hD, rfl, E, rfl, J, K, eS, rfl, L, rfl, b.pk, c⟩
    replace d := iteF ea d
    refine W.skip ?_
    subst bR
    exact ⟨P, Q, av, u, x, U, V, aj, aw, y, A, az, aA, aB, aC, X, Y, u.length, aq, ag, ah, x.length, ae, aD, aE, aF, aG, Z, aa, y.length, ax, ak, am, A.length, an, z, lr, oi d, B, C, F, rfl, E, rfl, J, K, ai, rfl, L, rfl, b.pk, c⟩
   clear b c a w; rintro a w ⟨bL, bM, ck, aZ, a0, bn, bo, bV, bW, aS, aT, cl, cm, cn, co, bX, bY, dR, bN, bZ, b0, dS, bO, cp, cq, cr, cs, b1, b2, dT, bP, b3, b4, dU, bQ, aU, bB, rfl, bh, bi, bj, rfl, a1, rfl, a5, a6, a7, rfl, a8, rfl, b, c⟩
   dsimp only at h
   obtain ⟨h2, h3, D, F⟩ := m4 bB h2 h3 D F
   obtain ⟨E, B, C, J⟩ := m4 bB E B C J
   obtain ⟨K, ai, L, j⟩ := m4 bB K ai L j
   replace k := m1 bB k
   refine W.seq ?_
   obtain ⟨hH, af, h⟩ := B4 h
   refine W.cut (fun a w => ∃ eX ed, aU.Le ed ∧ eX = hH ∧ Rep a 219 [(2, .slice a2 x2.length c2), (3, .slice a3 x3.length c3), (4, .slice bf be.length bg), (11, pp ad), (14, pp O), (211, .bool eX)] ∧ St w ed (M5 83 1 bX bY aZ.length bN :: B2 50 5 bZ b0 a0.length bO :: pc O #[.slice cl bL.length cm, .slice cn bM.length co, vi x1, vi ck, .slice bX aZ.length bY, .slice bZ a0.length b0] 39 :: pc ad #[.slice cp bn.length cq, .slice cr bo.length cs, vi bV, vi bW, .slice b1 aS.length b2, .slice b3 aT.length b4] 69 :: M5 78 11 b1 b2 aS.length bP :: B2 50 5 b3 b4 aT.length bQ :: pc S #[.slice q x0.Trains.length o, .slice t x0.Turns.length p] 25 :: R)) ?_ ?_
   ·refine W.gen fun kf fd => ?_
    refine W.gen fun hI fe => ?_
    refine rE c [] [] [0, 1, 2, 3, 4, 5, 6, 7, 8, 9, 10, 11, 12, 13, 14, 15] [0, 1, 2, 3, 4, 5, 6, 7, 8, 9, 10, 11, 12, 13, 14, 15] mixed ?_
    replace c := c.drew
    refine sr [.P 0 .p,.P 2 .p] b c c fun a b => ?_
    refine ro 1 true true ?_
    obtain ⟨fA, gr, af⟩ := B4 af
    replace c := pm [.F 5,.F 5,.F 5] c
    refine fq b (X8 (y0 := (G3.mk (D7.mk (B0.mk bn bo) bV) bW aS aT)) c a5 a6 a7 rfl a8 rfl gr) ?_; rintro _ w ⟨hJ, hK, kg, ff, kh, rfl, f, cS, rfl, c⟩; refine ⟨_, rfl, fun a b => ?_⟩
    obtain ⟨h2, h3, D, a5⟩ := m4 f h2 h3 D a5
    obtain ⟨a6, a7, a8, bj⟩ := m4 f a6 a7 a8 bj
    obtain ⟨a1, bh, bi, j⟩ := m4 f a1 bh bi j
    replace k := m1 f k
    refine WL.nil ?_
    refine r3 (St.down f (St.front (St.front (St.front (St.front (St.front (St.front (St.front (c.tail) 6 rfl) 3 rfl) 3 rfl) 3 rfl) 6 rfl) 6 rfl) 6 rfl)) ?_
    refine ro 3 true true ?_
    obtain ⟨fB, gs, af⟩ := B4 af
    replace c := pm [.F 5,.F 5,.F 6] c
    refine fq b (V4 (y0 := (F3.mk (B0.mk bL bM) x1 ck aZ a0)) c bh bi bj rfl a1 rfl gs) ?_; rintro _ w ⟨hL, hM, ki, fh, ap, rfl, g, ee, rfl, c⟩; refine ⟨_, rfl, fun a b => ?_⟩
    obtain ⟨h2, h3, D, bh⟩ := m4 g h2 h3 D bh
    obtain ⟨bi, bj, a1, cS⟩ := m4 g bi bj a1 cS
    obtain ⟨a5, a6, a7, a8⟩ := m4 g a5 a6 a7 a8
    obtain ⟨j, k⟩ := m2 g j k
    refine WL.nil ?_
    refine r3 (St.down (Sg.Le.trans f g) (St.front (St.front (St.front (St.front (St.front (St.front (St.front ((c.tail).dropAt 3) 6 rfl) 6 rfl) 6 rfl) 6 rfl) 4 rfl) 6 rfl) 6 rfl)) ?_
    refine ro 4 true true ?_
    obtain ⟨hN, gt, af⟩ := B4 af
    have hF := c.lendV H0.mono 4 rfl cS rfl; clear c; obtain ⟨kj, fC, c, gu, gv⟩ := hF
    have hF := c.lendV H0.mono 0 rfl (Ev.mono H0.mono fC ee) rfl; clear c; obtain ⟨kk, fD, c, gw, gy⟩ := hF
    refine fq b (R9 c (Sl.mono H0.mono fD gu) gw gt) ?_; rintro _ w ⟨rfl, c⟩; refine ⟨_, rfl, fun a b => ?_⟩
    replace c := gy _ _ c
    replace c := gv _ _ c
    refine WL.nil ?_
    refine r3 (St.down (Sg.Le.trans f g) (St.front (St.front (St.front (St.front (St.front (St.front (St.front ((c.tail).tail) 6 rfl) 6 rfl) 6 rfl) 6 rfl) 4 rfl) 6 rfl) 6 rfl)) ?_
    refine sr [.P 5 .p,.P 6 .p] b (St.down (Sg.Le.trans f g) (St.front (St.front (St.front (St.front (St.front (St.front (St.front ((c.tail).tail) 6 rfl) 6 rfl) 6 rfl) 6 rfl) 4 rfl) 6 rfl) 6 rfl)) (St.down (Sg.Le.trans f g) (St.front (St.front (St.front (St.front (St.front (St.front (St.front ((c.tail).tail) 6 rfl) 6 rfl) 6 rfl) 6 rfl) 4 rfl) 6 rfl) 6 rfl)) fun a b => ?_
    rcases b2o !hN with T | T
    ·replace af := iteT T af
     refine Rg.no (i := 7) b rfl (by kernel_rfl) (K0 b rfl rfl rfl (by rw [T]; decide)) rfl (G2 (fun _ => (St.down (Sg.Le.trans f g) (St.front (St.front (St.front (St.front (St.front (St.front (St.front ((c.tail).tail) 6 rfl) 6 rfl) 6 rfl) 6 rfl) 4 rfl) 6 rfl) 6 rfl))) (fun _ => (St.down (Sg.Le.trans f g) (St.front (St.front (St.front (St.front (St.front (St.front (St.front ((c.tail).tail) 6 rfl) 6 rfl) 6 rfl) 6 rfl) 4 rfl) 6 rfl) 6 rfl)))) fun a b => ?_
     refine Rg.no (i := 9) b rfl (by kernel_rfl) (K0 b rfl rfl rfl (by rw [T]; decide)) rfl (G2 (fun _ => (St.down (Sg.Le.trans f g) (St.front (St.front (St.front (St.front (St.front (St.front (St.front ((c.tail).tail) 6 rfl) 6 rfl) 6 rfl) 6 rfl) 4 rfl) 6 rfl) 6 rfl))) (fun _ => (St.down (Sg.Le.trans f g) (St.front (St.front (St.front (St.front (St.front (St.front (St.front ((c.tail).tail) 6 rfl) 6 rfl) 6 rfl) 6 rfl) 4 rfl) 6 rfl) 6 rfl)))) fun a b => ?_
     refine Rg.no (i := 10) b rfl (by kernel_rfl) (K0 b rfl rfl rfl (by rw [T]; decide)) rfl (G2 (fun _ => (St.down (Sg.Le.trans f g) (St.front (St.front (St.front (St.front (St.front (St.front (St.front ((c.tail).tail) 6 rfl) 6 rfl) 6 rfl) 6 rfl) 4 rfl) 6 rfl) 6 rfl))) (fun _ => (St.down (Sg.Le.trans f g) (St.front (St.front (St.front (St.front (St.front (St.front (St.front ((c.tail).tail) 6 rfl) 6 rfl) 6 rfl) 6 rfl) 4 rfl) 6 rfl) 6 rfl)))) fun a b => ?_
     refine Rg.no (i := 11) b rfl (by kernel_rfl) (K0 b rfl rfl rfl (by rw [T]; decide)) rfl (G2 (fun _ => (St.down (Sg.Le.trans f g) (St.front (St.front (St.front (St.front (St.front (St.front (St.front ((c.tail).tail) 6 rfl) 6 rfl) 6 rfl) 6 rfl) 4 rfl) 6 rfl) 6 rfl))) (fun _ => (St.down (Sg.Le.trans f g) (St.front (St.front (St.front (St.front (St.front (St.front (St.front ((c.tail).tail) 6 rfl) 6 rfl) 6 rfl) 6 rfl) 4 rfl) 6 rfl) 6 rfl)))) fun a b => ?_
     suffices key : ∀ (a : Act) (w : World), aU.Le ap → Sl 2 S6 ap a2 c2 x2 → Sl 1 D9 ap a3 c3 x3 → Sl 1 (RI .i64) ap bf bg be → Ev 6 H0 ap ff fA → Ev 6 H0 ap fh fB → Sl 4 A7 ap cl cm bL → Sl 1 (RL 1 (RI .i64)) ap cn co bM → HEv 1 C9 ap bN aZ → Ev 5 A5 ap bO a0 → Sl 4 A7 ap cp cq bn → Sl 1 (RL 1 (RI .i64)) ap cr cs bo → HEv 11 D0 ap bP aS → Ev 5 A5 ap bQ aT → Sl 4 A7 ap q o x0.Trains → Sl 1 (RL 1 (RI .i64)) ap t p x0.Turns → Rep a 219 [(2, .slice a2 x2.length c2), (3, .slice a3 x3.length c3), (4, .slice bf be.length bg), (11, pp ad), (14, pp O), (211, .bool true)] → St w ap (B2 56 6 hJ hK fA.length ff :: B2 56 6 hL hM fB.length fh :: pc O #[.slice cl bL.length cm, .slice cn bM.length co, vi x1, vi ck, .slice bX aZ.length bY, .slice bZ a0.length b0] 39 :: M5 83 1 bX bY aZ.length bN :: B2 50 5 bZ b0 a0.length bO :: pc ad #[.slice cp bn.length cq, .slice cr bo.length cs, vi bV, vi bW, .slice b1 aS.length b2, .slice b3 aT.length b4] 69 :: M5 78 11 b1 b2 aS.length bP :: B2 50 5 b3 b4 aT.length bQ :: pc S #[.slice q x0.Trains.length o, .slice t x0.Turns.length p] 25 :: R) → hI.nor a w by
      refine Rg.many 8 [12] (by kernel_rfl) ⟨?_, ?_, trivial⟩
      ·refine bk 8 true true ?_
       refine sl [.O,.e] c b fun a b => ?_
       refine r3 (St.down (Sg.Le.trans f g) (St.front (St.front (St.front (St.front (St.front (St.front (St.front ((c.tail).tail) 6 rfl) 6 rfl) 6 rfl) 6 rfl) 4 rfl) 6 rfl) 6 rfl)) ?_
       refine ro 12 true true ?_
       refine sl [.O,.e] c b fun a b => ?_
       refine r3 (St.down (Sg.Le.trans f g) (St.front (St.front (St.front (St.front (St.front (St.front (St.front ((c.tail).tail) 6 rfl) 6 rfl) 6 rfl) 6 rfl) 4 rfl) 6 rfl) 6 rfl)) ?_
       refine ro 13 true true ?_
       refine sl [.O,.e] c b fun a b => ?_
       refine r3 (St.down (Sg.Le.trans f g) (St.front (St.front (St.front (St.front (St.front (St.front (St.front ((c.tail).tail) 6 rfl) 6 rfl) 6 rfl) 6 rfl) 4 rfl) 6 rfl) 6 rfl)) ?_
       refine Rg.no (i := 14) b rfl (by kernel_rfl) (K0 b rfl rfl rfl (by rw [T]; decide)) rfl (G2 (fun _ => (St.down (Sg.Le.trans f g) (St.front (St.front (St.front (St.front (St.front (St.front (St.front ((c.tail).tail) 6 rfl) 6 rfl) 6 rfl) 6 rfl) 4 rfl) 6 rfl) 6 rfl))) (fun _ => (St.down (Sg.Le.trans f g) (St.front (St.front (St.front (St.front (St.front (St.front (St.front ((c.tail).tail) 6 rfl) 6 rfl) 6 rfl) 6 rfl) 4 rfl) 6 rfl) 6 rfl)))) fun a b => ?_
       refine sr [.P 15 .T] b (St.down (Sg.Le.trans f g) (St.front (St.front (St.front (St.front (St.front (St.front (St.front ((c.tail).tail) 6 rfl) 6 rfl) 6 rfl) 6 rfl) 4 rfl) 6 rfl) 6 rfl)) (St.down (Sg.Le.trans f g) (St.front (St.front (St.front (St.front (St.front (St.front (St.front ((c.tail).tail) 6 rfl) 6 rfl) 6 rfl) 6 rfl) 4 rfl) 6 rfl) 6 rfl)) fun a b => ?_
       refine Rg.done (by kernel_rfl) ?_
       exact key  _ _ (Sg.Le.trans f g) h2 h3 D cS ee bh bi bj a1 a5 a6 a7 a8 j k b.pk c
      refine bk 12 true true ?_
      refine sl [.O,.e] c b fun a b => ?_
      refine r3 (St.down (Sg.Le.trans f g) (St.front (St.front (St.front (St.front (St.front (St.front (St.front ((c.tail).tail) 6 rfl) 6 rfl) 6 rfl) 6 rfl) 4 rfl) 6 rfl) 6 rfl)) ?_
      refine ro 8 true true ?_
      refine sl [.O,.e] c b fun a b => ?_
      refine r3 (St.down (Sg.Le.trans f g) (St.front (St.front (St.front (St.front (St.front (St.front (St.front ((c.tail).tail) 6 rfl) 6 rfl) 6 rfl) 6 rfl) 4 rfl) 6 rfl) 6 rfl)) ?_
      refine ro 13 true true ?_
      refine sl [.O,.e] c b fun a b => ?_
      refine r3 (St.down (Sg.Le.trans f g) (St.front (St.front (St.front (St.front (St.front (St.front (St.front ((c.tail).tail) 6 rfl) 6 rfl) 6 rfl) 6 rfl) 4 rfl) 6 rfl) 6 rfl)) ?_
      refine Rg.no (i := 14) b rfl (by kernel_rfl) (K0 b rfl rfl rfl (by rw [T]; decide)) rfl (G2 (fun _ => (St.down (Sg.Le.trans f g) (St.front (St.front (St.front (St.front (St.front (St.front (St.front ((c.tail).tail) 6 rfl) 6 rfl) 6 rfl) 6 rfl) 4 rfl) 6 rfl) 6 rfl))) (fun _ => (St.down (Sg.Le.trans f g) (St.front (St.front (St.front (St.front (St.front (St.front (St.front ((c.tail).tail) 6 rfl) 6 rfl) 6 rfl) 6 rfl) 4 rfl) 6 rfl) 6 rfl)))) fun a b => ?_
      refine sr [.P 15 .T] b (St.down (Sg.Le.trans f g) (St.front (St.front (St.front (St.front (St.front (St.front (St.front ((c.tail).tail) 6 rfl) 6 rfl) 6 rfl) 6 rfl) 4 rfl) 6 rfl) 6 rfl)) (St.down (Sg.Le.trans f g) (St.front (St.front (St.front (St.front (St.front (St.front (St.front ((c.tail).tail) 6 rfl) 6 rfl) 6 rfl) 6 rfl) 4 rfl) 6 rfl) 6 rfl)) fun a b => ?_
      refine Rg.done (by kernel_rfl) ?_
      exact key  _ _ (Sg.Le.trans f g) h2 h3 D cS ee bh bi bj a1 a5 a6 a7 a8 j k b.pk c
     clear b c a w; intro a w it h2 h3 D cS ee bh bi bj a1 a5 a6 a7 a8 j k b c
     subst fe
     replace c := pm [.D 0,.D 0,.F 6,.F 6,.F 6,.F 6,.F 4,.F 6,.F 6] c
     subst fd
     exact ⟨true, ap, (Sg.Le.trans f g), oi af, b.pk, c⟩
    replace af := iteF T af
    refine Rg.takeP (i := 7) b rfl (by kernel_rfl) (F9 b rfl rfl rfl T) (A6.p b rfl) rfl (G2 (fun _ => (St.down (Sg.Le.trans f g) (St.front (St.front (St.front (St.front (St.front (St.front (St.front ((c.tail).tail) 6 rfl) 6 rfl) 6 rfl) 6 rfl) 4 rfl) 6 rfl) 6 rfl))) (fun _ => (St.down (Sg.Le.trans f g) (St.front (St.front (St.front (St.front (St.front (St.front (St.front ((c.tail).tail) 6 rfl) 6 rfl) 6 rfl) 6 rfl) 4 rfl) 6 rfl) 6 rfl)))) fun a b => ?_
    refine Rg.takeP (i := 9) b rfl (by kernel_rfl) (F9 b rfl rfl rfl T) (A6.p b rfl) rfl (G2 (fun _ => (St.down (Sg.Le.trans f g) (St.front (St.front (St.front (St.front (St.front (St.front (St.front ((c.tail).tail) 6 rfl) 6 rfl) 6 rfl) 6 rfl) 4 rfl) 6 rfl) 6 rfl))) (fun _ => (St.down (Sg.Le.trans f g) (St.front (St.front (St.front (St.front (St.front (St.front (St.front ((c.tail).tail) 6 rfl) 6 rfl) 6 rfl) 6 rfl) 4 rfl) 6 rfl) 6 rfl)))) fun a b => ?_
    refine Rg.take (i := 10) true rfl b rfl (by kernel_rfl) (F9 b rfl rfl rfl T) (A6.nilOk b rfl) rfl (G2 (fun _ => (St.down (Sg.Le.trans f g) (St.front (St.front (St.front (St.front (St.front (St.front (St.front ((c.tail).tail) 6 rfl) 6 rfl) 6 rfl) 6 rfl) 4 rfl) 6 rfl) 6 rfl))) (fun _ => (St.down (Sg.Le.trans f g) (St.front (St.front (St.front (St.front (St.front (St.front (St.front ((c.tail).tail) 6 rfl) 6 rfl) 6 rfl) 6 rfl) 4 rfl) 6 rfl) 6 rfl)))) fun a b => ?_
    refine Rg.takeP (i := 11) b rfl (by kernel_rfl) (F9 b rfl rfl rfl T) (A6.fld b rfl a9x) rfl (G2 (fun _ => (St.down (Sg.Le.trans f g) (St.front (St.front (St.front (St.front (St.front (St.front (St.front ((c.tail).tail) 6 rfl) 6 rfl) 6 rfl) 6 rfl) 4 rfl) 6 rfl) 6 rfl))) (fun _ => (St.down (Sg.Le.trans f g) (St.front (St.front (St.front (St.front (St.front (St.front (St.front ((c.tail).tail) 6 rfl) 6 rfl) 6 rfl) 6 rfl) 4 rfl) 6 rfl) 6 rfl)))) fun a b => ?_
    refine Rg.take (i := 12) true rfl b rfl (by kernel_rfl) (F9 b rfl rfl rfl T) (A6.loadB b 2 rfl rfl rfl b1W) rfl (G2 (fun _ => (St.down (Sg.Le.trans f g) (St.front (St.front (St.front (St.front (St.front (St.front (St.front ((c.tail).tail) 6 rfl) 6 rfl) 6 rfl) 6 rfl) 4 rfl) 6 rfl) 6 rfl))) (fun _ => (St.down (Sg.Le.trans f g) (St.front (St.front (St.front (St.front (St.front (St.front (St.front ((c.tail).tail) 6 rfl) 6 rfl) 6 rfl) 6 rfl) 4 rfl) 6 rfl) 6 rfl)))) fun a b => ?_
    refine ro 8 true true ?_
    obtain ⟨kl, gz, af⟩ := B4 af
    replace c := pm [.F 7,.F 7,.F 7] c
    have b5 := Y1 (y0 := (G3.mk (D7.mk (B0.mk bn bo) bV) bW aS aT)) c a5 a6 a7 rfl a8 rfl gz
    refine WL.fnq b (b5) (F9 b rfl rfl rfl T) b1F rfl rfl rfl ?_
    clear b c b5; rintro e w ⟨km, kn, ko, jb, rfl, hO, rfl, c⟩; refine ⟨_, rfl, ?_⟩; clear a; intro a b
    refine WL.nil ?_
    refine r3 (St.down (Sg.Le.trans f g) (St.front (St.front (St.front (St.front (St.front (St.front (St.front (((c.tail).dropAt 3).dropAt 3) 6 rfl) 3 rfl) 3 rfl) 3 rfl) 4 rfl) 6 rfl) 6 rfl)) ?_
    refine ro 13 true true ?_
    obtain ⟨hP, gA, af⟩ := B4 af
    have hF := c.lendV A5.mono 0 rfl hO rfl; clear c; obtain ⟨kp, fE, c, gB, gC⟩ := hF
    have hF := c.lendV A5.mono 7 rfl (Ev.mono A5.mono fE a1) rfl; clear c; obtain ⟨kq, fF, c, gD, gE⟩ := hF
    have b5 := P6 c (Sl.mono A5.mono fF gB) gD gA
    refine WL.fnq b (b5) (F9 b rfl rfl rfl T) b1k rfl rfl rfl ?_
    clear b c b5; rintro e w ⟨rfl, c⟩; refine ⟨_, rfl, ?_⟩; clear a; intro a b
    replace c := gE _ _ c
    replace c := gC _ _ c
    refine WL.nil ?_
    refine r3 (St.down (Sg.Le.trans f g) (St.front (St.front (St.front (St.front (St.front (St.front (St.front (((c.tail).dropAt 4).dropAt 4) 6 rfl) 4 rfl) 4 rfl) 4 rfl) 5 rfl) 5 rfl) 6 rfl)) ?_
    refine Rg.takeP (i := 14) b rfl (by kernel_rfl) (F9 b rfl rfl rfl T) (A6.p b rfl) rfl (G2 (fun _ => (St.down (Sg.Le.trans f g) (St.front (St.front (St.front (St.front (St.front (St.front (St.front (((c.tail).dropAt 4).dropAt 4) 6 rfl) 4 rfl) 4 rfl) 4 rfl) 5 rfl) 5 rfl) 6 rfl))) (fun _ => (St.down (Sg.Le.trans f g) (St.front (St.front (St.front (St.front (St.front (St.front (St.front (((c.tail).dropAt 4).dropAt 4) 6 rfl) 4 rfl) 4 rfl) 4 rfl) 5 rfl) 5 rfl) 6 rfl)))) fun a b => ?_
    refine sr [.P 15 .N] b (St.down (Sg.Le.trans f g) (St.front (St.front (St.front (St.front (St.front (St.front (St.front (((c.tail).dropAt 4).dropAt 4) 6 rfl) 4 rfl) 4 rfl) 4 rfl) 5 rfl) 5 rfl) 6 rfl)) (St.down (Sg.Le.trans f g) (St.front (St.front (St.front (St.front (St.front (St.front (St.front (((c.tail).dropAt 4).dropAt 4) 6 rfl) 4 rfl) 4 rfl) 4 rfl) 5 rfl) 5 rfl) 6 rfl)) fun a b => ?_
    refine Rg.done (by kernel_rfl) ?_
    subst fe
    replace c := pm [.D 0,.D 4,.D 4,.F 6,.F 4,.F 4,.F 4,.F 5,.F 5,.F 6] c
    subst fd
    exact ⟨!hP, ap, (Sg.Le.trans f g), oi af, b.pk, c⟩
   clear b c a w; rintro a w ⟨eX, ed, bC, rfl, b, c⟩
   obtain ⟨h2, h3, D, bj⟩ := m4 bC h2 h3 D bj
   obtain ⟨a1, bh, bi, a5⟩ := m4 bC a1 bh bi a5
   obtain ⟨a6, a7, a8, j⟩ := m4 bC a6 a7 a8 j
   replace k := m1 bC k
   refine W.cond b rfl (fun ef => ?_) (fun ef => ?_)
   ·replace h := iteT ef h
    refine sg [.s,.p,.e] c b fun a b => ?_
    refine W.ret ?_
    subst cb
    rw [← oi h] at n
    dsimp only at n
    refine fg [_] b ?_
    obtain rfl := oi n
    replace c := pm [.D 0,.D 0,.D 0,.D 0,.D 0,.D 0,.D 0] c
    exact ⟨rfl, (c.down (Sg.Le.trans (Sg.Le.trans (Sg.Le.trans N I) bB) bC))⟩
   replace h := iteF ef h
   refine W.skip ?_
   subst cb
   exact ⟨cj, Nat.lt_succ_self _, cj, be, bL, bM, ck, aZ, a0, bn, bo, bV, bW, aS, aT, bf, bg, cl, cm, cn, co, bX, bY, aZ.length, bN, bZ, b0, a0.length, bO, cp, cq, cr, cs, b1, b2, aS.length, bP, b3, b4, aT.length, bQ, ed, rfl, (Sg.Le.trans (Sg.Le.trans I bB) bC), h, D, bh, bi, bj, rfl, a1, rfl, a5, a6, a7, rfl, a8, rfl, b.pk, c⟩
  replace h := iteF dQ h
  subst cb
  refine W.exit rfl ?_
  exact ⟨bG, P, Q, av, u, x, U, V, aj, aw, y, A, ch, ci, az, aA, aB, aC, X, Y, u.length, aq, ag, ah, x.length, ae, aD, aE, aF, aG, Z, aa, y.length, ax, ak, am, A.length, an, z, I, oi h, aY, B, C, F, rfl, E, rfl, J, K, ai, rfl, L, rfl, b.pk, c⟩
 clear b c a w; rintro a w ⟨bG, P, Q, av, u, x, U, V, aj, aw, y, A, ch, ci, az, aA, aB, aC, X, Y, bH, aq, ag, ah, bI, ae, aD, aE, aF, aG, Z, aa, bJ, ax, ak, am, bK, an, z, I, rfl, aY, B, C, F, rfl, E, rfl, J, K, ai, rfl, L, rfl, b, c⟩
 dsimp only at n
 obtain ⟨h2, h3, h4, j⟩ := m4 I h2 h3 h4 j
 obtain ⟨k, da, eg, eh⟩ := m4 I k da eg eh
 obtain ⟨ei, ej⟩ := m2 I ei ej
 refine W.seq ?_
 refine W.gen fun kr gF => ?_
 refine rE c [] [] [0, 1, 2, 3, 4, 5, 6, 7] [0, 1, 2, 3, 4, 5, 6, 7] mixed ?_
 replace c := c.drew
 refine sr [.P 0 .p,.P 2 .p,.T 3 true .n,.P 4 (.f 0),.T 5 true (.C 2 0 2)] b c c fun a b => ?_
 refine ro 1 true true ?_
 obtain ⟨ks, gG, n⟩ := B4 n
 replace c := pm [.F 5,.F 5,.F 5] c
 refine fq b (W3 (y0 := (G3.mk (D7.mk (B0.mk U V) aj) aw y A)) c J K ai rfl L rfl gG) ?_; rintro _ w ⟨jc, kt, rfl, aW, hQ, c⟩; refine ⟨_, rfl, fun a b => ?_⟩
 obtain ⟨aY, B, C, J⟩ := m4 aW aY B C J
 obtain ⟨K, ai, L, F⟩ := m4 aW K ai L F
 obtain ⟨E, j, k⟩ := m3 aW E j k
 obtain ⟨ku, kv, kw, kx, rfl, hR, hT⟩ := hQ
 refine WL.nil ?_
 refine r3 (St.down aW (St.front (St.front (St.front (St.front (St.front (St.front (St.front c 6 rfl) 3 rfl) 3 rfl) 3 rfl) 6 rfl) 6 rfl) 6 rfl)) ?_
 refine ro 6 true true ?_
 obtain ⟨ky, gH, n⟩ := B4 n
 refine fq b (V6 (x1 := (B0.mk P Q)) c hR hT B C gH) ?_; rintro _ w ⟨rfl, c⟩; refine ⟨_, rfl, fun a b => ?_⟩
 refine WL.nil ?_
 refine r3 (St.down aW (St.front (St.front (St.front (St.front (St.front (St.front (St.front c 6 rfl) 3 rfl) 3 rfl) 3 rfl) 6 rfl) 6 rfl) 6 rfl)) ?_
 refine sr [.P 7 .p] b (St.down aW (St.front (St.front (St.front (St.front (St.front (St.front (St.front c 6 rfl) 3 rfl) 3 rfl) 3 rfl) 6 rfl) 6 rfl) 6 rfl)) (St.down aW (St.front (St.front (St.front (St.front (St.front (St.front (St.front c 6 rfl) 3 rfl) 3 rfl) 3 rfl) 6 rfl) 6 rfl) 6 rfl)) fun a b => ?_
 refine Rg.done (by kernel_rfl) ?_
 subst gF
 refine W.ret ?_
 refine fg [_] b ?_
 obtain rfl := oi n
 replace c := pm [.D 0,.D 0,.D 0,.D 0,.D 0,.D 0,.D 0] c
 exact ⟨rfl, (c.down (Sg.Le.trans (Sg.Le.trans N I) aW))⟩
end Go.Proofs.YthllfhmpjclplaaGreatDoor
