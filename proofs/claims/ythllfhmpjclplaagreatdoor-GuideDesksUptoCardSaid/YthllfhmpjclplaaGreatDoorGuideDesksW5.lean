/- The walks of the functions that GuideDesks reaches: each call comes to what its mirror says. The conditions are those of each contract. -/
import Derived.Test.YthllfhmpjclplaaGreatDoorGuideDesksW4
set_option maxRecDepth 10000
open Nat renaming lt_succ_self → b2p
open List renaming eraseIdx → b2E
namespace Go.Proofs.YthllfhmpjclplaaGreatDoor
open Tryz renaming prog → b2n
open Go Go.Fp
variable {s : Sg} {R : List HP}
set_option maxHeartbeats 8000000 in
theorem a0C {w : World} {an aE aF ah ai Z c4 B C j aq D f ar l au n av : Nat} {Z1 : List Value → HP} {x2 : B0} {aj ak a4 E F o G g p q : Option Addr} {x3 : List (Int × Int)} {x4 : List Bool} {x5 S aa T ad ae af aO aP aK : Int} {N : List B1} {O : List (List Int)} {P : Value} {v : List A4} {J K L M : List Value} {U : List A1} {d : List Bool} {x : List Int} {t : List Int} (c : St w s (pc an #[.slice E N.length B, .slice F O.length C, vi S, vi aa, P, .slice o aq j] 69 :: Z1 [vi T, vi ad, vi ae, vi af, vi aO, .slice G U.length D, .slice g ar f, .slice p au l, .slice q av n, vi aP, vi aK] :: L0 P2.f (Value.int .i64) Z x3 :: B2 50 5 o j aq J :: B2 4 1 g f ar K :: B2 3 1 p l au L :: B2 3 1 q n av M :: R)) (bg : Sl 4 A7 s aj ah x2.Trains) (_h2_1 : Sl 1 (RL 1 (RI .i64)) s ak ai x2.Turns) (h4 : Sl 1 RB s a4 c4 x4) (aG : Sl 4 A7 s E B N) (aQ : Sl 1 (RL 1 (RI .i64)) s F C O) (bJ : Ev 5 A5 s J v) (a2 : v.length = aq) (aw : a1D aE aF 11 Z1) (aR : Sl 3 A8 s G D U) (bh : Ev 1 RB s K d) (a3 : d.length = ar) (bK : Ev 1 (RI .i64) s L x) (a5 : x.length = au) (bi : Ev 1 (RI .i64) s M t) (a6 : t.length = av) {r : Int × Int × Int} (V : E2 x2 x3 x4 x5 N O S aa v T ad ae af aO U d x t aP aK = some r) :
  Calls b2n 67 [pp an, .pointer (some ⟨aE, aF, none⟩), .agg (List.toArray [.slice aj x2.Trains.length ah, .slice ak x2.Turns.length ai]), .map (some Z), .slice a4 x4.length c4, vi x5].toArray w (fun e w => e = .returned (.tuple #[]) ∧ St w s (pc an #[.slice E N.length B, .slice F O.length C, vi S, vi aa, P, .slice o aq j] 69 :: Z1 [vi T, vi ad, vi ae, vi af, vi r.1, .slice G U.length D, .slice g ar f, .slice p au l, .slice q av n, vi r.2.1, vi r.2.2] :: L0 P2.f (Value.int .i64) Z x3 :: B2 50 5 o j aq J :: B2 4 1 g f ar K :: B2 3 1 p l au L :: B2 3 1 q n av M :: R)) := by
 refine enter Tryz.func67 rfl rfl rfl fun a b => ?_
 rw [E2] at V
 subst a2
 subst a3
 subst a5
 subst a6
 refine sg [.s] c b fun a b => ?_
 refine bw b c fun ay a w b c => ?_
 refine sl [.e,.s,.p,.n,.f 0,.f 4] c b fun a b => ?_
 refine WL.storeZN aw b c 2 4 rfl rfl rfl (A0 rfl) rfl rfl rfl ty3 rfl rfl fun a w b c => ?_
 refine sl [.e,.s,.p,.p,.p,.n,.f 0,.f 0,.z 2 0,.p,.n,.f 9] c b fun a b => ?_
 refine WL.storeZN aw b c 2 9 rfl rfl rfl (A0 rfl) rfl rfl rfl ty3 rfl rfl fun a w b c => ?_
 refine sl [.n,.f 10] c b fun a b => ?_
 refine WL.storeZN aw b c 2 10 rfl rfl rfl (A0 rfl) rfl rfl rfl ty3 rfl rfl fun a w b c => ?_
 refine sl [.e,.q,.s,.p] c b fun a b => ?_
 refine fq b (a0G c h4 rfl (r := H7 x4 true)) ?_; rintro _ w ⟨rfl, c⟩; refine ⟨_, rfl, fun a b => ?_⟩
 refine sl [.p,.e,.s,.p,.p,.e] c b fun a b => ?_
 refine W.cond b rfl (fun aH => ?_) (fun aH => ?_)
 ·replace V := iteT aH V
  obtain ⟨aS, b2, bL, bj, V⟩ := gxS V
  obtain ⟨b3, b4, bl, bM⟩ := aR.at bj
  subst bl
  refine sg [.s,.p,.n,.f 0,.f 5,.f 0,.z 2 5,.p,.x 88,.h] c b fun a b => ?_
  refine al b c a0Z fun aT a w b c => ?_
  refine so [.A 0,.e,.q] c b fun a w b c => ?_
  refine W.gen fun cq bm => ?_
  refine rE c [] [3] [0, 1, 2, 3, 4, 5, 6, 7, 8, 9] [0, 1, 2, 3, 4, 5, 6, 7, 8, 9, 10] mixed ?_
  replace c := c.drew
  refine sr [.P 0 .p,.P 1 .p,.T 2 true .n,.P 3 (.f 0),.T 4 true (.C 2 0 3),.T 5 true (.B 0)] b c (c.dropAt 3) fun a b => ?_
  refine ro 6 true true ?_
  obtain ⟨bf, bn, V⟩ := B4 V
  refine fq b (I5 (x0 := (D7.mk (B0.mk N O) S)) c aG aQ bn) ?_; rintro _ w ⟨b5, rfl, bC, c⟩; refine ⟨_, rfl, fun a b => ?_⟩
  subst bC
  refine WL.nil ?_
  refine r2 c (c.dropAt 3) ?_
  refine sr [.P 7 (.v 0 3),.T 8 false .n,.P 9 (.f 9)] b c (c.dropAt 3) fun a b => ?_
  refine ro 10 false true ?_
  refine WL.storeZN aw b c 3 9 rfl rfl rfl (A0 rfl) rfl rfl rfl ty3 rfl rfl fun a w b c => ?_
  refine WL.nil ?_
  refine rf (c.dropAt 3) ?_
  refine Rg.done (by kernel_rfl) ?_
  subst bm
  refine sg [.q,.q] c b fun a b => ?_
  refine rQ c mixed ?_
  obtain ⟨bD, b6, bN, bo, V⟩ := gxS V
  obtain ⟨b7, b8, bp, a7⟩ := aG.at bo
  obtain ⟨cr, cs, ct, cu, rfl, cv, cw⟩ := bp
  refine sq [.p,.p,.n,.f 0,.f 0,.f 0,.b 2,.f 0,.b 0,.x 72,.f 0] b fun a b => ?_
  refine qP b (A6.load1 b rfl (fun w h => (a7 w _ h).one rfl) ty3) rfl fun a b => ?_
  refine qP b (A6.mapGet2 P2 b 4 (k := bD.No) (z := 0) rfl rfl rfl b0D zm3) rfl fun a b => ?_
  refine sq [.p,.p,.p,.p,.p] b fun a b => ?_
  refine QL.nil ?_; clear c w; intro w c
  refine sg [.s,.p,.e] c b fun a b => ?_
  obtain ⟨bE, u, V⟩ := B4 V
  refine W.cut (fun a w => ∃ aU aV, .next (aU, aV) = bE ∧ Rep a 125 [] ∧ St w s (pc aT (A1.cells aS).toArray 88 :: pc ay #[.slice aj x2.Trains.length ah, .slice ak x2.Turns.length ai] 25 :: pc an #[.slice E N.length B, .slice F O.length C, vi S, vi aa, P, .slice o v.length j] 69 :: Z1 [vi T, vi ad, vi ae, vi af, vi 2, .slice G U.length D, .slice g d.length f, .slice p x.length l, .slice q t.length n, vi aU, vi aV] :: L0 P2.f (Value.int .i64) Z x3 :: B2 50 5 o j v.length J :: B2 4 1 g f d.length K :: B2 3 1 p l x.length L :: B2 3 1 q n t.length M :: R)) ?_ ?_
  ·refine W.gen fun cx aI => ?_
   refine W.cond b rfl (fun aJ => ?_) (fun aJ => ?_)
   ·replace u := iteT aJ u
    obtain ⟨cy, b9, bO, bq, u⟩ := gxS u
    obtain ⟨b_, bP, a8, aW⟩ := bg.at bq
    obtain ⟨ca, cb, cc, cd, rfl, br, ce⟩ := a8
    refine sg [.s,.f 0,.b 1,.p,.x 72,.f 2] c b fun a b => ?_
    refine vP c b (A6.load1 b rfl (fun w h => (aW w _ h).one rfl) a3P) rfl fun a b => ?_
    obtain ⟨ax, aL, u⟩ := B4 u
    obtain ⟨bs, bt, aX, aY⟩ := br.cut aL
    obtain ⟨bu, cf, cg, _⟩ := Q9 aL
    refine vP c b (A6.slL b a9K rfl rfl bu (by omega) (by simpa using aX)) rfl fun a b => ?_
    refine sl [.l 75 4,.p,.e] c b fun a b => ?_
    obtain ⟨aZ, H, u⟩ := R8 u
    refine W.cut (fun a w => ∃ X Y, (.next (X, Y)) = aZ ∧ Rep a 125 [] ∧ St w s (pc aT (A1.cells aS).toArray 88 :: pc ay #[.slice aj x2.Trains.length ah, .slice ak x2.Turns.length ai] 25 :: pc an #[.slice E N.length B, .slice F O.length C, vi S, vi aa, P, .slice o v.length j] 69 :: Z1 [vi T, vi ad, vi ae, vi af, vi 2, .slice G U.length D, .slice g d.length f, .slice p x.length l, .slice q t.length n, vi X, vi Y] :: L0 P2.f (Value.int .i64) Z x3 :: B2 50 5 o j v.length J :: B2 4 1 g f d.length K :: B2 3 1 p l x.length L :: B2 3 1 q n t.length M :: R)) ?_ ?_
    ·refine W.block ?_
     refine W.loop (fun m a w => ∃ y az X Y, y.length = m ∧ ax.drop az = y ∧ E2.loop1 x5 y X Y = aZ ∧ Rep a 125 [(1, .pointer (some ⟨aE, aF, none⟩)), (5, vi x5), (82, .slice bs ax.length bt), (83, vi ((ax).length : Int)), (84, vi ((az : Nat) : Int))] ∧ St w s (pc aT (A1.cells aS).toArray 88 :: pc ay #[.slice aj x2.Trains.length ah, .slice ak x2.Turns.length ai] 25 :: pc an #[.slice E N.length B, .slice F O.length C, vi S, vi aa, P, .slice o v.length j] 69 :: Z1 [vi T, vi ad, vi ae, vi af, vi 2, .slice G U.length D, .slice g d.length f, .slice p x.length l, .slice q t.length n, vi X, vi Y] :: L0 P2.f (Value.int .i64) Z x3 :: B2 50 5 o j v.length J :: B2 4 1 g f d.length K :: B2 3 1 p l x.length L :: B2 3 1 q n t.length M :: R)) (m := ax.length) ⟨ax, 0, bf.Station, x5, rfl, rfl, H, b.pk, c⟩ ?_
     clear b c a w H; rintro ch a w ⟨y, az, X, Y, rfl, ap, H, b, c⟩
     refine W.gen fun ci aA => ?_
     rcases y with _ | ⟨cj, y⟩
     ·have a0 := E8 ap
      refine sg [.s,.p,.e,.q] c b fun a b => ?_
      refine W.condF b rfl (decide_eq_false (by omega)) ?_
      subst aA
      refine W.exit rfl ?_
      exact ⟨X, Y, H, b.pk, c⟩
     obtain ⟨a0, a9, ap⟩ := C3 ap
     rw [E2.loop1] at H
     refine sg [.s,.p,.e,.q] c b fun a b => ?_
     refine W.condT b rfl (decide_eq_true (by omega)) ?_
     obtain ⟨bQ, bR, a_, bF⟩ := aY.at a9
     subst a_
     refine sg [.k,.q,.o,.s,.x 75,.h] c b fun a b => ?_
     refine al b c a3O fun ck a w b c => ?_
     refine so [.A 0,.e,.s,.f 2,.b 0,.p,.p,.e] c b fun a w b c => ?_
     refine W.cond b rfl (fun aB => ?_) (fun aB => ?_)
     ·replace H := iteT aB H
      refine W.seq ?_
      refine W.gen fun cl ba => ?_
      refine rE c [] [4] [0, 1, 2, 3, 4, 5, 6, 7, 9, 10] [0, 1, 2, 3, 4, 5, 6, 7, 8, 9, 10, 11] mixed ?_
      replace c := c.drew
      refine sr [.P 0 .p,.P 1 .p,.P 2 (.f 0),.T 3 true (.b 0),.P 4 (.f 2),.T 5 false (.b 0),.T 6 false .n,.P 7 (.f 9)] b c (c.dropAt 4) fun a b => ?_
      refine ro 8 false true ?_
      refine WL.storeZN aw b c 4 9 rfl rfl rfl (A0 rfl) rfl rfl rfl ty3 rfl rfl fun a w b c => ?_
      refine WL.nil ?_
      refine rf (c.dropAt 4) ?_
      refine Rg.take (i := 9) false rfl b rfl (by kernel_rfl) (A0 rfl) (A6.nilOk b rfl) rfl (G2 (fun h => absurd h (by decide)) (fun _ => (c.dropAt 4))) fun a b => ?_
      refine Rg.takeP (i := 10) b rfl (by kernel_rfl) (A0 rfl) (A6.fld b rfl a9H) rfl (G2 (fun h => absurd h (by decide)) (fun _ => (c.dropAt 4))) fun a b => ?_
      refine ro 11 false true ?_
      refine WL.storeZN aw b c 4 10 rfl rfl rfl (A0 rfl) rfl rfl rfl ty3 rfl rfl fun a w b c => ?_
      refine WL.nil ?_
      refine rf (c.dropAt 4) ?_
      refine Rg.done (by kernel_rfl) ?_
      subst ba
      refine W.ret ?_
      subst aA
      subst aI
      rw [← H] at u
      dsimp only at u
      rw [← oi u] at V
      dsimp only at V
      refine fg [] b ?_
      obtain rfl := oi V
      replace c := pm [.D 0,.D 0,.D 0] c
      exact ⟨rfl, c⟩
     replace H := iteF aB H
     have := aY.small
     refine sm [.k,.r,.i,.p,.e,.D 0] c b fun a w b c => ?_
     subst aA
     exact ⟨y.length, b2p _, y, az + 1, X, Y, rfl, ap, H, b.pk, c⟩
    clear b c a w; rintro a w ⟨X, Y, rfl, b, c⟩
    dsimp only at u
    subst aI
    exact ⟨X, Y, oi u, b.pk, c⟩
   replace u := iteF aJ u
   refine W.skip ?_
   subst aI
   exact ⟨bf.Station, x5, oi u, b.pk, c⟩
  clear b c a w; rintro a w ⟨aU, aV, rfl, b, c⟩
  dsimp only at V
  refine W.ret ?_
  refine fg [] b ?_
  obtain rfl := oi V
  replace c := pm [.D 0,.D 0] c
  exact ⟨rfl, c⟩
 replace V := iteF aH V
 refine sg [.k,.s,.p,.n,.f 6,.z 2 6,.l 4 1,.p,.e] c b fun a b => ?_
 have bS : d.length ≤ 9223372036854775807 := by have := c.vecCap 5 rfl; unfold maxLen at this; omega
 obtain ⟨a1, I, V⟩ := B4 V
 refine W.cut (fun a w => ∃ ag, ag = a1 ∧ Rep a 125 [] ∧ St w s (pc ay #[.slice aj x2.Trains.length ah, .slice ak x2.Turns.length ai] 25 :: pc an #[.slice E N.length B, .slice F O.length C, vi S, vi aa, P, .slice o v.length j] 69 :: Z1 [vi T, vi ad, vi ae, vi af, vi 2, .slice G U.length D, .slice g d.length f, .slice p x.length l, .slice q t.length n, vi ag, vi x5] :: L0 P2.f (Value.int .i64) Z x3 :: B2 50 5 o j v.length J :: B2 4 1 g f d.length K :: B2 3 1 p l x.length L :: B2 3 1 q n t.length M :: R)) ?_ ?_
 ·refine W.block ?_
  refine W.loop (fun m a w => ∃ A am ag, A = m ∧ am + A = d.length ∧ E2.loop2 d t A am ag = some a1 ∧ Rep a 125 [(1, .pointer (some ⟨aE, aF, none⟩)), (106, .slice g d.length f), (107, vi ((d.length : Nat) : Int)), (108, vi ((am : Nat) : Int))] ∧ St w s (pc ay #[.slice aj x2.Trains.length ah, .slice ak x2.Turns.length ai] 25 :: pc an #[.slice E N.length B, .slice F O.length C, vi S, vi aa, P, .slice o v.length j] 69 :: Z1 [vi T, vi ad, vi ae, vi af, vi 2, .slice G U.length D, .slice g d.length f, .slice p x.length l, .slice q t.length n, vi ag, vi x5] :: L0 P2.f (Value.int .i64) Z x3 :: B2 50 5 o j v.length J :: B2 4 1 g f d.length K :: B2 3 1 p l x.length L :: B2 3 1 q n t.length M :: R)) (m := d.length) ⟨d.length, 0, T, rfl, by omega, I, b.pk, c⟩ ?_
  clear b c a w I; rintro cm a w ⟨A, am, ag, rfl, bT, I, b, c⟩
  refine W.gen fun cn aM => ?_
  rcases A with _ | A
  ·skip
   refine sg [.s,.p,.e,.q] c b fun a b => ?_
   refine W.condF b rfl (decide_eq_false (by omega)) ?_
   subst aM
   refine W.exit rfl ?_
   exact ⟨ag, oi I, b.pk, c⟩
  have bG : am < d.length := by omega
  rw [E2.loop2] at I
  refine sg [.s,.p,.e,.q] c b fun a b => ?_
  refine W.condT b rfl (decide_eq_true (by omega)) ?_
  obtain ⟨co, bU, bH, bb, I⟩ := gxS I
  obtain ⟨bV, bW, bc, bX, bA⟩ := bh.at bb
  subst bc
  refine sg [.k,.q,.o,.s,.p,.y 5,.g 5,.p,.p,.e,.s,.p,.e] c b fun a b => ?_
  obtain ⟨bv, Q, I⟩ := B4 I
  refine W.cut (fun a w => ∃ aC, aC = bv ∧ Rep a 125 [(1, .pointer (some ⟨aE, aF, none⟩)), (106, .slice g d.length f), (107, vi ((d.length : Nat) : Int)), (108, vi ((am : Nat) : Int))] ∧ St w s (pc ay #[.slice aj x2.Trains.length ah, .slice ak x2.Turns.length ai] 25 :: pc an #[.slice E N.length B, .slice F O.length C, vi S, vi aa, P, .slice o v.length j] 69 :: Z1 [vi T, vi ad, vi ae, vi af, vi 2, .slice G U.length D, .slice g d.length f, .slice p x.length l, .slice q t.length n, vi aC, vi x5] :: L0 P2.f (Value.int .i64) Z x3 :: B2 50 5 o j v.length J :: B2 4 1 g f d.length K :: B2 3 1 p l x.length L :: B2 3 1 q n t.length M :: R)) ?_ ?_
  ·refine W.gen fun cp aN => ?_
   refine W.cond b rfl (fun aD => ?_) (fun aD => ?_)
   ·replace Q := iteT aD Q
    obtain ⟨bz, bY, bI, bd, Q⟩ := gxS Q
    obtain ⟨bZ, b0, be, b1, bB⟩ := bi.at bd
    subst be
    refine sg [.r,.p,.p,.n,.f 8,.z 2 8,.p,.y 7,.g 7,.n,.f 9] c b fun a b => ?_
    refine WL.storeZN aw b c 2 9 rfl rfl rfl (A0 rfl) rfl rfl rfl ty3 rfl rfl fun a w b c => ?_
    refine WL.nil ?_
    subst aN
    exact ⟨bz, oi Q, b.pk, c⟩
   replace Q := iteF aD Q
   refine W.skip ?_
   subst aN
   exact ⟨ag, oi Q, b.pk, c⟩
  clear b c a w; rintro a w ⟨aC, rfl, b, c⟩
  refine sg [.r,.i,.p,.e] c b fun a b => ?_
  subst aM
  exact ⟨A, b2p _, A, am + 1, aC, rfl, (by omega), I, b.pk, c⟩
 clear b c a w; rintro a w ⟨ag, rfl, b, c⟩
 refine fg [] b ?_
 obtain rfl := oi V
 replace c := c.tail
 exact ⟨rfl, c⟩
set_option maxHeartbeats 8000000 in
theorem a0W {w : World} {L ag ah H u v l aW n bb : Nat} {x1 x4 : Int} {x2 : D7} {ai aj y z f o : Option Addr} {x3 : List (Int × Int)} {y0 : G3} {p : a0o} {F : List Value} (c : St w s (pc L #[.slice y y0.net.Day.Trains.length u, .slice z y0.net.Day.Turns.length v, vi y0.net.least, vi y0.time, .slice f aW l, .slice o bb n] 69 :: L0 P2.f (Value.int .i64) H x3 :: M5 78 11 f l aW p :: B2 50 5 o n bb F :: R)) (aJ : Sl 4 A7 s ai ag x2.Day.Trains) (aK : Sl 1 (RL 1 (RI .i64)) s aj ah x2.Day.Turns) (D : Sl 4 A7 s y u y0.net.Day.Trains) (E : Sl 1 (RL 1 (RI .i64)) s z v y0.net.Day.Turns) (aO : HEv 11 D0 s p y0.promises) (cf : y0.promises.length = aW) (aP : Ev 5 A5 s F y0.messages) (cg : y0.messages.length = bb) {r : (List A4) × (List C5)} (K : F6 x1 x2 x3 x4 y0 = some r) :
  Calls b2n 32 [pp L, vi x1, .agg (List.toArray [.slice ai x2.Day.Trains.length ag, .slice aj x2.Day.Turns.length ah, vi x2.least]), .map (some H), vi x4].toArray w (fun e w => ∃ (a0 : Option Addr) (c0 : Nat) (b4 : a0o) (t : Sg), e = .returned (.slice a0 r.1.length c0) ∧ s.Le t ∧ Sl 5 A5 t a0 c0 r.1 ∧ HEv 11 D0 t b4 r.2 ∧ r.2.length = aW ∧ St w t (pc L #[.slice y y0.net.Day.Trains.length u, .slice z y0.net.Day.Turns.length v, vi y0.net.least, vi y0.time, .slice f aW l, .slice o bb n] 69 :: L0 P2.f (Value.int .i64) H x3 :: M5 78 11 f l aW b4 :: B2 50 5 o n bb F :: R)) := by
 refine enter Tryz.func32 rfl rfl rfl fun a d => ?_
 rw [F6] at K
 subst cf
 subst cg
 refine sg [.s] c d fun a d => ?_
 refine bw d c fun aa a w d c => ?_
 refine sl [.p,.e,.s,.p,.n,.f 4,.b 1,.p] c d fun a d => ?_
 obtain ⟨b, du, eL, b5, K⟩ := gxS K
 have ch := (c.hotOpen 3 rfl).vecAok 0 rfl (by omega : (x1).toNat < y0.promises.length)
 refine vP c d (A6.idx d ((x1).toNat) rfl rfl b0n du (by omega) ch) rfl fun a d => ?_
 refine sl [.p,.e] c d fun a d => ?_
 obtain ⟨fU, dw, dx⟩ := HEv.at aO b5
 obtain ⟨aD, aE, M, N, fV, bH, P, Q, fW, bI, S, T, fX, bJ, ew, ex, aN, ey, rfl, ez, rfl, eA, rfl⟩ := dx
 subst ex
 have bK : (x1).toNat < y0.promises.length := (List.getElem?_eq_some_iff.1 b5).1
 have hF := St.plnHot (ps := [B2 4 1 M N b.over.length bH, B2 3 1 P Q b.arrived.length bI, B2 3 1 S T b.ends.length bJ]) 3 c rfl (by omega) rfl ew dw; clear c; obtain ⟨c, bp⟩ := hF
 replace c : St _ s (a2k 78 11 f l y0.promises.length p.cs ((x1).toNat * 11) [vi b.Promise.From, vi b.Promise.To, vi b.Promise.Dep, vi b.Promise.Arr, vi b.Promise.State, .slice aD b.Promise.Journey.Rides.length aE, .slice M b.over.length N, .slice P b.arrived.length Q, .slice S b.ends.length T, vi b.station, vi b.when] :: B2 4 1 M N b.over.length bH :: B2 3 1 P Q b.arrived.length bI :: B2 3 1 S T b.ends.length bJ :: L5 (b2E p.hs ((x1).toNat)) :: pc aa #[.slice ai x2.Day.Trains.length ag, .slice aj x2.Day.Turns.length ah, vi x2.least] 66 :: pc L #[.slice y y0.net.Day.Trains.length u, .slice z y0.net.Day.Turns.length v, vi y0.net.least, vi y0.time, .slice f y0.promises.length l, .slice o y0.messages.length n] 69 :: L0 P2.f (Value.int .i64) H x3 :: B2 50 5 o n y0.messages.length F :: R) := c
 refine sg [.s,.p,.n,.f 6,.z 0 6,.l 4 1] c d fun a d => ?_
 obtain ⟨g, ci, K⟩ := B4 K
 refine WL.mkD (Rr := RB) d c (A0 rfl) rfl rfl a2d zr4 rfl ci rfl fun V cj a w dy d c => ?_
 refine sl [.p,.e,.q,.s,.p,.n,.f 0,.f 5,.f 0,.z 1 5,.l 88 3,.p,.e] c d fun a d => ?_
 obtain ⟨b6, aq, K⟩ := B4 K
 refine W.cut (fun a w => ∃ az Z ak am G A B C, (az, Z, ak, am) = b6 ∧ Ev 1 RB s G az ∧ az.length = g.length ∧ Ev 1 RB s A Z ∧ Z.length = b.over.length ∧ Ev 1 (RI .i64) s B ak ∧ ak.length = b.arrived.length ∧ Ev 1 (RI .i64) s C am ∧ am.length = b.ends.length ∧ Rep a 245 [(0, pp L), (1, vi x1), (3, .map (some H)), (4, vi x4), (7, pp aa), (11, .pointer (some ⟨(ab f), (ao f + (x1).toNat * 11), none⟩)), (12, .slice (some ⟨V, 0, none⟩) g.length g.length)] ∧ St w s (B2 4 1 (some ⟨V, 0, none⟩) g.length g.length G :: a2k 78 11 f l y0.promises.length p.cs ((x1).toNat * 11) [vi b.Promise.From, vi b.Promise.To, vi b.Promise.Dep, vi b.Promise.Arr, vi b.Promise.State, .slice aD b.Promise.Journey.Rides.length aE, .slice M b.over.length N, .slice P b.arrived.length Q, .slice S b.ends.length T, vi b.station, vi b.when] :: B2 4 1 M N b.over.length A :: B2 3 1 P Q b.arrived.length B :: B2 3 1 S T b.ends.length C :: L5 (b2E p.hs ((x1).toNat)) :: pc aa #[.slice ai x2.Day.Trains.length ag, .slice aj x2.Day.Turns.length ah, vi x2.least] 66 :: pc L #[.slice y y0.net.Day.Trains.length u, .slice z y0.net.Day.Turns.length v, vi y0.net.least, vi y0.time, .slice f y0.promises.length l, .slice o y0.messages.length n] 69 :: L0 P2.f (Value.int .i64) H x3 :: B2 50 5 o n y0.messages.length F :: R)) ?_ ?_
 ·refine W.block ?_
  refine W.loop (fun m a w => ∃ ap an az Z ak am G A B C, ap.length = m ∧ b.Promise.Journey.Rides.drop an = ap ∧ F6.loop1 x4 y0 ap an az Z ak am = some b6 ∧ Ev 1 RB s G az ∧ az.length = g.length ∧ Ev 1 RB s A Z ∧ Z.length = b.over.length ∧ Ev 1 (RI .i64) s B ak ∧ ak.length = b.arrived.length ∧ Ev 1 (RI .i64) s C am ∧ am.length = b.ends.length ∧ Rep a 245 [(0, pp L), (1, vi x1), (3, .map (some H)), (4, vi x4), (7, pp aa), (11, .pointer (some ⟨(ab f), (ao f + (x1).toNat * 11), none⟩)), (12, .slice (some ⟨V, 0, none⟩) g.length g.length), (41, .slice aD b.Promise.Journey.Rides.length aE), (42, vi ((b.Promise.Journey.Rides).length : Int)), (43, vi ((an : Nat) : Int))] ∧ St w s (B2 4 1 (some ⟨V, 0, none⟩) g.length g.length G :: a2k 78 11 f l y0.promises.length p.cs ((x1).toNat * 11) [vi b.Promise.From, vi b.Promise.To, vi b.Promise.Dep, vi b.Promise.Arr, vi b.Promise.State, .slice aD b.Promise.Journey.Rides.length aE, .slice M b.over.length N, .slice P b.arrived.length Q, .slice S b.ends.length T, vi b.station, vi b.when] :: B2 4 1 M N b.over.length A :: B2 3 1 P Q b.arrived.length B :: B2 3 1 S T b.ends.length C :: L5 (b2E p.hs ((x1).toNat)) :: pc aa #[.slice ai x2.Day.Trains.length ag, .slice aj x2.Day.Turns.length ah, vi x2.least] 66 :: pc L #[.slice y y0.net.Day.Trains.length u, .slice z y0.net.Day.Turns.length v, vi y0.net.least, vi y0.time, .slice f y0.promises.length l, .slice o y0.messages.length n] 69 :: L0 P2.f (Value.int .i64) H x3 :: B2 50 5 o n y0.messages.length F :: R)) (m := b.Promise.Journey.Rides.length) ⟨b.Promise.Journey.Rides, 0, g, b.over, b.arrived, b.ends, cj, bH, bI, bJ, rfl, rfl, aq, dy, (rfl), ey, (rfl), ez, (rfl), eA, (rfl), d.pk, c⟩ ?_
  clear d c a w aq; rintro fm a w ⟨ap, an, az, Z, ak, am, G, A, B, C, rfl, a1, aq, aL, ar, X, U, au, ad, av, ae, d, c⟩
  refine W.gen fun fn bR => ?_
  rcases ap with _ | ⟨b7, ap⟩
  ·have b8 := E8 a1
   refine sg [.s,.p,.e,.q] c d fun a d => ?_
   refine W.condF d rfl (decide_eq_false (by omega)) ?_
   subst bR
   refine W.exit rfl ?_
   exact ⟨az, Z, ak, am, G, A, B, C, oi aq, aL, ar, X, U, au, ad, av, ae, d.pk, c⟩
  obtain ⟨b8, ck, a1⟩ := C3 a1
  rw [F6.loop1] at aq
  refine sg [.s,.p,.e,.q] c d fun a d => ?_
  refine W.condT d rfl (decide_eq_true (by omega)) ?_
  obtain ⟨eM, eN, cl, eB⟩ := aN.at ck
  subst cl
  refine sg [.k,.q,.o,.s,.p,.x 88,.h] c d fun a d => ?_
  refine al d c a0Z fun b9 a w d c => ?_
  obtain ⟨fo, eO, eC, cm, aq⟩ := gxS aq
  obtain ⟨eP, eQ, cn, eR, ep⟩ := X.at cm
  subst cn
  refine so [.p,.A 0,.e,.o,.s,.p,.n,.f 6,.z 2 6,.p,.y 3,.g 3,.p,.e] c d fun a w d c => ?_
  obtain ⟨dz, aw, aq⟩ := B4 aq
  refine W.cut (fun a w => ∃ bc bd be bf a2 a3 a4 a5, (bc, bd, be, bf) = dz ∧ Ev 1 RB s a2 bc ∧ bc.length = g.length ∧ Ev 1 RB s a3 bd ∧ bd.length = b.over.length ∧ Ev 1 (RI .i64) s a4 be ∧ be.length = b.arrived.length ∧ Ev 1 (RI .i64) s a5 bf ∧ bf.length = b.ends.length ∧ Rep a 245 [(0, pp L), (1, vi x1), (3, .map (some H)), (4, vi x4), (7, pp aa), (11, .pointer (some ⟨(ab f), (ao f + (x1).toNat * 11), none⟩)), (12, .slice (some ⟨V, 0, none⟩) g.length g.length), (41, .slice aD b.Promise.Journey.Rides.length aE), (42, vi ((b.Promise.Journey.Rides).length : Int)), (43, vi ((an : Nat) : Int))] ∧ St w s (pc b9 (A1.cells b7).toArray 88 :: B2 4 1 (some ⟨V, 0, none⟩) g.length g.length a2 :: a2k 78 11 f l y0.promises.length p.cs ((x1).toNat * 11) [vi b.Promise.From, vi b.Promise.To, vi b.Promise.Dep, vi b.Promise.Arr, vi b.Promise.State, .slice aD b.Promise.Journey.Rides.length aE, .slice M b.over.length N, .slice P b.arrived.length Q, .slice S b.ends.length T, vi b.station, vi b.when] :: B2 4 1 M N b.over.length a3 :: B2 3 1 P Q b.arrived.length a4 :: B2 3 1 S T b.ends.length a5 :: L5 (b2E p.hs ((x1).toNat)) :: pc aa #[.slice ai x2.Day.Trains.length ag, .slice aj x2.Day.Turns.length ah, vi x2.least] 66 :: pc L #[.slice y y0.net.Day.Trains.length u, .slice z y0.net.Day.Turns.length v, vi y0.net.least, vi y0.time, .slice f y0.promises.length l, .slice o y0.messages.length n] 69 :: L0 P2.f (Value.int .i64) H x3 :: B2 50 5 o n y0.messages.length F :: R)) ?_ ?_
  ·refine W.gen fun fp bS => ?_
   refine W.cond d rfl (fun bq => ?_) (fun bq => ?_)
   ·replace aw := iteT bq aw
    refine W.skip ?_
    subst bS
    exact ⟨az, Z, ak, am, G, A, B, C, oi aw, aL, ar, X, U, au, ad, av, ae, d.pk, c⟩
   replace aw := iteF bq aw
   refine W.seq ?_
   refine W.gen fun fr co => ?_
   refine rE c [] [] [0, 1, 2, 3, 4, 5, 6, 7, 8, 9] [0, 1, 2, 3, 4, 5, 6, 7, 8, 9] mixed ?_
   replace c := c.drew
   refine sr [.P 0 .p,.T 1 true .n,.P 2 (.f 0),.T 3 true (.C 8 0 3),.T 4 true (.B 0),.P 7 .p] d c c fun a d => ?_
   refine ro 5 true true ?_
   obtain ⟨fs, cp, aw⟩ := B4 aw
   refine fq d (J3 c D E cp) ?_; rintro _ w ⟨eS, rfl, dA, c⟩; refine ⟨_, rfl, fun a d => ?_⟩
   subst dA
   refine WL.nil ?_
   refine r3 c ?_
   refine sr [.P 6 (.v 2 3),.P 8 .p,.P 9 .p] d c c fun a d => ?_
   refine Rg.done (by kernel_rfl) ?_
   subst co
   obtain ⟨dB, k, aw⟩ := B4 aw
   refine W.cut (fun a w => ∃ bg bh bi bj a6 a7 a8 a9, (bg, bh, bi, bj) = dB ∧ Ev 1 RB s a6 bg ∧ bg.length = g.length ∧ Ev 1 RB s a7 bh ∧ bh.length = b.over.length ∧ Ev 1 (RI .i64) s a8 bi ∧ bi.length = b.arrived.length ∧ Ev 1 (RI .i64) s a9 bj ∧ bj.length = b.ends.length ∧ Rep a 245 [(0, pp L), (1, vi x1), (3, .map (some H)), (4, vi x4), (7, pp aa), (11, .pointer (some ⟨(ab f), (ao f + (x1).toNat * 11), none⟩)), (12, .slice (some ⟨V, 0, none⟩) g.length g.length), (41, .slice aD b.Promise.Journey.Rides.length aE), (42, vi ((b.Promise.Journey.Rides).length : Int)), (43, vi ((an : Nat) : Int))] ∧ St w s (pc b9 (A1.cells b7).toArray 88 :: B2 4 1 (some ⟨V, 0, none⟩) g.length g.length a6 :: a2k 78 11 f l y0.promises.length p.cs ((x1).toNat * 11) [vi b.Promise.From, vi b.Promise.To, vi b.Promise.Dep, vi b.Promise.Arr, vi b.Promise.State, .slice aD b.Promise.Journey.Rides.length aE, .slice M b.over.length N, .slice P b.arrived.length Q, .slice S b.ends.length T, vi b.station, vi b.when] :: B2 4 1 M N b.over.length a7 :: B2 3 1 P Q b.arrived.length a8 :: B2 3 1 S T b.ends.length a9 :: L5 (b2E p.hs ((x1).toNat)) :: pc aa #[.slice ai x2.Day.Trains.length ag, .slice aj x2.Day.Turns.length ah, vi x2.least] 66 :: pc L #[.slice y y0.net.Day.Trains.length u, .slice z y0.net.Day.Turns.length v, vi y0.net.least, vi y0.time, .slice f y0.promises.length l, .slice o y0.messages.length n] 69 :: L0 P2.f (Value.int .i64) H x3 :: B2 50 5 o n y0.messages.length F :: R)) ?_ ?_
   ·refine W.gen fun ft bT => ?_
    refine W.cond d rfl (fun br => ?_) (fun br => ?_)
    ·replace k := iteT br k
     refine W.gen fun fu cq => ?_
     refine rE c [] [3, 3, 3] [0, 1, 2, 3, 4, 5, 6, 7, 8, 9, 10, 11, 12, 13, 14, 15, 16, 17, 18, 19, 20, 21, 22, 23, 24, 25, 26, 27, 28, 29, 31, 33] [0, 1, 2, 3, 4, 5, 6, 7, 8, 9, 10, 11, 12, 13, 14, 15, 16, 17, 18, 19, 20, 21, 22, 23, 24, 25, 26, 27, 28, 29, 30, 31, 32, 33, 34] mixed ?_
     replace c := c.drew
     refine sr [.P 0 .p,.T 1 true .n,.P 2 (.f 6),.T 3 true (.z 2 6),.P 4 .p,.P 5 .p,.T 6 false .n,.P 7 (.f 7),.T 8 true (.z 2 7),.P 9 .p,.P 10 .p,.T 11 false .n,.P 12 (.f 8),.T 13 true (.z 2 8),.P 14 .p,.P 15 .p,.T 16 false .n,.P 17 (.f 0),.T 18 true (.C 8 0 3),.T 19 false (.B 0),.P 22 .p,.T 23 false .n,.P 24 (.f 0),.T 25 true (.C 8 0 3),.T 26 false (.B 0)] d c (((c.dropAt 3).dropAt 3).dropAt 3) fun a d => ?_
     refine ro 20 true true ?_
     obtain ⟨dC, cr, k⟩ := B4 k
     refine fq d (J3 c D E cr) ?_; rintro _ w ⟨eT, rfl, dD, c⟩; refine ⟨_, rfl, fun a d => ?_⟩
     subst dD
     refine WL.nil ?_
     refine r2 c (((c.dropAt 3).dropAt 3).dropAt 3) ?_
     refine sr [.P 21 (.v 2 3)] d c (((c.dropAt 3).dropAt 3).dropAt 3) fun a d => ?_
     refine ro 27 true true ?_
     obtain ⟨dE, ct, k⟩ := B4 k
     refine fq d (J3 c D E ct) ?_; rintro _ w ⟨eU, rfl, dF, c⟩; refine ⟨_, rfl, fun a d => ?_⟩
     subst dF
     refine WL.nil ?_
     refine r2 c (((c.dropAt 3).dropAt 3).dropAt 3) ?_
     refine sr [.P 28 (.v 0 3)] d c (((c.dropAt 3).dropAt 3).dropAt 3) fun a d => ?_
     obtain ⟨_, cu, k⟩ := B4 k
     obtain ⟨dG, fv⟩ := S9 cu
     refine tP (i := 29) d rfl (by kernel_rfl) (A6.idx d ((((an : Nat) : Int)).toNat) rfl rfl a9L dG (by have := U; omega) (c.vecAok 3 rfl (by have := U; omega : (((an : Nat) : Int)).toNat < b.over.length))) rfl c (((c.dropAt 3).dropAt 3).dropAt 3) fun a d => ?_
     refine ro 30 false true ?_
     obtain ⟨dH, bU, k⟩ := B4 k
     refine WL.setD d c 3 rfl (A0 rfl) rfl rfl (vs := [.bool true]) rfl ty4 rfl rfl rfl X U (S3 bU).1 bU rfl rfl fun cv a w dI cw d c => ?_
     refine WL.nil ?_
     refine rf (((c.dropAt 3).dropAt 3).dropAt 3) ?_
     obtain ⟨_, cx, k⟩ := B4 k
     obtain ⟨dJ, fw⟩ := S9 cx
     refine Rg.takeP (i := 31) d rfl (by kernel_rfl) (A0 rfl) (A6.idx d ((((an : Nat) : Int)).toNat) rfl rfl a8S dJ (by have := ad; omega) (c.vecAok 4 rfl (by have := ad; omega : (((an : Nat) : Int)).toNat < b.arrived.length))) rfl (G2 (fun h => absurd h (by decide)) (fun _ => (((c.dropAt 3).dropAt 3).dropAt 3))) fun a d => ?_
     refine ro 32 false true ?_
     obtain ⟨dK, bV, k⟩ := B4 k
     refine WL.setD d c 4 rfl (A0 rfl) rfl rfl (vs := [vi dC.Arr]) rfl ty3 rfl rfl rfl au ad (S3 bV).1 bV rfl rfl fun cy a w dL cz d c => ?_
     refine WL.nil ?_
     refine rf (((c.dropAt 3).dropAt 3).dropAt 3) ?_
     obtain ⟨_, cA, k⟩ := B4 k
     obtain ⟨dM, fx⟩ := S9 cA
     refine Rg.takeP (i := 33) d rfl (by kernel_rfl) (A0 rfl) (A6.idx d ((((an : Nat) : Int)).toNat) rfl rfl a8S dM (by have := ae; omega) (c.vecAok 5 rfl (by have := ae; omega : (((an : Nat) : Int)).toNat < b.ends.length))) rfl (G2 (fun h => absurd h (by decide)) (fun _ => (((c.dropAt 3).dropAt 3).dropAt 3))) fun a d => ?_
     refine ro 34 false true ?_
     obtain ⟨dN, bW, k⟩ := B4 k
     refine WL.setD d c 5 rfl (A0 rfl) rfl rfl (vs := [vi dE.Station]) rfl ty3 rfl rfl rfl av ae (S3 bW).1 bW rfl rfl fun cB a w dO cC d c => ?_
     refine WL.nil ?_
     refine rf (((c.dropAt 3).dropAt 3).dropAt 3) ?_
     refine Rg.done (by kernel_rfl) ?_
     subst cq
     subst bT
     exact ⟨az, dH, dK, dN, G, cv, cy, cB, oi k, aL, ar, dI, cw, dL, cz, dO, cC, d.pk, c⟩
    replace k := iteF br k
    refine W.gen fun fy cD => ?_
    refine rE c [] [1] [0, 1, 2, 3, 4, 5, 6, 7, 8, 9, 10, 11] [0, 1, 2, 3, 4, 5, 6, 7, 8, 9, 10, 11, 12] mixed ?_
    replace c := c.drew
    refine sr [.P 0 .p,.P 1 .p,.P 2 .p,.T 3 true .n,.P 4 (.f 0),.T 5 true (.C 8 0 3),.T 6 true (.B 0),.P 9 .p] d c (c.dropAt 1) fun a d => ?_
    refine ro 7 true true ?_
    obtain ⟨dP, cE, k⟩ := B4 k
    refine fq d (I5 c D E cE) ?_; rintro _ w ⟨eV, rfl, dQ, c⟩; refine ⟨_, rfl, fun a d => ?_⟩
    subst dQ
    refine WL.nil ?_
    refine r2 c (c.dropAt 1) ?_
    refine sr [.P 8 (.v 3 3),.P 10 .p] d c (c.dropAt 1) fun a d => ?_
    obtain ⟨_, cF, k⟩ := B4 k
    obtain ⟨dR, fz⟩ := S9 cF
    refine tP (i := 11) d rfl (by kernel_rfl) (A6.idx d ((((an : Nat) : Int)).toNat) rfl rfl a9L dR (by have := ar; omega) (c.vecAok 1 rfl (by have := ar; omega : (((an : Nat) : Int)).toNat < g.length))) rfl c (c.dropAt 1) fun a d => ?_
    refine ro 12 false true ?_
    obtain ⟨dS, bX, k⟩ := B4 k
    refine WL.setD d c 1 rfl (A0 rfl) rfl rfl (vs := [.bool (decide (dP.Dep ≤ x4))]) rfl ty4 rfl rfl rfl aL ar (S3 bX).1 bX rfl rfl fun cG a w dT cH d c => ?_
    refine WL.nil ?_
    refine rf (c.dropAt 1) ?_
    refine Rg.done (by kernel_rfl) ?_
    subst cD
    subst bT
    exact ⟨dS, Z, ak, am, cG, A, B, C, oi k, dT, cH, X, U, au, ad, av, ae, d.pk, c⟩
   clear d c a w; rintro a w ⟨bg, bh, bi, bj, a6, a7, a8, a9, rfl, dU, cI, dV, cJ, dW, cK, dX, cL, d, c⟩
   dsimp only at aw
   subst bS
   exact ⟨bg, bh, bi, bj, a6, a7, a8, a9, oi aw, dU, cI, dV, cJ, dW, cK, dX, cL, d.pk, c⟩
  clear d c a w; rintro a w ⟨bc, bd, be, bf, a2, a3, a4, a5, rfl, dY, cM, dZ, cN, d0, cO, d1, cP, d, c⟩
  dsimp only at aq
  have := aN.small
  refine sm [.r,.i,.p,.e,.D 0] c d fun a w d c => ?_
  subst bR
  exact ⟨ap.length, b2p _, ap, an + 1, bc, bd, be, bf, a2, a3, a4, a5, rfl, a1, aq, dY, cM, dZ, cN, d0, cO, d1, cP, d.pk, c⟩
 clear d c a w; rintro a w ⟨az, Z, ak, am, G, A, B, C, rfl, aL, ar, X, U, au, ad, av, ae, d, c⟩
 dsimp only at K
 refine sg [.q,.q] c d fun a d => ?_
 refine rQ c mixed ?_
 refine sq [.p,.n,.f 6,.z 1 6,.p,.n,.f 6,.z 1 6,.l 4 1,.p] d fun a d => ?_
 obtain ⟨fA, cQ, eD, cR, K⟩ := gxS K
 obtain ⟨eW, eX, cS, eY, eq⟩ := X.at cR
 subst cS
 refine qP d (A6.idx d ((w64 (((b.over.length : Nat) : Int) - 1)).toNat) rfl rfl a9L cQ (by have := U; omega) (c.vecAok 2 rfl (by have := U; omega : (w64 (((b.over.length : Nat) : Int) - 1)).toNat < b.over.length))) rfl fun a d => ?_
 refine sq [.g 2] d fun a d => ?_
 refine QL.nil ?_; clear c w; intro w c
 refine W.cond d rfl (fun bs => ?_) (fun bs => ?_)
 ·replace K := iteT bs K
  refine sg [.s,.p,.n,.f 0,.f 4] c d fun a d => ?_
  refine WL.storeZN bp d c 1 4 rfl rfl rfl (A0 rfl) rfl rfl rfl ty3 rfl rfl fun a w d c => ?_
  refine sl [.e,.s,.p,.e] c d fun a d => ?_
  refine W.ret ?_
  replace c := pm [.F 5,.F 5,.F 5,.F 5,.F 5] c
  have hF := St.plnHotClose (ps := [B2 4 1 M N b.over.length A, B2 3 1 P Q b.arrived.length B, B2 3 1 S T b.ends.length C]) (O := D0) (x := (C5.mk (C2.mk b.Promise.From b.Promise.To b.Promise.Dep b.Promise.Arr 3 b.Promise.Journey) Z ak am b.station b.when)) c aO (rfl) bK rfl ⟨_, _, _, _, _, _, _, _, _, _, _, _, _, _, rfl, rfl, aN, X, U, au, ad, av, ae⟩; clear c; obtain ⟨bY, c, d2, cT⟩ := hF
  replace c : St _ s (M5 78 11 f l y0.promises.length bY :: B2 4 1 (some ⟨V, 0, none⟩) g.length g.length G :: pc aa #[.slice ai x2.Day.Trains.length ag, .slice aj x2.Day.Turns.length ah, vi x2.least] 66 :: pc L #[.slice y y0.net.Day.Trains.length u, .slice z y0.net.Day.Turns.length v, vi y0.net.least, vi y0.time, .slice f y0.promises.length l, .slice o y0.messages.length n] 69 :: L0 P2.f (Value.int .i64) H x3 :: B2 50 5 o n y0.messages.length F :: R) := c
  refine fg [_] d ?_
  obtain rfl := oi K
  replace c := pm [.F 5,.F 1,.F 5,.F 5,.D 4,.D 4] c
  exact ⟨none, 0, bY, s, rfl, lr, Sl.nil, d2, cT, c⟩
 replace K := iteF bs K
 refine sg [.k,.s,.p,.p,.B 6,.p,.p] c d fun a d => ?_
 obtain ⟨j, cU, K⟩ := B4 K
 have hF := c.lendV RB.mono 0 rfl aL ar; clear c; obtain ⟨fB, ax, c, cV, cW⟩ := hF
 replace c := pm [.F 3,.F 3,.F 3,.F 8,.F 8,.F 5,.F 8] c
 refine fq d ((by have bG := a0U c (Sl.mono A7.mono ax aJ) (Sl.mono (RL.mono RI.mono) ax aK) cV (Sl.mono A7.mono ax D) (Sl.mono (RL.mono RI.mono) ax E) (Ev.mono A5.mono ax aP) (rfl) bp (Sl.mono A8.mono ax aN) (Ev.mono RB.mono ax X) U (Ev.mono RI.mono ax au) ad (Ev.mono RI.mono ax av) ae cU; rw [ar] at bG; exact bG)) ?_; rintro _ w ⟨aF, aG, fC, aQ, rfl, aR, rfl, c⟩; refine ⟨_, rfl, fun a d => ?_⟩
 replace c := cW _ _ c
 replace aR := Ev.flat (s2 := s) (fun _ _ _ _ h => h) aR
 refine sl [.p,.p,.p,.p,.p,.p,.p,.e,.q,.s,.p,.p,.e] c d fun a d => ?_
 refine W.cond d rfl (fun bt => ?_) (fun bt => ?_)
 ·replace K := iteT bt K
  refine sg [.s,.p,.p,.f 0,.C 10 0 2,.p,.p,.p] c d fun a d => ?_
  obtain ⟨bL, cX, K⟩ := B4 K
  have hF := c.lendV RB.mono 0 rfl aL ar; clear c; obtain ⟨fD, ay, c, cY, cZ⟩ := hF
  replace c := pm [.F 7,.F 7,.F 7,.F 7,.F 7,.F 7,.F 7] c
  refine fq d ((by have bG := a0C c (Sl.mono A7.mono ay aJ) (Sl.mono (RL.mono RI.mono) ay aK) cY (Sl.mono A7.mono ay D) (Sl.mono (RL.mono RI.mono) ay E) (Ev.mono A5.mono ay aP) (rfl) bp (Sl.mono A8.mono ay aN) (Ev.mono RB.mono ay X) U (Ev.mono RI.mono ay au) ad (Ev.mono RI.mono ay av) ae cX; rw [ar] at bG; exact bG)) ?_; rintro _ w ⟨rfl, c⟩; refine ⟨_, rfl, fun a d => ?_⟩
  replace c := cZ _ _ c
  refine sl [.e,.s,.p,.p,.p,.p] c d fun a d => ?_
  refine vP c d (A6.build d (vs := [(0, vi x4), (1, vi x1), (2, vi j.2.1), (3, vi j.2.2)]) [vi x4, vi x1, vi j.2.1, vi j.2.2, vi 0] rfl (by kernel_rfl)) rfl fun a d => ?_
  refine WL.lit d c (e := 50) (es := 5) (vs := [(0, .agg (List.toArray [vi x4, vi x1, vi j.2.1, vi j.2.2, vi 0]))]) (cs := [vi x4, vi x1, vi j.2.1, vi j.2.2, vi 0]) (A0 rfl) rfl (by kernel_rfl) rfl fun d3 a w d c => ?_
  replace c := c.ptVec (es := 5) (m := 1) rfl (by decide)
  have d4 : Ev 5 A5 s [vi x4, vi x1, vi j.2.1, vi j.2.2, vi 0] [(A4.mk x4 x1 j.2.1 j.2.2 0)] := (Ev.cons (c1 := [vi x4, vi x1, vi j.2.1, vi j.2.2, vi 0]) rfl rfl (Ev.nil))
  have hF := c.fixD A5.mono 0 rfl d4 (rfl); clear c; obtain ⟨b_, aT, c, d5⟩ := hF
  obtain ⟨aJ, aK, aL, D⟩ := m4 aT aJ aK aL D
  obtain ⟨E, aN, aO, aP⟩ := m4 aT E aN aO aP
  obtain ⟨X, au, av, aR⟩ := m4 aT X au av aR
  refine sl [.p,.e] c d fun a d => ?_
  refine W.ret ?_
  replace c := pm [.F 9,.F 8,.F 8,.F 8,.F 6] c
  have hF := St.plnHotClose (ps := [B2 4 1 M N b.over.length A, B2 3 1 P Q b.arrived.length B, B2 3 1 S T b.ends.length C]) (O := D0) (x := (C5.mk (C2.mk b.Promise.From b.Promise.To b.Promise.Dep b.Promise.Arr bL.1 b.Promise.Journey) Z ak am bL.2.1 bL.2.2)) c aO (rfl) bK rfl ⟨_, _, _, _, _, _, _, _, _, _, _, _, _, _, rfl, rfl, aN, X, U, au, ad, av, ae⟩; clear c; obtain ⟨bZ, c, d6, c2⟩ := hF
  replace c : St _ b_ (M5 78 11 f l y0.promises.length bZ :: B2 4 1 (some ⟨V, 0, none⟩) g.length g.length G :: pc L #[.slice y y0.net.Day.Trains.length u, .slice z y0.net.Day.Turns.length v, vi y0.net.least, vi y0.time, .slice f y0.promises.length l, .slice o y0.messages.length n] 69 :: L0 P2.f (Value.int .i64) H x3 :: B2 50 5 o n y0.messages.length F :: B2 88 3 aF aG j.1.length aQ :: pc aa #[.slice ai x2.Day.Trains.length ag, .slice aj x2.Day.Turns.length ah, vi x2.least] 66 :: R) := c
  refine fg [_] d ?_
  obtain rfl := oi K
  replace c := pm [.F 4,.F 1,.F 4,.F 4,.D 4,.D 4,.D 4] c
  exact ⟨(some ⟨d3, 0, none⟩), 1, bZ, b_, rfl, aT, d5, d6, c2, c⟩
 replace K := iteF bt K
 refine sg [.k,.s] c d fun a d => ?_
 replace c := c.vecNil 50 5
 refine sl [.p,.e,.q,.s,.p,.n,.f 0,.f 5,.f 0,.z 4 5,.l 88 3,.p,.e] c d fun a d => ?_
 obtain ⟨ca, q, K⟩ := B4 K
 refine W.cut (fun a w => ∃ I aA aB aM af, I = ca ∧ Ev 5 A5 s af I ∧ I.length = aM ∧ Rep a 245 [(0, pp L), (1, vi x1), (4, vi x4), (7, pp aa), (11, .pointer (some ⟨(ab f), (ao f + (x1).toNat * 11), none⟩)), (15, .slice aF j.1.length aG), (18, .slice aA aM aB)] ∧ St w s (B2 50 5 aA aB aM af :: B2 4 1 (some ⟨V, 0, none⟩) g.length g.length G :: B2 88 3 aF aG j.1.length aQ :: pc L #[.slice y y0.net.Day.Trains.length u, .slice z y0.net.Day.Turns.length v, vi y0.net.least, vi y0.time, .slice f y0.promises.length l, .slice o y0.messages.length n] 69 :: a2k 78 11 f l y0.promises.length p.cs ((x1).toNat * 11) [vi b.Promise.From, vi b.Promise.To, vi b.Promise.Dep, vi b.Promise.Arr, vi b.Promise.State, .slice aD b.Promise.Journey.Rides.length aE, .slice M b.over.length N, .slice P b.arrived.length Q, .slice S b.ends.length T, vi b.station, vi b.when] :: L0 P2.f (Value.int .i64) H x3 :: B2 50 5 o n y0.messages.length F :: B2 4 1 M N b.over.length A :: B2 3 1 P Q b.arrived.length B :: B2 3 1 S T b.ends.length C :: L5 (b2E p.hs ((x1).toNat)) :: pc aa #[.slice ai x2.Day.Trains.length ag, .slice aj x2.Day.Turns.length ah, vi x2.least] 66 :: R)) ?_ ?_
 ·refine W.block ?_
  refine W.loop (fun m a w => ∃ J Y I aA aB aM af, J.length = m ∧ b.Promise.Journey.Rides.drop Y = J ∧ F6.loop2 x1 x2 x4 y0 az Z j J Y I = some ca ∧ Ev 5 A5 s af I ∧ I.length = aM ∧ Rep a 245 [(0, pp L), (1, vi x1), (4, vi x4), (7, pp aa), (11, .pointer (some ⟨(ab f), (ao f + (x1).toNat * 11), none⟩)), (12, .slice (some ⟨V, 0, none⟩) g.length g.length), (15, .slice aF j.1.length aG), (18, .slice aA aM aB), (158, .slice aD b.Promise.Journey.Rides.length aE), (159, vi ((b.Promise.Journey.Rides).length : Int)), (160, vi ((Y : Nat) : Int))] ∧ St w s (B2 50 5 aA aB aM af :: B2 4 1 (some ⟨V, 0, none⟩) g.length g.length G :: B2 88 3 aF aG j.1.length aQ :: pc L #[.slice y y0.net.Day.Trains.length u, .slice z y0.net.Day.Turns.length v, vi y0.net.least, vi y0.time, .slice f y0.promises.length l, .slice o y0.messages.length n] 69 :: a2k 78 11 f l y0.promises.length p.cs ((x1).toNat * 11) [vi b.Promise.From, vi b.Promise.To, vi b.Promise.Dep, vi b.Promise.Arr, vi b.Promise.State, .slice aD b.Promise.Journey.Rides.length aE, .slice M b.over.length N, .slice P b.arrived.length Q, .slice S b.ends.length T, vi b.station, vi b.when] :: L0 P2.f (Value.int .i64) H x3 :: B2 50 5 o n y0.messages.length F :: B2 4 1 M N b.over.length A :: B2 3 1 P Q b.arrived.length B :: B2 3 1 S T b.ends.length C :: L5 (b2E p.hs ((x1).toNat)) :: pc aa #[.slice ai x2.Day.Trains.length ag, .slice aj x2.Day.Turns.length ah, vi x2.least] 66 :: R)) (m := b.Promise.Journey.Rides.length) ⟨b.Promise.Journey.Rides, 0, [], none, 0, 0, [], rfl, rfl, q, (Ev.nil), (rfl), d.pk, c⟩ ?_
  clear d c a w q; rintro fE a w ⟨J, Y, I, aA, aB, aM, af, rfl, aU, q, aS, rfl, d, c⟩
  refine W.gen fun fF bu => ?_
  rcases J with _ | ⟨cb, J⟩
  ·have cc := E8 aU
   refine sg [.s,.p,.e,.q] c d fun a d => ?_
   refine W.condF d rfl (decide_eq_false (by omega)) ?_
   subst bu
   refine W.exit rfl ?_
   exact ⟨I, aA, aB, I.length, af, oi q, aS, rfl, d.pk, c⟩
  obtain ⟨cc, c3, aU⟩ := C3 aU
  rw [F6.loop2] at q
  refine sg [.s,.p,.e,.q] c d fun a d => ?_
  refine W.condT d rfl (decide_eq_true (by omega)) ?_
  obtain ⟨eZ, e0, c4, eE⟩ := aN.at c3
  subst c4
  refine sg [.k,.q,.o,.s,.p,.x 88,.h] c d fun a d => ?_
  refine al d c a0Z fun bM a w d c => ?_
  refine so [.p,.A 0,.e,.q,.q] c d fun a w d c => ?_
  obtain ⟨d7, aC, q⟩ := B4 q
  refine W.cut (fun a w => ∃ bN, bN = d7 ∧ Rep a 245 [(0, pp L), (1, vi x1), (4, vi x4), (7, pp aa), (11, .pointer (some ⟨(ab f), (ao f + (x1).toNat * 11), none⟩)), (12, .slice (some ⟨V, 0, none⟩) g.length g.length), (15, .slice aF j.1.length aG), (18, .slice aA I.length aB), (19, vi ((Y : Nat) : Int)), (20, pp bM), (158, .slice aD b.Promise.Journey.Rides.length aE), (159, vi ((b.Promise.Journey.Rides).length : Int)), (160, vi ((Y : Nat) : Int)), (177, .bool bN)] ∧ St w s (pc bM (A1.cells cb).toArray 88 :: B2 50 5 aA aB I.length af :: B2 4 1 (some ⟨V, 0, none⟩) g.length g.length G :: B2 88 3 aF aG j.1.length aQ :: pc L #[.slice y y0.net.Day.Trains.length u, .slice z y0.net.Day.Turns.length v, vi y0.net.least, vi y0.time, .slice f y0.promises.length l, .slice o y0.messages.length n] 69 :: a2k 78 11 f l y0.promises.length p.cs ((x1).toNat * 11) [vi b.Promise.From, vi b.Promise.To, vi b.Promise.Dep, vi b.Promise.Arr, vi b.Promise.State, .slice aD b.Promise.Journey.Rides.length aE, .slice M b.over.length N, .slice P b.arrived.length Q, .slice S b.ends.length T, vi b.station, vi b.when] :: L0 P2.f (Value.int .i64) H x3 :: B2 50 5 o n y0.messages.length F :: B2 4 1 M N b.over.length A :: B2 3 1 P Q b.arrived.length B :: B2 3 1 S T b.ends.length C :: L5 (b2E p.hs ((x1).toNat)) :: pc aa #[.slice ai x2.Day.Trains.length ag, .slice aj x2.Day.Turns.length ah, vi x2.least] 66 :: R)) ?_ ?_
  ·refine W.gen fun fG b0 => ?_
   obtain ⟨d8, e1, eF, c5, aC⟩ := gxS aC
   obtain ⟨e2, e3, c6, e4, er⟩ := X.at c5
   subst c6
   refine sg [.r,.p,.n,.f 6,.z 5 6,.p,.y 8,.g 8,.p] c d fun a d => ?_
   rcases Bool.eq_false_or_eq_true d8 with bv | bv
   ·replace aC := iteT bv aC
    refine sl [.O,.O,.O,.O,.T,.e] c d fun a d => ?_
    subst b0
    exact ⟨true, oi aC, d.pk, c⟩
   replace aC := iteF bv aC
   obtain ⟨d9, e5, eG, c7, aC⟩ := gxS aC
   obtain ⟨e6, e7, c8, e8, et⟩ := aL.at c7
   subst c8
   refine sl [.p,.p,.y 2,.g 2,.N,.e] c d fun a d => ?_
   subst b0
   exact ⟨d9, oi aC, d.pk, c⟩
  clear d c a w; rintro a w ⟨bN, rfl, d, c⟩
  refine W.cond d rfl (fun bz => ?_) (fun bz => ?_)
  ·replace q := iteT bz q
   refine W.exit rfl ?_
   have := aN.small
   refine sm [.r,.i,.p,.e,.D 0] c d fun a w d c => ?_
   subst bu
   exact ⟨J.length, b2p _, J, Y + 1, I, aA, aB, I.length, af, rfl, aU, q, aS, rfl, d.pk, c⟩
  replace q := iteF bz q
  refine sg [.k,.q] c d fun a d => ?_
  refine W.gen fun fH c9 => ?_
  refine rE c [] [] [0, 1, 2, 3, 4, 5, 6, 7] [0, 1, 2, 3, 4, 5, 6, 7] mixed ?_
  replace c := c.drew
  refine sr [.T 0 true (.B 12),.P 1 .p,.P 2 .p] d c c fun a d => ?_
  obtain ⟨fI, c_, eH, da, q⟩ := gxS q
  obtain ⟨e9, e_, db, fa, eu⟩ := aR.at da
  subst db
  refine tP (i := 3) d rfl (by kernel_rfl) (A6.idx d ((((Y : Nat) : Int)).toNat) rfl rfl a6s c_ (by omega) (c.vecAok 3 rfl (by omega : (((Y : Nat) : Int)).toNat < j.1.length))) rfl c c fun a d => ?_
  refine sr [.T 4 true (.G 3)] d c c fun a d => ?_
  refine ro 5 true true ?_
  obtain ⟨aX, dc, q⟩ := B4 q
  refine fq d (I5 c aJ aK dc) ?_; rintro _ w ⟨fb, rfl, d_, c⟩; refine ⟨_, rfl, fun a d => ?_⟩
  subst d_
  refine WL.nil ?_
  refine r3 c ?_
  refine sr [.P 6 (.v 1 3),.P 7 .p] d c c fun a d => ?_
  refine Rg.done (by kernel_rfl) ?_
  subst c9
  refine W.seq ?_
  refine W.gen fun fJ dd => ?_
  refine rE c [] [] [0, 1, 2, 3, 4, 5, 6, 7, 8] [0, 1, 2, 3, 4, 5, 6, 7, 8] mixed ?_
  replace c := c.drew
  refine sr [.P 0 .p,.P 1 .p,.T 2 true .n,.P 3 (.f 0),.T 4 true (.C 4 0 3),.T 5 true (.B 0)] d c c fun a d => ?_
  refine ro 6 true true ?_
  obtain ⟨fK, de, q⟩ := B4 q
  refine fq d (I5 c D E de) ?_; rintro _ w ⟨fc, rfl, ea, c⟩; refine ⟨_, rfl, fun a d => ?_⟩
  subst ea
  refine WL.nil ?_
  refine r3 c ?_
  refine sr [.P 7 (.v 1 3),.P 8 .p] d c c fun a d => ?_
  refine Rg.done (by kernel_rfl) ?_
  subst dd
  obtain ⟨eb, aH, q⟩ := B4 q
  refine W.cut (fun a w => ∃ aY bA bB bC a_, aY = eb ∧ Ev 5 A5 s a_ aY ∧ aY.length = bC ∧ Rep a 245 [(0, pp L), (1, vi x1), (4, vi x4), (7, pp aa), (11, .pointer (some ⟨(ab f), (ao f + (x1).toNat * 11), none⟩)), (12, .slice (some ⟨V, 0, none⟩) g.length g.length), (15, .slice aF j.1.length aG), (18, .slice bA bC bB), (158, .slice aD b.Promise.Journey.Rides.length aE), (159, vi ((b.Promise.Journey.Rides).length : Int)), (160, vi ((Y : Nat) : Int))] ∧ St w s (pc bM (A1.cells cb).toArray 88 :: B2 50 5 bA bB bC a_ :: B2 4 1 (some ⟨V, 0, none⟩) g.length g.length G :: B2 88 3 aF aG j.1.length aQ :: pc L #[.slice y y0.net.Day.Trains.length u, .slice z y0.net.Day.Turns.length v, vi y0.net.least, vi y0.time, .slice f y0.promises.length l, .slice o y0.messages.length n] 69 :: a2k 78 11 f l y0.promises.length p.cs ((x1).toNat * 11) [vi b.Promise.From, vi b.Promise.To, vi b.Promise.Dep, vi b.Promise.Arr, vi b.Promise.State, .slice aD b.Promise.Journey.Rides.length aE, .slice M b.over.length N, .slice P b.arrived.length Q, .slice S b.ends.length T, vi b.station, vi b.when] :: L0 P2.f (Value.int .i64) H x3 :: B2 50 5 o n y0.messages.length F :: B2 4 1 M N b.over.length A :: B2 3 1 P Q b.arrived.length B :: B2 3 1 S T b.ends.length C :: L5 (b2E p.hs ((x1).toNat)) :: pc aa #[.slice ai x2.Day.Trains.length ag, .slice aj x2.Day.Turns.length ah, vi x2.least] 66 :: R)) ?_ ?_
  ·refine W.gen fun fL b1 => ?_
   refine W.cond d rfl (fun bD => ?_) (fun bD => ?_)
   ·replace aH := iteT bD aH
    refine sg [.r,.p,.p,.p,.p,.p] c d fun a d => ?_
    refine vP c d (A6.build d (vs := [(0, vi x4), (1, vi x1), (2, vi ((Y : Nat) : Int)), (3, vi 4), (4, vi aX.Track)]) [vi x4, vi x1, vi ((Y : Nat) : Int), vi 4, vi aX.Track] rfl (by kernel_rfl)) rfl fun a d => ?_
    refine WL.lit d c (e := 50) (es := 5) (vs := [(0, .agg (List.toArray [vi x4, vi x1, vi ((Y : Nat) : Int), vi 4, vi aX.Track]))]) (cs := [vi x4, vi x1, vi ((Y : Nat) : Int), vi 4, vi aX.Track]) (A0 rfl) rfl (by kernel_rfl) rfl fun fM a w d c => ?_
    obtain ⟨cd, df, aH⟩ := B4 aH
    refine WL.appD d c 1 (m := 1) (A0 rfl) rfl rfl rfl a6K rfl aS rfl (xs := [(A4.mk x4 x1 ((Y : Nat) : Int) 4 aX.Track)]) (Ev.cons (c1 := [vi x4, vi x1, vi ((Y : Nat) : Int), vi 4, vi aX.Track]) rfl rfl (Ev.nil)) rfl rfl df rfl fun ec ed dg a w ee d c => ?_
    refine sl [.p,.e] c d fun a d => ?_
    subst b1
    exact ⟨cd, ec, ed, cd.length, dg, oi aH, ee, (rfl), d.pk, c⟩
   replace aH := iteF bD aH
   refine W.skip ?_
   subst b1
   exact ⟨I, aA, aB, I.length, af, oi aH, aS, rfl, d.pk, c⟩
  clear d c a w; rintro a w ⟨aY, bA, bB, bC, a_, rfl, ef, rfl, d, c⟩
  have := aN.small
  refine sm [.r,.i,.p,.e,.D 0] c d fun a w d c => ?_
  subst bu
  exact ⟨J.length, b2p _, J, Y + 1, aY, bA, bB, aY.length, a_, rfl, aU, q, ef, rfl, d.pk, c⟩
 clear d c a w; rintro a w ⟨I, aA, aB, aM, af, rfl, aS, rfl, d, c⟩
 refine sg [.s,.p,.l 88 3,.p,.p,.e,.q,.q] c d fun a d => ?_
 refine W.gen fun fN dh => ?_
 refine rE c [] [] [0, 1, 2, 3, 4, 5, 6, 7] [0, 1, 2, 3, 4, 5, 6, 7] mixed ?_
 replace c := c.drew
 refine sr [.T 0 true (.B 11),.P 1 .p,.P 2 .p] d c c fun a d => ?_
 obtain ⟨fO, di, eI, dj, K⟩ := gxS K
 obtain ⟨fd, fe, dk, ff, ev⟩ := aR.at dj
 subst dk
 refine tP (i := 3) d rfl (by kernel_rfl) (A6.idx d ((w64 (((j.1.length : Nat) : Int) - 1)).toNat) rfl rfl a6s di (by omega) (c.vecAok 2 rfl (by omega : (w64 (((j.1.length : Nat) : Int) - 1)).toNat < j.1.length))) rfl c c fun a d => ?_
 refine sr [.T 4 true (.G 2)] d c c fun a d => ?_
 refine ro 5 true true ?_
 obtain ⟨aZ, dl, K⟩ := B4 K
 refine fq d (J3 c aJ aK dl) ?_; rintro _ w ⟨fh, rfl, eg, c⟩; refine ⟨_, rfl, fun a d => ?_⟩
 subst eg
 refine WL.nil ?_
 refine r3 c ?_
 refine sr [.P 6 (.v 2 3),.P 7 .p] d c c fun a d => ?_
 refine Rg.done (by kernel_rfl) ?_
 subst dh
 refine W.seq ?_
 refine W.gen fun fP dm => ?_
 refine rE c [] [] [0, 1, 2, 3, 4, 5, 6, 7, 8, 9, 10, 11, 12, 13, 14, 15, 16] [0, 1, 2, 3, 4, 5, 6, 7, 8, 9, 10, 11, 12, 13, 14, 15, 16] mixed ?_
 replace c := c.drew
 obtain ⟨fQ, fi, eJ, dn, K⟩ := gxS K
 obtain ⟨fj, fk, dp, eK⟩ := aN.at dn
 subst dp
 refine sr [.P 0 .p,.P 1 .p,.T 2 true .n,.P 3 (.f 0),.T 4 true (.C 3 0 3),.P 5 .p,.T 6 true .n,.P 7 (.f 0),.P 8 (.f 5),.P 9 (.f 0),.T 10 true (.z 4 5),.P 11 .p,.P 12 (.x 88),.T 13 true .h] d c c fun a d => ?_
 refine ro 14 true true ?_
 obtain ⟨fR, dq, K⟩ := B4 K
 refine fq d (J3 c D E dq) ?_; rintro _ w ⟨fl, rfl, eh, c⟩; refine ⟨_, rfl, fun a d => ?_⟩
 subst eh
 refine WL.nil ?_
 refine r3 c ?_
 refine sr [.P 15 (.v 2 3),.P 16 .p] d c c fun a d => ?_
 refine Rg.done (by kernel_rfl) ?_
 subst dm
 obtain ⟨ei, aI, K⟩ := B4 K
 refine W.cut (fun a w => ∃ bl bm bn bE ba, bl = ei ∧ Ev 5 A5 s ba bl ∧ bl.length = bE ∧ Rep a 245 [(11, .pointer (some ⟨(ab f), (ao f + (x1).toNat * 11), none⟩)), (15, .slice aF j.1.length aG), (18, .slice bm bE bn)] ∧ St w s (B2 50 5 bm bn bE ba :: B2 88 3 aF aG j.1.length aQ :: pc L #[.slice y y0.net.Day.Trains.length u, .slice z y0.net.Day.Turns.length v, vi y0.net.least, vi y0.time, .slice f y0.promises.length l, .slice o y0.messages.length n] 69 :: a2k 78 11 f l y0.promises.length p.cs ((x1).toNat * 11) [vi b.Promise.From, vi b.Promise.To, vi b.Promise.Dep, vi b.Promise.Arr, vi b.Promise.State, .slice aD b.Promise.Journey.Rides.length aE, .slice M b.over.length N, .slice P b.arrived.length Q, .slice S b.ends.length T, vi b.station, vi b.when] :: L0 P2.f (Value.int .i64) H x3 :: B2 50 5 o n y0.messages.length F :: B2 4 1 M N b.over.length A :: B2 3 1 P Q b.arrived.length B :: B2 3 1 S T b.ends.length C :: L5 (b2E p.hs ((x1).toNat)) :: pc aa #[.slice ai x2.Day.Trains.length ag, .slice aj x2.Day.Turns.length ah, vi x2.least] 66 :: R)) ?_ ?_
 ·refine W.gen fun fS b2 => ?_
  refine W.cond d rfl (fun bF => ?_) (fun bF => ?_)
  ·replace aI := iteT bF aI
   refine sg [.r,.p,.p,.p,.p,.p] c d fun a d => ?_
   refine vP c d (A6.build d (vs := [(0, vi x4), (1, vi x1), (2, vi (w64 (((j.1.length : Nat) : Int) - 1))), (3, vi 3), (4, vi aZ.Arr)]) [vi x4, vi x1, vi (w64 (((j.1.length : Nat) : Int) - 1)), vi 3, vi aZ.Arr] rfl (by kernel_rfl)) rfl fun a d => ?_
   refine WL.lit d c (e := 50) (es := 5) (vs := [(0, .agg (List.toArray [vi x4, vi x1, vi (w64 (((j.1.length : Nat) : Int) - 1)), vi 3, vi aZ.Arr]))]) (cs := [vi x4, vi x1, vi (w64 (((j.1.length : Nat) : Int) - 1)), vi 3, vi aZ.Arr]) (A0 rfl) rfl (by kernel_rfl) rfl fun fT a w d c => ?_
   obtain ⟨ce, dr, aI⟩ := B4 aI
   refine WL.appD d c 0 (m := 1) (A0 rfl) rfl rfl rfl a6K rfl aS rfl (xs := [(A4.mk x4 x1 (w64 (((j.1.length : Nat) : Int) - 1)) 3 aZ.Arr)]) (Ev.cons (c1 := [vi x4, vi x1, vi (w64 (((j.1.length : Nat) : Int) - 1)), vi 3, vi aZ.Arr]) rfl rfl (Ev.nil)) rfl rfl dr rfl fun ej ek ds a w el d c => ?_
   refine so [.p,.e,.D 1] c d fun a w d c => ?_
   subst b2
   exact ⟨ce, ej, ek, ce.length, ds, oi aI, el, (rfl), d.pk, c⟩
  replace aI := iteF bF aI
  refine sm [.k,.D 1] c d fun a w d c => ?_
  subst b2
  exact ⟨I, aA, aB, I.length, af, oi aI, aS, rfl, d.pk, c⟩
 clear d c a w; rintro a w ⟨bl, bm, bn, bE, ba, rfl, bO, rfl, d, c⟩
 refine sg [.s,.p,.p,.n,.f 0,.f 5,.f 0] c d fun a d => ?_
 refine WL.storeZN bp d c 3 5 rfl rfl rfl (A0 rfl) rfl rfl rfl a8N rfl rfl fun a w d c => ?_
 refine sl [.e,.s,.p,.p,.e] c d fun a d => ?_
 refine W.ret ?_
 have hF := c.fixD A8.mono 1 rfl aR rfl; clear c; obtain ⟨em, aV, c, bP⟩ := hF
 obtain ⟨bO, D, E, aO⟩ := m4 aV bO D E aO
 obtain ⟨aP, X, au, av⟩ := m4 aV aP X au av
 obtain ⟨aJ, aK⟩ := m2 aV aJ aK
 replace c := pm [.F 8,.F 8,.F 8,.F 8,.F 6] c
 have hF := St.plnHotClose (ps := [B2 4 1 M N b.over.length A, B2 3 1 P Q b.arrived.length B, B2 3 1 S T b.ends.length C]) (O := D0) (x := (C5.mk (C2.mk b.Promise.From b.Promise.To b.Promise.Dep b.Promise.Arr b.Promise.State (A3.mk j.1)) Z ak am b.station b.when)) c aO (rfl) bK rfl ⟨_, _, _, _, _, _, _, _, _, _, _, _, _, _, rfl, rfl, bP, X, U, au, ad, av, ae⟩; clear c; obtain ⟨b3, c, bQ, dt⟩ := hF
 replace c : St _ em (M5 78 11 f l y0.promises.length b3 :: B2 50 5 bm bn bl.length ba :: pc L #[.slice y y0.net.Day.Trains.length u, .slice z y0.net.Day.Turns.length v, vi y0.net.least, vi y0.time, .slice f y0.promises.length l, .slice o y0.messages.length n] 69 :: L0 P2.f (Value.int .i64) H x3 :: B2 50 5 o n y0.messages.length F :: pc aa #[.slice ai x2.Day.Trains.length ag, .slice aj x2.Day.Turns.length ah, vi x2.least] 66 :: R) := c
 have hF := c.fixD A5.mono 1 rfl bO rfl; clear c; obtain ⟨en, bo, c, eo⟩ := hF
 obtain ⟨bP, bQ, D, E⟩ := m4 bo bP bQ D E
 obtain ⟨aP, aJ, aK⟩ := m3 bo aP aJ aK
 refine fg [_] d ?_
 obtain rfl := oi K
 replace c := pm [.F 3,.F 1,.F 3,.F 3,.D 4] c
 exact ⟨bm, bn, b3, en, rfl, (Sg.Le.trans aV bo), eo, bQ, dt, c⟩
set_option maxHeartbeats 8000000 in
theorem a0J {w : World} {ae aj ak o p C az A aO : Nat} {x1 : B0} {am an q u D B : Option Addr} {x2 : Int} {y0 : G3} {V : a0o} {H : List Value} (c : St w s (pc ae #[.slice q y0.net.Day.Trains.length o, .slice u y0.net.Day.Turns.length p, vi y0.net.least, vi y0.time, .slice D az C, .slice B aO A] 69 :: M5 78 11 D C az V :: B2 50 5 B A aO H :: R)) (bu : a0S b2n s) (x : Sl 4 A7 s am aj x1.Trains) (y : Sl 1 (RL 1 (RI .i64)) s an ak x1.Turns) (d : Sl 4 A7 s q o y0.net.Day.Trains) (f : Sl 1 (RL 1 (RI .i64)) s u p y0.net.Day.Turns) (I : HEv 11 D0 s V y0.promises) (a5 : y0.promises.length = az) (n : Ev 5 A5 s H y0.messages) (a6 : y0.messages.length = aO) {r : (List A4) × Int × (List C5) × (List B1) × (List (List Int)) × Int × Int × (List A4)} (T : D6 x1 x2 y0 = some r) :
  Calls b2n 10 [pp ae, .agg (List.toArray [.slice am x1.Trains.length aj, .slice an x1.Turns.length ak]), vi x2].toArray w (fun e w => ∃ (a0 : Option Addr) (c0 n0 : Nat) (bn : List Value) (aU : a0o) (bo : Option Addr) (bp : Nat) (bq : Option Addr) (br : Nat) (bs : Option Addr) (bt : Nat) (aV : Nat) (aW : List Value) (t : Sg), e = .returned (.tuple #[.slice a0 n0 c0, vi r.2.1]) ∧ s.Le t ∧ Ev 5 A5 t bn r.1 ∧ r.1.length = n0 ∧ HEv 11 D0 t aU r.2.2.1 ∧ r.2.2.1.length = az ∧ Sl 4 A7 t bo bp r.2.2.2.1 ∧ Sl 1 (RL 1 (RI .i64)) t bq br r.2.2.2.2.1 ∧ Ev 5 A5 t aW r.2.2.2.2.2.2.2 ∧ r.2.2.2.2.2.2.2.length = aV ∧ St w t (B2 50 5 a0 c0 n0 bn :: pc ae #[.slice bo r.2.2.2.1.length bp, .slice bq r.2.2.2.2.1.length br, vi r.2.2.2.2.2.1, vi r.2.2.2.2.2.2.1, .slice D az C, .slice bs aV bt] 69 :: M5 78 11 D C az aU :: B2 50 5 bs bt aV aW :: R)) := by
 refine enter Tryz.func10 rfl rfl rfl fun a b => ?_
 rw [D6] at T
 subst a5
 subst a6
 refine sg [.s] c b fun a b => ?_
 refine bw b c fun aG a w b c => ?_
 refine sl [.p,.p,.e,.q,.s,.B 0] c b fun a b => ?_
 obtain ⟨cx, bv, T⟩ := B4 T
 refine fq b (a1f c (a0S.mono lr bu) x y bv) ?_; rintro _ w ⟨rfl, c⟩; refine ⟨_, rfl, fun a b => ?_⟩
 refine sl [.p,.e,.s,.p,.p,.e] c b fun a b => ?_
 refine W.cond b rfl (fun aH => ?_) (fun aH => ?_)
 ·replace T := iteT aH T
  refine sg [.s,.p,.p,.p,.e] c b fun a b => ?_
  refine W.ret ?_
  replace c := c.vecNil 50 5
  refine fg [_, _] b ?_
  obtain rfl := oi T
  replace c := c.dropAt 1
  exact ⟨none, 0, 0, [], V, q, o, u, p, B, A, y0.messages.length, H, s, rfl, lr, (Ev.nil), (rfl), I, (rfl), d, f, n, (rfl), c⟩
 replace T := iteF aH T
 refine sg [.k,.q,.o,.s,.p,.p,.n,.f 3,.b 1,.p,.p,.e] c b fun a b => ?_
 refine W.cond b rfl (fun aI => ?_) (fun aI => ?_)
 ·replace T := iteT aI T
  refine sg [.s,.p,.p,.e] c b fun a b => ?_
  refine W.ret ?_
  replace c := c.vecNil 50 5
  refine fg [_, _] b ?_
  obtain rfl := oi T
  replace c := c.dropAt 1
  exact ⟨none, 0, 0, [], V, q, o, u, p, B, A, y0.messages.length, H, s, rfl, lr, (Ev.nil), (rfl), I, (rfl), d, f, n, (rfl), c⟩
 replace T := iteF aI T
 refine sg [.s,.p,.p,.p,.e] c b fun a b => ?_
 refine W.cond b rfl (fun aJ => ?_) (fun aJ => ?_)
 ·replace T := iteT aJ T
  refine sg [.s,.p,.p,.e] c b fun a b => ?_
  refine W.ret ?_
  replace c := c.vecNil 50 5
  refine fg [_, _] b ?_
  obtain rfl := oi T
  replace c := c.dropAt 1
  exact ⟨none, 0, 0, [], V, q, o, u, p, B, A, y0.messages.length, H, s, rfl, lr, (Ev.nil), (rfl), I, (rfl), d, f, n, (rfl), c⟩
 replace T := iteF aJ T
 refine sm [.k,.s,.p,.p,.n,.f 3,.S 1,.e,.q] c b fun a w b c => ?_
 refine W.gen fun bz a7 => ?_
 refine rE c [] [] [0, 1, 2, 3, 4, 5, 6, 7, 8, 9] [0, 1, 2, 3, 4, 5, 6, 7, 8, 9] mixed ?_
 replace c := c.drew
 refine sr [.T 0 true (.B 0),.P 2 .p,.T 3 true .n,.P 4 (.f 0),.P 5 (.f 2),.T 6 true (.b 1)] b c c fun a b => ?_
 obtain ⟨g, aQ, T⟩ := B4 T
 suffices key : ∀ z E F J K L (a : Act) (w : World), s.Le z → Sl 4 A7 z E F g.Trains → Sl 1 (RL 1 (RI .i64)) z J K g.Turns → Sl 4 A7 z am aj x1.Trains → Sl 1 (RL 1 (RI .i64)) z an ak x1.Turns → Sl 4 A7 z q o y0.net.Day.Trains → Sl 1 (RL 1 (RI .i64)) z u p y0.net.Day.Turns → HEv 11 D0 z V y0.promises → Ev 5 A5 z H y0.messages → Rep a 98 [(0, pp ae), (2, vi x2), (9, pp L)] → St w z (pc L #[.slice E g.Trains.length F, .slice J g.Turns.length K, vi y0.net.least] 66 :: pc aG #[.slice am x1.Trains.length aj, .slice an x1.Turns.length ak] 25 :: pc ae #[.slice q y0.net.Day.Trains.length o, .slice u y0.net.Day.Turns.length p, vi y0.net.least, vi x2, .slice D y0.promises.length C, .slice B y0.messages.length A] 69 :: M5 78 11 D C y0.promises.length V :: B2 50 5 B A y0.messages.length H :: R) → bz.nor a w by
  refine Rg.many 1 [8] (by kernel_rfl) ⟨?_, ?_, trivial⟩
  ·refine bk 1 true true ?_
   refine fq b (X6 c x y aQ) ?_; rintro _ w ⟨a8, z, rfl, l, aP, c⟩; refine ⟨_, rfl, fun a b => ?_⟩
   obtain ⟨x, y, d, f⟩ := m4 l x y d f
   obtain ⟨I, n⟩ := m2 l I n
   obtain ⟨E, F, J, K, rfl, G, P⟩ := aP
   refine WL.nil ?_
   refine r3 (St.down l c) ?_
   refine tP (i := 7) b rfl (by kernel_rfl) (A6.build b (vs := [(0, .agg (List.toArray [.slice E g.Trains.length F, .slice J g.Turns.length K])), (1, vi y0.net.least)]) [.slice E g.Trains.length F, .slice J g.Turns.length K, vi y0.net.least] rfl (by kernel_rfl)) rfl (St.down l c) (St.down l c) fun a b => ?_
   refine ro 8 true true ?_
   refine al b c b1j fun L a w b c => ?_
   refine WL.nil ?_
   refine r3 (St.down l (c.tail)) ?_
   refine ro 9 true true ?_
   refine so [.A 0,.e] c b fun a w b c => ?_
   refine r3 (St.down l (c.tail)) ?_
   refine Rg.done (by kernel_rfl) ?_
   exact key _ _ _ _ _ _ _ _ l G P x y d f I n b.pk c
  refine bk 8 true true ?_
  refine al b c b1j fun L a w b c => ?_
  refine WL.nil ?_
  refine r3 (c.tail) ?_
  refine ro 1 true true ?_
  refine fq b (X6 c x y aQ) ?_; rintro _ w ⟨a8, z, rfl, l, aP, c⟩; refine ⟨_, rfl, fun a b => ?_⟩
  obtain ⟨x, y, d, f⟩ := m4 l x y d f
  obtain ⟨I, n⟩ := m2 l I n
  obtain ⟨E, F, J, K, rfl, G, P⟩ := aP
  refine WL.nil ?_
  refine r3 (St.down l (c.tail)) ?_
  refine tP (i := 7) b rfl (by kernel_rfl) (A6.build b (vs := [(0, .agg (List.toArray [.slice E g.Trains.length F, .slice J g.Turns.length K])), (1, vi y0.net.least)]) [.slice E g.Trains.length F, .slice J g.Turns.length K, vi y0.net.least] rfl (by kernel_rfl)) rfl (St.down l (c.tail)) (St.down l (c.tail)) fun a b => ?_
  refine ro 9 true true ?_
  refine so [.A 0,.e] c b fun a w b c => ?_
  refine r3 (St.down l (c.tail)) ?_
  refine Rg.done (by kernel_rfl) ?_
  exact key _ _ _ _ _ _ _ _ l G P x y d f I n b.pk c
 clear b c a w; intro z E F J K L a w aX G P x y d f I n b c
 subst a7
 refine sg [.s] c b fun a b => ?_
 refine WL.mkMap (fk := P2.f) (fv := (Value.int .i64)) b c (A0 rfl) rfl fun ap a w b c => ?_
 refine sl [.p,.e,.q,.s,.f 0,.f 0,.b 1,.l 72 4,.p,.e] c b fun a b => ?_
 obtain ⟨aY, av, T⟩ := R8 T
 refine W.cut (fun a w => ∃ U, U = aY ∧ Rep a 98 [(0, pp ae), (2, vi x2), (9, pp L), (10, .map (some ap))] ∧ St w z (L0 P2.f (Value.int .i64) ap U :: pc L #[.slice E g.Trains.length F, .slice J g.Turns.length K, vi y0.net.least] 66 :: pc aG #[.slice am x1.Trains.length aj, .slice an x1.Turns.length ak] 25 :: pc ae #[.slice q y0.net.Day.Trains.length o, .slice u y0.net.Day.Turns.length p, vi y0.net.least, vi x2, .slice D y0.promises.length C, .slice B y0.messages.length A] 69 :: M5 78 11 D C y0.promises.length V :: B2 50 5 B A y0.messages.length H :: R)) ?_ ?_
 ·refine W.block ?_
  refine W.loop (fun m a w => ∃ N aw U, N.length = m ∧ g.Trains.drop aw = N ∧ D6.loop1 N aw U = aY ∧ Rep a 98 [(0, pp ae), (2, vi x2), (9, pp L), (10, .map (some ap)), (45, .slice E g.Trains.length F), (46, vi ((g.Trains).length : Int)), (47, vi ((aw : Nat) : Int))] ∧ St w z (L0 P2.f (Value.int .i64) ap U :: pc L #[.slice E g.Trains.length F, .slice J g.Turns.length K, vi y0.net.least] 66 :: pc aG #[.slice am x1.Trains.length aj, .slice an x1.Turns.length ak] 25 :: pc ae #[.slice q y0.net.Day.Trains.length o, .slice u y0.net.Day.Turns.length p, vi y0.net.least, vi x2, .slice D y0.promises.length C, .slice B y0.messages.length A] 69 :: M5 78 11 D C y0.promises.length V :: B2 50 5 B A y0.messages.length H :: R)) (m := g.Trains.length) ⟨g.Trains, 0, [], rfl, rfl, av, b.pk, c⟩ ?_
  clear b c a w av; rintro b3 a w ⟨N, aw, U, rfl, aC, av, b, c⟩
  refine W.gen fun b4 aR => ?_
  rcases N with _ | ⟨aZ, N⟩
  ·have a1 := E8 aC
   refine sg [.s,.p,.e,.q] c b fun a b => ?_
   refine W.condF b rfl (decide_eq_false (by omega)) ?_
   subst aR
   refine W.exit rfl ?_
   exact ⟨U, av, b.pk, c⟩
  obtain ⟨a1, a9, aC⟩ := C3 aC
  rw [D6.loop1] at av
  refine sg [.s,.p,.e,.q] c b fun a b => ?_
  refine W.condT b rfl (decide_eq_true (by omega)) ?_
  obtain ⟨bS, bT, a_, bP⟩ := G.at a9
  obtain ⟨b5, b6, b7, b8, rfl, b9, b_⟩ := a_
  refine sg [.k,.q,.o,.s,.p,.x 72,.h] c b fun a b => ?_
  refine al b c a5o fun ca a w b c => ?_
  refine so [.p,.A 0,.e,.r,.p,.f 0,.b 0,.p] c b fun a w b c => ?_
  refine WL.mapSet P2 b c 1 (k := aZ.No) (v := ((aw : Nat) : Int)) (.inl rfl) (A0 rfl) rfl rfl rfl rfl b0D rfl fun a w b c => ?_
  have := G.small
  refine so [.e,.r,.i,.p,.e,.D 0] c b fun a w b c => ?_
  subst aR
  exact ⟨N.length, b2p _, N, aw + 1, (O1 U aZ.No ((aw : Nat) : Int)), rfl, aC, av, b.pk, c⟩
 clear b c a w; rintro a w ⟨U, rfl, b, c⟩
 refine sg [.s] c b fun a b => ?_
 replace c := c.vecNil 50 5
 refine sl [.p,.e,.q,.s,.p,.n,.f 4,.b 4,.l 78 11,.p,.e] c b fun a b => ?_
 have bU : y0.promises.length ≤ 9223372036854775807 := by have := (c.hotOpen 5 rfl).vecCap 0 rfl; unfold maxLen at this; omega
 obtain ⟨a2, Q, T⟩ := B4 T
 refine W.cut (fun a w => ∃ S ad af ag aq X Y M, z.Le M ∧ (S, ad) = a2 ∧ Ev 5 A5 M X S ∧ S.length = aq ∧ HEv 11 D0 M Y ad ∧ ad.length = y0.promises.length ∧ Rep a 98 [(0, pp ae), (9, pp L), (13, .slice af aq ag)] ∧ St w M (B2 50 5 af ag aq X :: L0 P2.f (Value.int .i64) ap U :: pc L #[.slice E g.Trains.length F, .slice J g.Turns.length K, vi y0.net.least] 66 :: pc aG #[.slice am x1.Trains.length aj, .slice an x1.Turns.length ak] 25 :: pc ae #[.slice q y0.net.Day.Trains.length o, .slice u y0.net.Day.Turns.length p, vi y0.net.least, vi x2, .slice D y0.promises.length C, .slice B y0.messages.length A] 69 :: M5 78 11 D C y0.promises.length Y :: B2 50 5 B A y0.messages.length H :: R)) ?_ ?_
 ·refine W.block ?_
  refine W.loop (fun m a w => ∃ O ar S ad af ag aq X Y M, O = m ∧ ar + O = y0.promises.length ∧ z.Le M ∧ D6.loop2 x2 y0 g U O ar S ad = some a2 ∧ Ev 5 A5 M X S ∧ S.length = aq ∧ HEv 11 D0 M Y ad ∧ ad.length = y0.promises.length ∧ Rep a 98 [(0, pp ae), (2, vi x2), (9, pp L), (10, .map (some ap)), (13, .slice af aq ag), (61, vi ((y0.promises.length : Nat) : Int)), (62, vi ((ar : Nat) : Int))] ∧ St w M (B2 50 5 af ag aq X :: L0 P2.f (Value.int .i64) ap U :: pc L #[.slice E g.Trains.length F, .slice J g.Turns.length K, vi y0.net.least] 66 :: pc aG #[.slice am x1.Trains.length aj, .slice an x1.Turns.length ak] 25 :: pc ae #[.slice q y0.net.Day.Trains.length o, .slice u y0.net.Day.Turns.length p, vi y0.net.least, vi x2, .slice D y0.promises.length C, .slice B y0.messages.length A] 69 :: M5 78 11 D C y0.promises.length Y :: B2 50 5 B A y0.messages.length H :: R)) (m := y0.promises.length) ⟨y0.promises.length, 0, [], y0.promises, none, 0, 0, [], V, z, rfl, by omega, lr, Q, (Ev.nil), (rfl), I, (rfl), b.pk, c⟩ ?_
  clear b c a w Q; rintro cb a w ⟨O, ar, S, ad, af, ag, aq, X, Y, M, rfl, bV, aa, Q, ah, rfl, ai, au, b, c⟩
  refine W.gen fun cc aS => ?_
  obtain ⟨G, P, x, y⟩ := m4 aa G P x y
  obtain ⟨d, f, I, n⟩ := m4 aa d f I n
  rcases O with _ | O
  ·skip
   refine sg [.s,.p,.e,.q] c b fun a b => ?_
   refine W.condF b rfl (decide_eq_false (by omega)) ?_
   subst aS
   refine W.exit rfl ?_
   exact ⟨S, ad, af, ag, S.length, X, Y, M, aa, oi Q, ah, rfl, ai, au, b.pk, c⟩
  have bQ : ar < y0.promises.length := by omega
  rw [D6.loop2] at Q
  refine sg [.s,.p,.e,.q] c b fun a b => ?_
  refine W.condT b rfl (decide_eq_true (by omega)) ?_
  refine sg [.k,.q,.o,.s,.p,.p,.e,.s,.p,.n,.f 4,.b 4,.p] c b fun a b => ?_
  obtain ⟨cd, ba, bR, bb, Q⟩ := gxS Q
  have bc := (c.hotOpen 5 rfl).vecAok 0 rfl (by have := au; omega : (((ar : Nat) : Int)).toNat < y0.promises.length)
  refine vP c b (A6.idx b ((((ar : Nat) : Int)).toNat) rfl rfl b0n ba (by have := au; omega) bc) rfl fun a b => ?_
  refine sl [.f 0,.f 4] c b fun a b => ?_
  obtain ⟨ce, bW, bd⟩ := HEv.at ai bb
  obtain ⟨cf, cg, ch, ci, cj, bX, ck, cl, cm, bY, cn, co, cp, bZ, bA, bB, cq, cr, b0, cs, b1, ct, b2⟩ := bd
  subst bB
  refine vP c b (A6.load1 b rfl (fun w h => (St.hotSees h 5 rfl bA rfl).one (j := 4) rfl) ty3) rfl fun a b => ?_
  refine sl [.p,.e] c b fun a b => ?_
  obtain ⟨bC, Z, Q⟩ := B4 Q
  refine W.cut (fun a w => ∃ aA aF aK aL aM aD aE aB, M.Le aB ∧ (aA, aF) = bC ∧ Ev 5 A5 aB aD aA ∧ aA.length = aM ∧ HEv 11 D0 aB aE aF ∧ aF.length = y0.promises.length ∧ Rep a 98 [(0, pp ae), (2, vi x2), (9, pp L), (10, .map (some ap)), (13, .slice aK aM aL), (61, vi ((y0.promises.length : Nat) : Int)), (62, vi ((ar : Nat) : Int))] ∧ St w aB (B2 50 5 aK aL aM aD :: L0 P2.f (Value.int .i64) ap U :: pc L #[.slice E g.Trains.length F, .slice J g.Turns.length K, vi y0.net.least] 66 :: pc aG #[.slice am x1.Trains.length aj, .slice an x1.Turns.length ak] 25 :: pc ae #[.slice q y0.net.Day.Trains.length o, .slice u y0.net.Day.Turns.length p, vi y0.net.least, vi x2, .slice D y0.promises.length C, .slice B y0.messages.length A] 69 :: M5 78 11 D C y0.promises.length aE :: B2 50 5 B A y0.messages.length H :: R)) ?_ ?_
  ·refine W.gen fun cu aT => ?_
   refine W.cond b rfl (fun aN => ?_) (fun aN => ?_)
   ·replace Z := iteT aN Z
    obtain ⟨a3, be, Z⟩ := B4 Z
    refine sm [.r,.p,.p,.p,.B 2,.p,.p,.F 6,.F 6,.F 3,.F 6] c b fun a w b c => ?_
    refine fq b (a0W (x2 := (D7.mk g y0.net.least)) (y0 := (G3.mk y0.net x2 ad y0.messages)) c G P d f ai au n (rfl) be) ?_; rintro _ w ⟨cv, cw, bf, bD, rfl, ax, bE, bF, bg, c⟩; refine ⟨_, rfl, fun a b => ?_⟩
    obtain ⟨G, P, d, f⟩ := m4 ax G P d f
    obtain ⟨ai, n, ah, x⟩ := m4 ax ai n ah x
    replace y := m1 ax y
    obtain ⟨a4, bh, Z⟩ := B4 Z
    refine WL.appS b c 4 (A0 rfl) rfl rfl (xs := a3.1) rfl rfl a6K A5.one ah rfl bE bh rfl fun bG bH bi a w bI b c => ?_
    refine so [.p,.e,.F 3,.F 3,.F 2,.F 6,.F 6,.F 5,.F 6] c b fun a w b c => ?_
    subst aT
    exact ⟨a4, a3.2, bG, bH, a4.length, bi, bf, bD, ax, oi Z, bI, (rfl), bF, bg, b.pk, c⟩
   replace Z := iteF aN Z
   refine W.skip ?_
   subst aT
   exact ⟨S, ad, af, ag, S.length, X, Y, M, lr, oi Z, ah, rfl, ai, au, b.pk, c⟩
  clear b c a w; rintro a w ⟨aA, aF, aK, aL, aM, aD, aE, aB, ay, rfl, bJ, rfl, bK, bj, b, c⟩
  dsimp only at Q
  obtain ⟨ah, G, P, x⟩ := m4 ay ah G P x
  obtain ⟨y, d, f, ai⟩ := m4 ay y d f ai
  replace n := m1 ay n
  refine sg [.r,.i,.p,.e] c b fun a b => ?_
  subst aS
  exact ⟨O, b2p _, O, ar + 1, aA, aF, aK, aL, aA.length, aD, aE, aB, rfl, (by omega), (Sg.Le.trans aa ay), Q, bJ, rfl, bK, bj, b.pk, c⟩
 clear b c a w; rintro a w ⟨S, ad, af, ag, aq, X, Y, M, aa, rfl, ah, rfl, ai, au, b, c⟩
 dsimp only at T
 obtain ⟨G, P, x, y⟩ := m4 aa G P x y
 obtain ⟨d, f, I, n⟩ := m4 aa d f I n
 refine sg [.s,.p,.p,.n,.f 5,.b 4,.p] c b fun a b => ?_
 obtain ⟨bL, bl, T⟩ := B4 T
 refine WL.appO b c 6 0 (A0 rfl) rfl rfl rfl rfl a6K A5.one n (rfl) ah rfl bl rfl fun bM bN bm a w bO b c => ?_
 refine so [.n,.f 5,.S 4,.e,.s,.p,.B 2,.n,.f 0,.A 4,.e,.s,.p,.p,.p,.e] c b fun a w b c => ?_
 refine W.ret ?_
 refine fg [_, _] b ?_
 obtain rfl := oi T
 replace c := pm [.D 1,.D 1,.D 1] c
 exact ⟨af, ag, S.length, X, Y, E, F, J, K, bM, bN, bL.length, bm, M, rfl, (Sg.Le.trans aX aa), ah, rfl, ai, au, G, P, bO, (rfl), c⟩
set_option maxHeartbeats 8000000 in
theorem I1 {w : World} {x0 : B0} {f g : Option Addr} {i j : Nat} {x1 : A1} {x2 : Int} (c : St w s (R)) (m : Sl 4 A7 s f i x0.Trains) (_h0_1 : Sl 1 (RL 1 (RI .i64)) s g j x0.Turns) {r : B9} (d : G5 x0 x1 x2 = some r) :
  Calls b2n 40 [.agg (List.toArray [.slice f x0.Trains.length i, .slice g x0.Turns.length j]), .agg (A1.cells x1).toArray, vi x2].toArray w (fun e w => ∃ (l : List Value), e = .returned (.agg l.toArray) ∧ I9 s l r ∧ St w s (R)) := by
 refine enter Tryz.func40 rfl rfl rfl fun a b => ?_
 rw [G5] at d
 refine sg [.s] c b fun a b => ?_
 refine bw b c fun E a w b c => ?_
 refine bw b c fun F a w b c => ?_
 refine al b c a3O fun G a w b c => ?_
 obtain ⟨H, y, u, n, d⟩ := gxS d
 obtain ⟨z, A, o, k⟩ := m.at n
 obtain ⟨I, J, K, L, rfl, t, M⟩ := o
 refine sl [.e,.s,.f 0,.b 2,.f 0,.b 1,.x 72,.f 2] c b fun a b => ?_
 refine vP c b (A6.load1 b rfl (fun w h => (k w _ h).one rfl) a3P) rfl fun a b => ?_
 obtain ⟨N, B, v, p, d⟩ := gxS d
 obtain ⟨C, D, q, x⟩ := t.at p
 subst q
 refine so [.p,.x 75,.h,.A 0,.e] c b fun a w b c => ?_
 refine W.ret ?_
 refine a0b (fn := Tryz.f40) (rs := [.cell 6 75]) (vs := [_]) b rfl ⟨⟨_, rfl, .inl ⟨_, rfl, c.seesAt 0 rfl, b0k⟩⟩, trivial⟩ ?_
 obtain rfl := oi d
 replace c := pm [.D 0,.D 0,.D 0] c
 exact ⟨_, rfl, rfl, c⟩
set_option maxHeartbeats 8000000 in
theorem a0v {w : World} {d f g : Nat} {x0 : B1} {h i : Option Addr} {y0 : Int} (b : St w s (pc d #[vi y0] 3 :: R)) (_h0_0 : Sl 4 I9 s h f x0.Stops) (_h0_1 : Sl 1 (RL 1 (RI .i64)) s i g x0.Legs) {r : Bool} (j : N7 x0 y0 = r) :
  Calls b2n 100 [.agg (List.toArray [vi x0.No, vi x0.Stock, .slice h x0.Stops.length f, .slice i x0.Legs.length g]), pp d].toArray w (fun e w => e = .returned (.bool r) ∧ St w s (pc d #[vi y0] 3 :: R)) := by
 refine enter Tryz.func100 rfl rfl rfl fun a c => ?_
 rw [N7] at j
 refine sg [.s] b c fun a c => ?_
 refine bw c b fun k a w c b => ?_
 refine sl [.p,.e,.s,.f 0,.b 0,.b 1,.p,.p,.e] b c fun a c => ?_
 refine W.ret ?_
 refine fg [_] c ?_
 subst j
 replace b := b.tail
 exact ⟨rfl, b⟩
set_option maxHeartbeats 8000000 in
theorem T5 {w : World} {g p : Nat} {x0 : List B1} {q : Option Addr} {y0 r : Int} (f : St w s (pc g #[vi y0] 3 :: R)) (v : Sl 4 A7 s q p x0) (i : E3 x0 y0 = r) :
  Calls b2n 99 [.slice q x0.length p, .func (.func 100) #[] #[pp g]].toArray w (fun e w => e = .returned (vi r) ∧ St w s (pc g #[vi y0] 3 :: R)) := by
 refine enter Tryz.func99 rfl rfl rfl fun a b => ?_
 rw [E3] at i
 refine sg [.s,.p,.e,.q,.s,.p,.l 72 4,.p,.e] f b fun a b => ?_
 obtain ⟨o, d, i⟩ := R8 i
 refine W.cut (fun a w => (.next ()) = o ∧ Rep a 19 [] ∧ St w s (pc g #[vi y0] 3 :: R)) ?_ ?_
 ·refine W.block ?_
  refine W.loop (fun m a w => ∃ c j, c.length = m ∧ x0.drop j = c ∧ E3.loop1 y0 c j = o ∧ Rep a 19 [(0, .slice q x0.length p), (1, .func (.func 100) #[] #[pp g]), (7, vi ((x0).length : Int)), (8, vi ((j : Nat) : Int))] ∧ St w s (pc g #[vi y0] 3 :: R)) (m := x0.length) ⟨x0, 0, rfl, rfl, d, b.pk, f⟩ ?_
  clear b f a w d; rintro D a w ⟨c, j, rfl, h, d, b, f⟩
  refine W.gen fun E k => ?_
  rcases c with _ | ⟨x, c⟩
  ·have n := E8 h
   refine sg [.s,.p,.e,.q] f b fun a b => ?_
   refine W.condF b rfl (decide_eq_false (by omega)) ?_
   subst k
   refine W.exit rfl ?_
   exact ⟨d, b.pk, f⟩
  obtain ⟨n, t, h⟩ := C3 h
  rw [E3.loop1] at d
  refine sg [.s,.p,.e,.q] f b fun a b => ?_
  refine W.condT b rfl (decide_eq_true (by omega)) ?_
  obtain ⟨B, C, u, A⟩ := v.at t
  obtain ⟨F, G, H, I, rfl, y, z⟩ := u
  refine sg [.k,.q,.o,.s,.p,.p,.e,.s,.p,.p,.p,.x 72,.h] f b fun a b => ?_
  refine WL.fnw b (a0v f y z rfl (r := N7 x y0)) rfl (A0 rfl) b0A rfl rfl rfl ?_
  clear b f; rintro e w ⟨rfl, f⟩; refine ⟨_, rfl, ?_⟩; clear a; intro a b
  refine WL.nil ?_
  refine W.cond b rfl (fun l => ?_) (fun l => ?_)
  ·replace d := iteT l d
   refine sg [.s,.p,.p,.e] f b fun a b => ?_
   refine W.ret ?_
   subst k
   rw [← d] at i
   dsimp only at i
   refine fg [_] b ?_
   subst i
   exact ⟨rfl, f⟩
  replace d := iteF l d
  have := v.small
  refine sg [.k,.r,.i,.p,.e] f b fun a b => ?_
  subst k
  exact ⟨c.length, b2p _, c, j + 1, rfl, h, d, b.pk, f⟩
 clear b f a w; rintro a w ⟨rfl, b, f⟩
 dsimp only at i
 refine sg [.s,.p,.e] f b fun a b => ?_
 refine W.ret ?_
 refine fg [_] b ?_
 subst i
 exact ⟨rfl, f⟩
set_option maxHeartbeats 8000000 in
theorem a0g {w : World} {x0 : B0} {d f : Option Addr} {g h : Nat} {x1 r : Int} (c : St w s (R)) (i : Sl 4 A7 s d g x0.Trains) (_h0_1 : Sl 1 (RL 1 (RI .i64)) s f h x0.Turns) (j : I0 x0 x1 = r) :
  Calls b2n 89 [.agg (List.toArray [.slice d x0.Trains.length g, .slice f x0.Turns.length h]), vi x1].toArray w (fun e w => e = .returned (vi r) ∧ St w s (R)) := by
 refine enter Tryz.func89 rfl rfl rfl fun a b => ?_
 rw [I0] at j
 refine sg [.s] c b fun a b => ?_
 refine bw b c fun l a w b c => ?_
 refine bw b c fun k a w b c => ?_
 refine sl [.p,.e,.s,.f 0,.b 1] c b fun a b => ?_
 refine vP c b (A6.mkfn b (vs := [pp k]) rfl) rfl fun a b => ?_
 refine fq b (T5 c i rfl (r := E3 x0.Trains x1)) ?_; rintro _ w ⟨rfl, c⟩; refine ⟨_, rfl, fun a b => ?_⟩
 refine sl [.p,.e] c b fun a b => ?_
 refine W.ret ?_
 refine fg [_] b ?_
 subst j
 replace c := pm [.D 0,.D 0] c
 exact ⟨rfl, c⟩
set_option maxHeartbeats 8000000 in
theorem Y8 {fu u v x y : Nat}  {w : World} {x0 : B0} {z A B C : Option Addr} {x1 : B0} {x2 : A1} (c : St w s (R)) (M : Sl 4 A7 s z u x0.Trains) (U : Sl 1 (RL 1 (RI .i64)) s A v x0.Turns) (V : Sl 4 A7 s B x x1.Trains) (aq : Sl 1 (RL 1 (RI .i64)) s C y x1.Turns) {r : A1 × Bool} (i : G0 fu x0 x1 x2 = some r) :
  Calls b2n 68 [.agg (List.toArray [.slice z x0.Trains.length u, .slice A x0.Turns.length v]), .agg (List.toArray [.slice B x1.Trains.length x, .slice C x1.Turns.length y]), .agg (A1.cells x2).toArray].toArray w (fun e w => ∃ (ai : List Value), e = .returned (.tuple #[.agg ai.toArray, .bool r.2]) ∧ A8 s ai r.1 ∧ St w s (R)) := by
 refine enter Tryz.func68 rfl rfl rfl fun a b => ?_
 rw [G0] at i
 refine sg [.s] c b fun a b => ?_
 refine bw b c fun O a w b c => ?_
 refine bw b c fun P a w b c => ?_
 refine bw b c fun Q a w b c => ?_
 refine al b c a0Z fun D a w b c => ?_
 refine sl [.p,.e,.q] c b fun a b => ?_
 refine rQ c mixed ?_
 obtain ⟨F, aM, aE, ar, i⟩ := gxS i
 obtain ⟨aN, aO, au, aa⟩ := M.at ar
 obtain ⟨aZ, a0, a1, a2, rfl, a3, a4⟩ := au
 refine sq [.B 2,.f 0,.b 3,.f 0,.b 1,.x 72,.f 0] b fun a b => ?_
 refine qP b (A6.load1 b rfl (fun w h => (aa w _ h).one rfl) ty3) rfl fun a b => ?_
 refine QL.fnq b (fun w c => a0g c V aq rfl (r := I0 x1 F.No)) (A0 rfl) b1p rfl rfl rfl fun a b => ?_
 refine sq [.p] b fun a b => ?_
 refine QL.nil ?_; clear c w; intro w c
 refine sg [.q,.s,.p,.p,.e] c b fun a b => ?_
 refine W.cond b rfl (fun N => ?_) (fun N => ?_)
 ·replace i := iteT N i
  refine sg [.s] c b fun a b => ?_
  refine vP c b (A6.build b (vs := []) [vi 0, vi 0, vi 0] rfl (by kernel_rfl)) rfl fun a b => ?_
  refine so [.A 0,.p,.e] c b fun a w b c => ?_
  refine W.ret ?_
  refine a0b (fn := Tryz.f68) (rs := [.cell 6 88, .tmp 7]) (vs := [_, _]) b rfl ⟨⟨_, rfl, .inl ⟨_, rfl, c.seesAt 0 rfl, a4Z⟩⟩, rfl, trivial⟩ ?_
  obtain rfl := oi i
  replace c := pm [.D 0,.D 0,.D 0,.D 0] c
  exact ⟨_, rfl, rfl, c⟩
 replace i := iteF N i
 refine sg [.k,.q] c b fun a b => ?_
 refine W.gen fun a5 av => ?_
 refine rE c [] [] [0, 1, 2, 3, 4, 5, 6, 7, 8, 9, 10, 11, 12, 13] [0, 1, 2, 3, 4, 5, 6, 7, 8, 9, 10, 11, 12, 13] mixed ?_
 replace c := c.drew
 refine sr [.T 0 true (.B 3),.T 1 true (.B 1),.P 2 (.f 1),.T 3 true (.b 1),.T 6 true (.B 3),.T 7 true (.B 1),.P 8 (.f 2),.T 9 true (.b 1)] b c c fun a b => ?_
 refine ro 4 true true ?_
 obtain ⟨aj, aw, i⟩ := B4 i
 refine fq b (I1 c M U aw) ?_; rintro _ w ⟨aP, rfl, aA, c⟩; refine ⟨_, rfl, fun a b => ?_⟩
 subst aA
 refine WL.nil ?_
 refine r3 c ?_
 refine sr [.P 5 (.v 0 3)] b c c fun a b => ?_
 refine ro 10 true true ?_
 obtain ⟨S, ax, i⟩ := B4 i
 refine fq b (I1 c M U ax) ?_; rintro _ w ⟨aQ, rfl, aB, c⟩; refine ⟨_, rfl, fun a b => ?_⟩
 subst aB
 refine WL.nil ?_
 refine r3 c ?_
 refine sr [.P 11 (.v 0 3),.P 12 .p,.P 13 .p] b c c fun a b => ?_
 refine Rg.done (by kernel_rfl) ?_
 subst av
 obtain ⟨T, aR, aF, ay, i⟩ := gxS i
 obtain ⟨aS, aT, az, ad⟩ := V.at ay
 obtain ⟨ak, am, a6, a7, rfl, an, a8⟩ := az
 refine sg [.s,.f 0,.b 2,.p,.x 72,.f 2] c b fun a b => ?_
 refine vP c b (A6.load1 b rfl (fun w h => (ad w _ h).one rfl) a3P) rfl fun a b => ?_
 refine sl [.p,.e,.q,.s,.p,.e] c b fun a b => ?_
 obtain ⟨ap, d, i⟩ := B4 i
 refine W.cut (fun a w => ∃ g j k l, (.next (g, j, k, l)) = ap ∧ Rep a 79 [(6, pp D)] ∧ St w s (pc D #[vi j, vi k, vi l] 88 :: pc Q (A1.cells x2).toArray 88 :: pc P #[.slice B x1.Trains.length x, .slice C x1.Turns.length y] 25 :: pc O #[.slice z x0.Trains.length u, .slice A x0.Turns.length v] 25 :: R)) ?_ ?_
 ·refine W.block ?_
  refine W.loop (fun m a w => ∃ G g j k l, G = m ∧ G0.loop1 x1 fu F aj S T G g j k l = some ap ∧ Rep a 79 [(6, pp D), (8, vi (I0 x1 F.No)), (9, vi aj.Station), (10, vi S.Station), (11, .slice ak T.Stops.length am), (12, vi g)] ∧ St w s (pc D #[vi j, vi k, vi l] 88 :: pc Q (A1.cells x2).toArray 88 :: pc P #[.slice B x1.Trains.length x, .slice C x1.Turns.length y] 25 :: pc O #[.slice z x0.Trains.length u, .slice A x0.Turns.length v] 25 :: R)) (m := fu) ⟨fu, 0, 0, 0, 0, rfl, d, b.pk, c⟩ ?_
  clear b c a w d; rintro a9 a w ⟨G, g, j, k, l, rfl, d, b, c⟩
  refine W.gen fun aU E => ?_
  rcases G with _ | G
  ·rw [G0.loop1] at d; exact absurd d (by simp)
  rw [G0.loop1] at d
  refine sg [.q,.s,.p,.p,.l 75 4,.p,.p,.e] c b fun a b => ?_
  refine W.cond b rfl (fun H => ?_) (fun H => ?_)
  ·replace d := iteT H d
   obtain ⟨aV, aG, aC, ae, d⟩ := gxS d
   obtain ⟨aH, aI, af, X⟩ := an.at ae
   subst af
   refine sg [.k,.q,.o,.q,.s,.p,.p,.x 75,.f 0] c b fun a b => ?_
   refine vP c b (A6.load1 b rfl (fun w h => (X w _ h).one rfl) ty3) rfl fun a b => ?_
   refine sl [.p,.p,.e] c b fun a b => ?_
   refine W.cond b rfl (fun I => ?_) (fun I => ?_)
   ·replace d := iteT I d
    refine W.exit rfl ?_
    refine sg [.r,.p,.p,.p,.e] c b fun a b => ?_
    subst E
    exact ⟨G, b2p _, G, (w64 (g + 1)), j, k, l, rfl, d, b.pk, c⟩
   replace d := iteF I d
   refine sg [.k,.q,.s,.p,.p,.p,.e] c b fun a b => ?_
   obtain ⟨Y, f, d⟩ := B4 d
   refine W.cut (fun a w => ∃ n o p q, (.next (n, o, p, q)) = Y ∧ Rep a 79 [(6, pp D)] ∧ St w s (pc D #[vi o, vi p, vi q] 88 :: pc Q (A1.cells x2).toArray 88 :: pc P #[.slice B x1.Trains.length x, .slice C x1.Turns.length y] 25 :: pc O #[.slice z x0.Trains.length u, .slice A x0.Turns.length v] 25 :: R)) ?_ ?_
   ·refine W.block ?_
    refine W.loop (fun m a w => ∃ t n o p q, t = m ∧ G0.loop2 x1 F S T g t n o p q = some Y ∧ Rep a 79 [(6, pp D), (8, vi (I0 x1 F.No)), (10, vi S.Station), (11, .slice ak T.Stops.length am), (12, vi g), (13, vi n)] ∧ St w s (pc D #[vi o, vi p, vi q] 88 :: pc Q (A1.cells x2).toArray 88 :: pc P #[.slice B x1.Trains.length x, .slice C x1.Turns.length y] 25 :: pc O #[.slice z x0.Trains.length u, .slice A x0.Turns.length v] 25 :: R)) (m := fu) ⟨fu, (w64 (g + 1)), j, k, l, rfl, f, b.pk, c⟩ ?_
    clear b c a w f; rintro aW a w ⟨t, n, o, p, q, rfl, f, b, c⟩
    refine W.gen fun aX J => ?_
    rcases t with _ | t
    ·rw [G0.loop2] at f; exact absurd f (by simp)
    rw [G0.loop2] at f
    refine sg [.q,.s,.p,.p,.l 75 4,.p,.e] c b fun a b => ?_
    refine W.cond b rfl (fun K => ?_) (fun K => ?_)
    ·replace f := iteT K f
     obtain ⟨aY, aJ, aD, ag, f⟩ := gxS f
     obtain ⟨aK, aL, ah, Z⟩ := an.at ag
     subst ah
     refine sg [.k,.q,.o,.s,.p,.p,.x 75,.f 0] c b fun a b => ?_
     refine vP c b (A6.load1 b rfl (fun w h => (Z w _ h).one rfl) ty3) rfl fun a b => ?_
     refine sl [.p,.p,.e] c b fun a b => ?_
     refine W.cond b rfl (fun L => ?_) (fun L => ?_)
     ·replace f := iteT L f
      refine sg [.s,.p,.p,.p] c b fun a b => ?_
      refine vP c b (A6.build b (vs := [(0, vi (I0 x1 F.No)), (1, vi g), (2, vi n)]) [vi (I0 x1 F.No), vi g, vi n] rfl (by kernel_rfl)) rfl fun a b => ?_
      refine so [.A 0,.p,.e] c b fun a w b c => ?_
      refine W.ret ?_
      subst J
      subst E
      rw [← oi f] at d
      dsimp only at d
      rw [← oi d] at i
      dsimp only at i
      refine a0b (fn := Tryz.f68) (rs := [.cell 6 88, .tmp 7]) (vs := [_, _]) b rfl ⟨⟨_, rfl, .inl ⟨_, rfl, c.seesAt 0 rfl, a4Z⟩⟩, rfl, trivial⟩ ?_
      obtain rfl := oi i
      replace c := pm [.D 0,.D 0,.D 0,.D 0] c
      exact ⟨_, rfl, rfl, c⟩
     replace f := iteF L f
     refine sg [.k,.r,.p,.p,.p,.e] c b fun a b => ?_
     subst J
     exact ⟨t, b2p _, t, (w64 (n + 1)), o, p, q, rfl, f, b.pk, c⟩
    replace f := iteF K f
    subst J
    refine W.exit rfl ?_
    exact ⟨n, o, p, q, oi f, b.pk, c⟩
   clear b c a w; rintro a w ⟨n, o, p, q, rfl, b, c⟩
   dsimp only at d
   refine sg [.s] c b fun a b => ?_
   refine vP c b (A6.build b (vs := []) [vi 0, vi 0, vi 0] rfl (by kernel_rfl)) rfl fun a b => ?_
   refine so [.A 0,.p,.e] c b fun a w b c => ?_
   refine W.ret ?_
   subst E
   rw [← oi d] at i
   dsimp only at i
   refine a0b (fn := Tryz.f68) (rs := [.cell 6 88, .tmp 7]) (vs := [_, _]) b rfl ⟨⟨_, rfl, .inl ⟨_, rfl, c.seesAt 0 rfl, a4Z⟩⟩, rfl, trivial⟩ ?_
   obtain rfl := oi i
   replace c := pm [.D 0,.D 0,.D 0,.D 0] c
   exact ⟨_, rfl, rfl, c⟩
  replace d := iteF H d
  subst E
  refine W.exit rfl ?_
  exact ⟨g, j, k, l, oi d, b.pk, c⟩
 clear b c a w; rintro a w ⟨g, j, k, l, rfl, b, c⟩
 dsimp only at i
 refine sg [.s] c b fun a b => ?_
 refine vP c b (A6.build b (vs := []) [vi 0, vi 0, vi 0] rfl (by kernel_rfl)) rfl fun a b => ?_
 refine so [.A 0,.p,.e] c b fun a w b c => ?_
 refine W.ret ?_
 refine a0b (fn := Tryz.f68) (rs := [.cell 6 88, .tmp 7]) (vs := [_, _]) b rfl ⟨⟨_, rfl, .inl ⟨_, rfl, c.seesAt 0 rfl, a4Z⟩⟩, rfl, trivial⟩ ?_
 obtain rfl := oi i
 replace c := pm [.D 0,.D 0,.D 0,.D 0] c
 exact ⟨_, rfl, rfl, c⟩
set_option maxHeartbeats 8000000 in
theorem Z4 {w : World} {S P T U c4 y z k ae f l af n ag o ah : Nat} {x2 : B0} {V X a4 A B p g q t u : Option Addr} {x3 N O : Int} {x4 : List Bool} {E : List B1} {F : List (List Int)} {K : Value} {v : List A4} {G H I J : List Value} {y1 : C4} (c : St w s (pc S #[.slice A E.length y, .slice B F.length z, vi N, vi O, K, .slice p ae k] 39 :: pc P #[vi y1.Promise.From, vi y1.Promise.To, vi y1.Promise.Dep, vi y1.Promise.Arr, vi y1.Promise.State, .slice g y1.Promise.Journey.Rides.length f, .slice q af l, .slice t ag n, .slice u ah o, vi y1.place, vi y1.when] 82 :: B2 50 5 p k ae G :: B2 4 1 q l af H :: B2 3 1 t n ag I :: B2 3 1 u o ah J :: R)) (aF : Sl 4 A7 s V T x2.Trains) (a8 : Sl 1 (RL 1 (RI .i64)) s X U x2.Turns) (h4 : Sl 1 RB s a4 c4 x4) (au : Sl 4 A7 s A y E) (aG : Sl 1 (RL 1 (RI .i64)) s B z F) (bA : Ev 5 A5 s G v) (aQ : v.length = ae) (av : Sl 3 A8 s g f y1.Promise.Journey.Rides) (a9 : Ev 1 RB s H y1.over) (aR : y1.over.length = af) (bB : Ev 1 (RI .i64) s I y1.came) (aS : y1.came.length = ag) (a_ : Ev 1 (RI .i64) s J y1.offs) (aT : y1.offs.length = ah) {r : Int × Int} (hr : C8 x2 x3 x4 E F N O v y1 = some r) :
  Calls b2n 69 [pp S, pp P, .agg (List.toArray [.slice V x2.Trains.length T, .slice X x2.Turns.length U]), vi x3, .slice a4 x4.length c4].toArray w (fun e w => e = .returned (.tuple #[]) ∧ St w s (pc S #[.slice A E.length y, .slice B F.length z, vi N, vi O, K, .slice p ae k] 39 :: pc P #[vi y1.Promise.From, vi y1.Promise.To, vi y1.Promise.Dep, vi y1.Promise.Arr, vi y1.Promise.State, .slice g y1.Promise.Journey.Rides.length f, .slice q af l, .slice t ag n, .slice u ah o, vi r.1, vi r.2] 82 :: B2 50 5 p k ae G :: B2 4 1 q l af H :: B2 3 1 t n ag I :: B2 3 1 u o ah J :: R)) := by
 refine enter Tryz.func69 rfl rfl rfl fun a b => ?_
 rw [C8] at hr
 subst aQ
 subst aR
 subst aS
 subst aT
 refine sg [.s] c b fun a b => ?_
 refine bw b c fun aa a w b c => ?_
 refine so [.e,.s,.p,.p,.p,.n,.f 0,.f 0,.b 2,.p,.n,.f 9,.S 2,.n,.f 10,.S 2,.e,.s,.p,.n,.f 0,.f 5,.f 0,.b 2,.l 88 3,.p,.e] c b fun a w b c => ?_
 obtain ⟨a7, d, hr⟩ := B4 hr
 refine W.cut (fun a w => ∃ Z Q, (.next (Z, Q)) = a7 ∧ Rep a 115 [] ∧ St w s (pc aa #[.slice V x2.Trains.length T, .slice X x2.Turns.length U] 25 :: pc S #[.slice A E.length y, .slice B F.length z, vi N, vi O, K, .slice p v.length k] 39 :: pc P #[vi y1.Promise.From, vi y1.Promise.To, vi y1.Promise.Dep, vi y1.Promise.Arr, vi y1.Promise.State, .slice g y1.Promise.Journey.Rides.length f, .slice q y1.over.length l, .slice t y1.came.length n, .slice u y1.offs.length o, vi Z, vi Q] 82 :: B2 50 5 p k v.length G :: B2 4 1 q l y1.over.length H :: B2 3 1 t n y1.came.length I :: B2 3 1 u o y1.offs.length J :: R)) ?_ ?_
 ·refine W.block ?_
  refine W.loop (fun m a w => ∃ D ai Z Q, D.length = m ∧ y1.Promise.Journey.Rides.drop ai = D ∧ C8.loop1 x2 x3 x4 E F y1 D ai Z Q = some a7 ∧ Rep a 115 [(0, pp S), (1, pp P), (3, vi x3), (4, .slice a4 x4.length c4), (7, pp aa), (32, .slice g y1.Promise.Journey.Rides.length f), (33, vi ((y1.Promise.Journey.Rides).length : Int)), (34, vi ((ai : Nat) : Int))] ∧ St w s (pc aa #[.slice V x2.Trains.length T, .slice X x2.Turns.length U] 25 :: pc S #[.slice A E.length y, .slice B F.length z, vi N, vi O, K, .slice p v.length k] 39 :: pc P #[vi y1.Promise.From, vi y1.Promise.To, vi y1.Promise.Dep, vi y1.Promise.Arr, vi y1.Promise.State, .slice g y1.Promise.Journey.Rides.length f, .slice q y1.over.length l, .slice t y1.came.length n, .slice u y1.offs.length o, vi Z, vi Q] 82 :: B2 50 5 p k v.length G :: B2 4 1 q l y1.over.length H :: B2 3 1 t n y1.came.length I :: B2 3 1 u o y1.offs.length J :: R)) (m := y1.Promise.Journey.Rides.length) ⟨y1.Promise.Journey.Rides, 0, y1.Promise.From, x3, rfl, rfl, d, b.pk, c⟩ ?_
  clear b c a w d; rintro cl a w ⟨D, ai, Z, Q, rfl, ak, d, b, c⟩
  refine W.gen fun cm ax => ?_
  rcases D with _ | ⟨aB, D⟩
  ·have aU := E8 ak
   refine sg [.s,.p,.e,.q] c b fun a b => ?_
   refine W.condF b rfl (decide_eq_false (by omega)) ?_
   subst ax
   refine W.exit rfl ?_
   exact ⟨Z, Q, oi d, b.pk, c⟩
  obtain ⟨aU, ba, ak⟩ := C3 ak
  rw [C8.loop1] at d
  refine sg [.s,.p,.e,.q] c b fun a b => ?_
  refine W.condT b rfl (decide_eq_true (by omega)) ?_
  obtain ⟨bR, bS, bb, bC⟩ := av.at ba
  subst bb
  refine sg [.k,.q,.o,.s,.p,.x 88,.h] c b fun a b => ?_
  refine al b c a0Z fun aw a w b c => ?_
  obtain ⟨cn, bT, bD, bc, d⟩ := gxS d
  obtain ⟨bU, bV, bd, bW, bo⟩ := a9.at bc
  subst bd
  refine so [.p,.A 0,.e,.q,.s,.p,.n,.f 6,.b 3,.p,.y 5,.g 5,.e] c b fun a w b c => ?_
  obtain ⟨bp, Y, d⟩ := B4 d
  refine W.cut (fun a w => ∃ aC, aC = bp ∧ Rep a 115 [(0, pp S), (1, pp P), (3, vi x3), (4, .slice a4 x4.length c4), (7, pp aa), (10, vi ((ai : Nat) : Int)), (11, pp aw), (32, .slice g y1.Promise.Journey.Rides.length f), (33, vi ((y1.Promise.Journey.Rides).length : Int)), (34, vi ((ai : Nat) : Int))] ∧ St w s (pc aw (A1.cells aB).toArray 88 :: pc aa #[.slice V x2.Trains.length T, .slice X x2.Turns.length U] 25 :: pc S #[.slice A E.length y, .slice B F.length z, vi N, vi O, K, .slice p v.length k] 39 :: pc P #[vi y1.Promise.From, vi y1.Promise.To, vi y1.Promise.Dep, vi y1.Promise.Arr, vi y1.Promise.State, .slice g y1.Promise.Journey.Rides.length f, .slice q y1.over.length l, .slice t y1.came.length n, .slice u y1.offs.length o, vi aC, vi Q] 82 :: B2 50 5 p k v.length G :: B2 4 1 q l y1.over.length H :: B2 3 1 t n y1.came.length I :: B2 3 1 u o y1.offs.length J :: R)) ?_ ?_
  ·refine W.gen fun co aH => ?_
   refine W.cond b rfl (fun ay => ?_) (fun ay => ?_)
   ·replace Y := iteT ay Y
    obtain ⟨bq, bX, bE, be, Y⟩ := gxS Y
    obtain ⟨bY, bZ, bf, b0, br⟩ := a_.at be
    subst bf
    refine sm [.r,.p,.p,.n,.f 8,.b 3,.p,.y 7,.g 7,.n,.f 9,.S 3,.e] c b fun a w b c => ?_
    subst aH
    exact ⟨bq, oi Y, b.pk, c⟩
   replace Y := iteF ay Y
   refine W.skip ?_
   subst aH
   exact ⟨Z, oi Y, b.pk, c⟩
  clear b c a w; rintro a w ⟨aC, rfl, b, c⟩
  obtain ⟨b1, bF, bs, aV, d⟩ := gxS d
  obtain ⟨bG, bH, aW, bt⟩ := h4.at aV
  subst aW
  refine sg [.q,.s,.p,.p,.x 4,.H,.p,.e] c b fun a b => ?_
  refine W.cond b rfl (fun am => ?_) (fun am => ?_)
  ·replace d := iteT am d
   refine W.exit rfl ?_
   have := av.small
   refine sm [.r,.i,.p,.e,.D 0] c b fun a w b c => ?_
   subst ax
   exact ⟨D.length, b2p _, D, ai + 1, aC, Q, rfl, ak, d, b.pk, c⟩
  replace d := iteF am d
  refine sg [.k,.q] c b fun a b => ?_
  refine W.gen fun b2 aX => ?_
  refine rE c [] [3] [0, 1, 2, 3, 4, 5, 6, 7, 8, 9, 10, 11] [0, 1, 2, 3, 4, 5, 6, 7, 8, 9, 10, 11, 12] mixed ?_
  replace c := c.drew
  refine sr [.P 0 .p,.P 1 .p,.T 2 true .n,.P 3 (.f 0),.T 4 true (.C 2 0 2),.T 5 true (.B 0),.P 6 (.f 1),.T 7 true (.b 0)] b c (c.dropAt 3) fun a b => ?_
  refine ro 8 true true ?_
  obtain ⟨aI, aY, d⟩ := B4 d
  refine fq b (I1 (x0 := (B0.mk E F)) c au aG aY) ?_; rintro _ w ⟨bI, rfl, bg, c⟩; refine ⟨_, rfl, fun a b => ?_⟩
  subst bg
  refine WL.nil ?_
  refine r2 c (c.dropAt 3) ?_
  refine sr [.P 9 (.v 0 3),.T 10 false .n,.P 11 (.f 9)] b c (c.dropAt 3) fun a b => ?_
  refine ro 12 false true ?_
  refine so [.S 3,.e] c b fun a w b c => ?_
  refine rf (c.dropAt 3) ?_
  refine Rg.done (by kernel_rfl) ?_
  subst aX
  refine sg [.q,.q] c b fun a b => ?_
  refine rQ c mixed ?_
  obtain ⟨bh, bJ, bu, aZ, d⟩ := gxS d
  obtain ⟨bK, bL, a0, aJ⟩ := au.at aZ
  obtain ⟨b3, b4, b5, b6, rfl, b7, b8⟩ := a0
  refine sq [.B 1,.p,.n,.f 0,.f 0,.b 2,.f 0,.b 0,.x 72,.f 0] b fun a b => ?_
  refine qP b (A6.load1 b rfl (fun w h => (aJ w _ h).one rfl) ty3) rfl fun a b => ?_
  refine QL.fnq b (fun w c => a0g c aF a8 rfl (r := I0 x2 bh.No)) (A0 rfl) b1p rfl rfl rfl fun a b => ?_
  refine sq [.p] b fun a b => ?_
  refine QL.nil ?_; clear c w; intro w c
  refine sg [.s,.p,.p,.e] c b fun a b => ?_
  obtain ⟨bi, j, d⟩ := B4 d
  refine W.cut (fun a w => ∃ az aA, (az, aA) = bi ∧ Rep a 115 [] ∧ St w s (pc aw (A1.cells aB).toArray 88 :: pc aa #[.slice V x2.Trains.length T, .slice X x2.Turns.length U] 25 :: pc S #[.slice A E.length y, .slice B F.length z, vi N, vi O, K, .slice p v.length k] 39 :: pc P #[vi y1.Promise.From, vi y1.Promise.To, vi y1.Promise.Dep, vi y1.Promise.Arr, vi y1.Promise.State, .slice g y1.Promise.Journey.Rides.length f, .slice q y1.over.length l, .slice t y1.came.length n, .slice u y1.offs.length o, vi az, vi aA] 82 :: B2 50 5 p k v.length G :: B2 4 1 q l y1.over.length H :: B2 3 1 t n y1.came.length I :: B2 3 1 u o y1.offs.length J :: R)) ?_ ?_
  ·refine W.gen fun b9 aD => ?_
   refine W.cond b rfl (fun an => ?_) (fun an => ?_)
   ·replace j := iteT an j
    obtain ⟨b_, bM, bv, a1, j⟩ := gxS j
    obtain ⟨bN, bO, a2, aK⟩ := aF.at a1
    obtain ⟨ca, cb, cc, cd, rfl, bj, ce⟩ := a2
    refine sg [.s,.f 0,.b 1,.p,.x 72,.f 2] c b fun a b => ?_
    refine vP c b (A6.load1 b rfl (fun w h => (aK w _ h).one rfl) a3P) rfl fun a b => ?_
    obtain ⟨aj, aE, j⟩ := B4 j
    obtain ⟨bl, bm, aL, aM⟩ := bj.cut aE
    obtain ⟨bn, cf, cg, _⟩ := Q9 aE
    refine vP c b (A6.slL b a9K rfl rfl bn (by omega) (by simpa using aL)) rfl fun a b => ?_
    refine sl [.l 75 4,.p,.e] c b fun a b => ?_
    obtain ⟨aN, C, j⟩ := R8 j
    refine W.cut (fun a w => ∃ L M, (L, M) = aN ∧ Rep a 115 [] ∧ St w s (pc aw (A1.cells aB).toArray 88 :: pc aa #[.slice V x2.Trains.length T, .slice X x2.Turns.length U] 25 :: pc S #[.slice A E.length y, .slice B F.length z, vi N, vi O, K, .slice p v.length k] 39 :: pc P #[vi y1.Promise.From, vi y1.Promise.To, vi y1.Promise.Dep, vi y1.Promise.Arr, vi y1.Promise.State, .slice g y1.Promise.Journey.Rides.length f, .slice q y1.over.length l, .slice t y1.came.length n, .slice u y1.offs.length o, vi L, vi M] 82 :: B2 50 5 p k v.length G :: B2 4 1 q l y1.over.length H :: B2 3 1 t n y1.came.length I :: B2 3 1 u o y1.offs.length J :: R)) ?_ ?_
    ·refine W.block ?_
     refine W.loop (fun m a w => ∃ x ap L M, x.length = m ∧ aj.drop ap = x ∧ C8.loop2 x3 x L M = aN ∧ Rep a 115 [(1, pp P), (3, vi x3), (93, .slice bl aj.length bm), (94, vi ((aj).length : Int)), (95, vi ((ap : Nat) : Int))] ∧ St w s (pc aw (A1.cells aB).toArray 88 :: pc aa #[.slice V x2.Trains.length T, .slice X x2.Turns.length U] 25 :: pc S #[.slice A E.length y, .slice B F.length z, vi N, vi O, K, .slice p v.length k] 39 :: pc P #[vi y1.Promise.From, vi y1.Promise.To, vi y1.Promise.Dep, vi y1.Promise.Arr, vi y1.Promise.State, .slice g y1.Promise.Journey.Rides.length f, .slice q y1.over.length l, .slice t y1.came.length n, .slice u y1.offs.length o, vi L, vi M] 82 :: B2 50 5 p k v.length G :: B2 4 1 q l y1.over.length H :: B2 3 1 t n y1.came.length I :: B2 3 1 u o y1.offs.length J :: R)) (m := aj.length) ⟨aj, 0, aI.Station, Q, rfl, rfl, C, b.pk, c⟩ ?_
     clear b c a w C; rintro ch a w ⟨x, ap, L, M, rfl, ad, C, b, c⟩
     refine W.gen fun ci aq => ?_
     rcases x with _ | ⟨aO, x⟩
     ·have aP := E8 ad
      refine sg [.s,.p,.e,.q] c b fun a b => ?_
      refine W.condF b rfl (decide_eq_false (by omega)) ?_
      subst aq
      refine W.exit rfl ?_
      exact ⟨L, M, C, b.pk, c⟩
     obtain ⟨aP, a3, ad⟩ := C3 ad
     rw [C8.loop2] at C
     refine sg [.s,.p,.e,.q] c b fun a b => ?_
     refine W.condT b rfl (decide_eq_true (by omega)) ?_
     obtain ⟨bP, bQ, a5, bz⟩ := aM.at a3
     subst a5
     refine sg [.k,.q,.o,.s,.x 75,.h] c b fun a b => ?_
     refine al b c a3O fun cj a w b c => ?_
     refine so [.A 0,.e,.s,.f 2,.b 0,.p,.p,.e] c b fun a w b c => ?_
     refine W.cond b rfl (fun ar => ?_) (fun ar => ?_)
     ·replace C := iteT ar C
      refine W.seq ?_
      refine W.gen fun ck a6 => ?_
      refine rE c [] [4] [0, 1, 2, 3, 4, 5, 6, 7, 9, 10] [0, 1, 2, 3, 4, 5, 6, 7, 8, 9, 10, 11] mixed ?_
      replace c := c.drew
      refine sr [.P 0 .p,.P 1 .p,.P 2 (.f 0),.T 3 true (.b 0),.P 4 (.f 2),.T 5 false (.b 0),.T 6 false .n,.P 7 (.f 9)] b c (c.dropAt 4) fun a b => ?_
      refine ro 8 false true ?_
      refine so [.S 4,.e] c b fun a w b c => ?_
      refine rf (c.dropAt 4) ?_
      refine Rg.take (i := 9) false rfl b rfl (by kernel_rfl) (A0 rfl) (A6.nilOk b rfl) rfl (G2 (fun h => absurd h (by decide)) (fun _ => (c.dropAt 4))) fun a b => ?_
      refine Rg.takeP (i := 10) b rfl (by kernel_rfl) (A0 rfl) (A6.fld b rfl a9P) rfl (G2 (fun h => absurd h (by decide)) (fun _ => (c.dropAt 4))) fun a b => ?_
      refine ro 11 false true ?_
      refine so [.S 4,.e] c b fun a w b c => ?_
      refine rf (c.dropAt 4) ?_
      refine Rg.done (by kernel_rfl) ?_
      subst a6
      subst aq
      refine W.exit rfl ?_
      replace c := c.tail
      exact ⟨aO.Station, aO.Arr, C, b.pk, c⟩
     replace C := iteF ar C
     have := aM.small
     refine sm [.k,.r,.i,.p,.e,.D 0] c b fun a w b c => ?_
     subst aq
     exact ⟨x.length, b2p _, x, ap + 1, L, M, rfl, ad, C, b.pk, c⟩
    clear b c a w; rintro a w ⟨L, M, rfl, b, c⟩
    dsimp only at j
    subst aD
    exact ⟨L, M, oi j, b.pk, c⟩
   replace j := iteF an j
   refine W.skip ?_
   subst aD
   exact ⟨aI.Station, Q, oi j, b.pk, c⟩
  clear b c a w; rintro a w ⟨az, aA, rfl, b, c⟩
  dsimp only at d
  refine W.ret ?_
  subst ax
  rw [← oi d] at hr
  dsimp only at hr
  refine fg [] b ?_
  obtain rfl := oi hr
  replace c := pm [.D 0,.D 0] c
  exact ⟨rfl, c⟩
 clear b c a w; rintro a w ⟨Z, Q, rfl, b, c⟩
 dsimp only at hr
 refine fg [] b ?_
 obtain rfl := oi hr
 replace c := c.tail
 exact ⟨rfl, c⟩
end Go.Proofs.YthllfhmpjclplaaGreatDoor
