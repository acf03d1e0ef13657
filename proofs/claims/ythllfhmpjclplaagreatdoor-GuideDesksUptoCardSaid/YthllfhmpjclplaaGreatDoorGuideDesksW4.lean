/- The walks of the functions that GuideDesks reaches: each call comes to what its mirror says. The conditions are those of each contract. -/
import Derived.Test.YthllfhmpjclplaaGreatDoorGuideDesksW3
set_option maxRecDepth 10000
open Bool renaming eq_false_or_eq_true → b2o
open Nat renaming lt_succ_self → b2p
namespace Go.Proofs.YthllfhmpjclplaaGreatDoor
open Tryz renaming prog → b2n
open Go Go.Fp
variable {s : Sg} {R : List HP}
set_option maxHeartbeats 8000000 in
theorem a0i : ∀ {fu : Nat} {w : World} {s : Sg} {R : List HP} {n : Nat} {A : Nat} {y : Nat} {o : Nat} {p : Nat} {q : Nat} {x0 : List A1} {a0 : Option Addr} {c0 : Nat} {y0 : B0} {g : Option Addr} {j : Nat} {u : Option Addr} {v : Nat} {y1 : Int} {y2 : List A3} {ax : Option Addr} {ay aQ : Nat} {an : List Value} {y3 : Int} {y4 : Int} (_hS : St w s (pc n #[.slice g y0.Trains.length j, .slice u y0.Turns.length v] 25 :: pc A #[vi y1] 3 :: pc y #[.slice ax aQ ay] 27 :: pc o #[vi y3] 3 :: pc p #[vi y4] 3 :: pc q #[.func (.func 79) #[] #[pp n, pp A, pp y, pp o, pp p, pp q]] 152 :: B2 42 1 ax ay aQ an :: R)) (_h0 : Sl 3 A8 s a0 c0 x0) (cz : Sl 4 A7 s g j y0.Trains) (cA : Sl 1 (RL 1 (RI .i64)) s u v y0.Turns) (cG : Ev 1 D9 s an y2) (cB : y2.length = aQ) {r : (List A3)} (_hr : B8 fu x0 y0 y1 y2 y3 y4 = some r),
  Calls b2n 79 [.slice a0 x0.length c0, pp n, pp A, pp y, pp o, pp p, pp q].toArray w (fun e w => ∃ (b2 : Option Addr) (b3 : Nat) (bs : Nat) (bt : List Value) (t : Sg), e = .returned (.tuple #[]) ∧ s.Le t ∧ Ev 1 D9 t bt r ∧ r.length = bs ∧ St w t (pc n #[.slice g y0.Trains.length j, .slice u y0.Turns.length v] 25 :: pc A #[vi y1] 3 :: pc y #[.slice b2 bs b3] 27 :: pc o #[vi y3] 3 :: pc p #[vi y4] 3 :: pc q #[.func (.func 79) #[] #[pp n, pp A, pp y, pp o, pp p, pp q]] 152 :: B2 42 1 b2 b3 bs bt :: R)) := by
 intro fu
 induction fu with
 | zero => intro w s R n A y o p q x0 a0 c0 y0 g j u v y1 y2 ax ay aQ an y3 y4 c Z d f ai bj r hr; rw [B8] at hr; exact absurd hr (by simp)
 | succ fu L =>
  intro w s R n A y o p q x0 a0 c0 y0 g j u v y1 y2 ax ay aQ an y3 y4 c Z d f ai bj r hr
  rw [B8] at hr
  generalize B8 fu = z at hr L
  refine enter Tryz.func79 rfl rfl rfl fun a b => ?_
  subst bj
  refine sg [.q,.s,.p,.l 88 3,.p,.e] c b fun a b => ?_
  obtain ⟨cC, G, hr⟩ := B4 hr
  refine W.cut (fun a w => ∃ aR bb bc bl aS aM, s.Le aM ∧ aR = cC ∧ Ev 1 D9 aM aS aR ∧ aR.length = bl ∧ Rep a 116 [(0, .slice a0 x0.length c0), (1, pp n), (4, pp o), (5, pp p), (6, pp q)] ∧ St w aM (pc n #[.slice g y0.Trains.length j, .slice u y0.Turns.length v] 25 :: pc A #[vi y1] 3 :: pc y #[.slice bb bl bc] 27 :: pc o #[vi y3] 3 :: pc p #[vi y4] 3 :: pc q #[.func (.func 79) #[] #[pp n, pp A, pp y, pp o, pp p, pp q]] 152 :: B2 42 1 bb bc bl aS :: R)) ?_ ?_
  ·refine W.gen fun dq bu => ?_
   refine W.cond b rfl (fun be => ?_) (fun be => ?_)
   ·replace G := iteT be G
    obtain ⟨b4, cU, cH, b7, G⟩ := gxS G
    obtain ⟨cV, cW, b8, cI⟩ := Z.at b7
    subst b8
    refine sg [.s,.p,.p,.l 88 3,.p,.x 88,.h] c b fun a b => ?_
    refine al b c a0Z fun b5 a w b c => ?_
    refine so [.A 0,.e,.q] c b fun a w b c => ?_
    refine rQ c mixed ?_
    obtain ⟨dr, cX, cJ, b9, G⟩ := gxS G
    obtain ⟨cY, cZ, b_, bM⟩ := d.at b9
    obtain ⟨ds, dt, c2, c3, rfl, cD, c4⟩ := b_
    refine sq [.f 0,.b 1,.f 0,.b 0,.x 72,.f 2] b fun a b => ?_
    refine qP b (A6.load1 b rfl (fun w h => (bM w _ h).one rfl) a3P) rfl fun a b => ?_
    obtain ⟨ca, cK, cE, bN, G⟩ := gxS G
    obtain ⟨cL, cM, bO, bv⟩ := cD.at bN
    subst bO
    refine sq [.f 2,.b 0,.x 75,.f 0] b fun a b => ?_
    refine qP b (A6.load1 b rfl (fun w h => (bv w _ h).one rfl) ty3) rfl fun a b => ?_
    refine sq [.p] b fun a b => ?_
    refine QL.nil ?_; clear c w; intro w c
    refine W.seq ?_
    obtain ⟨cb, aB, G⟩ := R8 G
    refine W.cut (fun a w => ∃ bf, bf = cb ∧ Rep a 116 [(0, .slice a0 x0.length c0), (1, pp n), (3, pp y), (4, pp o), (5, pp p), (6, pp q), (42, .bool bf)] ∧ St w s (pc b5 (A1.cells b4).toArray 88 :: pc n #[.slice g y0.Trains.length j, .slice u y0.Turns.length v] 25 :: pc A #[vi y1] 3 :: pc y #[.slice ax y2.length ay] 27 :: pc o #[vi y3] 3 :: pc p #[vi y4] 3 :: pc q #[.func (.func 79) #[] #[pp n, pp A, pp y, pp o, pp p, pp q]] 152 :: B2 42 1 ax ay y2.length an :: R)) ?_ ?_
    ·refine W.gen fun c5 bm => ?_
     refine sg [.r,.b 2,.p,.p] c b fun a b => ?_
     rcases b2o (decide (y1 < 0)) with aY | aY
     ·replace aB := iteT aY aB
      refine sl [.O,.O,.O,.T,.e] c b fun a b => ?_
      subst bm
      exact ⟨true, aB, b.pk, c⟩
     replace aB := iteF aY aB
     refine sl [.p,.b 2,.p,.N,.e] c b fun a b => ?_
     subst bm
     exact ⟨(ca.Station == y1), aB, b.pk, c⟩
    clear b c a w; rintro a w ⟨bf, rfl, b, c⟩
    obtain ⟨cc, V, G⟩ := B4 G
    refine W.cut (fun a w => ∃ aG aZ a1 a2 aN aT, s.Le aT ∧ aG = cc ∧ Ev 1 D9 aT aN aG ∧ aG.length = a2 ∧ Rep a 116 [(0, .slice a0 x0.length c0), (1, pp n), (4, pp o), (5, pp p), (6, pp q)] ∧ St w aT (pc b5 (A1.cells b4).toArray 88 :: pc n #[.slice g y0.Trains.length j, .slice u y0.Turns.length v] 25 :: pc A #[vi y1] 3 :: pc y #[.slice aZ a2 a1] 27 :: pc o #[vi y3] 3 :: pc p #[vi y4] 3 :: pc q #[.func (.func 79) #[] #[pp n, pp A, pp y, pp o, pp p, pp q]] 152 :: B2 42 1 aZ a1 a2 aN :: R)) ?_ ?_
    ·refine W.gen fun c6 bn => ?_
     refine W.cond b rfl (fun a3 => ?_) (fun a3 => ?_)
     ·replace V := iteT a3 V
      refine W.gen fun c7 bP => ?_
      refine rE c [] [7] [0, 1, 2, 3, 4] [0, 1, 2, 3, 4, 5] mixed ?_
      replace c := c.drew
      refine sr [.T 0 true (.b 3),.P 1 .p] b c (c.dropAt 7) fun a b => ?_
      refine ro 2 true true ?_
      obtain ⟨aH, bQ, V⟩ := B4 V
      refine fq b (G4 c Z bQ) ?_; rintro _ w ⟨aU, aV, c8, cN, rfl, cd, rfl, c⟩; refine ⟨_, rfl, fun a b => ?_⟩
      refine WL.nil ?_
      refine r2 (c.tail) ((c.tail).dropAt 7) ?_
      refine tP (i := 3) b rfl (by kernel_rfl) (A6.build b (vs := [(0, .slice aU aH.length aV)]) [.slice aU aH.length aV] rfl (by kernel_rfl)) rfl (c.tail) ((c.tail).dropAt 7) fun a b => ?_
      refine ro 4 true true ?_
      have hF := c.fixD A8.mono 0 rfl cd rfl; clear c; obtain ⟨ce, az, c, cf⟩ := hF
      obtain ⟨Z, d, f, ai⟩ := m4 az Z d f ai
      refine WL.lit b c (e := 42) (es := 1) (vs := [(0, .agg (List.toArray [.slice aU aH.length aV]))]) (cs := [.slice aU aH.length aV]) (A0 rfl) rfl (by kernel_rfl) rfl fun c9 a w b c => ?_
      refine WL.nil ?_
      refine r2 (St.down az (c.tail)) (St.down az ((c.tail).dropAt 7)) ?_
      refine ro 5 false true ?_
      obtain ⟨bz, bR, V⟩ := B4 V
      refine WL.appD b c 7 (m := 1) (A0 rfl) rfl rfl rfl b1g rfl ai (rfl) (xs := [(A3.mk aH)]) (Ev.cons (c1 := [.slice aU aH.length aV]) ⟨_, _, rfl, cf⟩ rfl (Ev.nil)) rfl rfl bR rfl fun cg ch bS a w ci b c => ?_
      refine WL.nil ?_
      refine rf (St.down az (c.dropAt 7)) ?_
      refine ro 6 false false ?_
      refine so [.S 3,.e] c b fun a w b c => ?_
      refine ⟨⟨fun h => absurd h (by decide), fun h => absurd h (by decide)⟩, ?_⟩
      refine Rg.done (by kernel_rfl) ?_
      subst bP
      subst bn
      exact ⟨bz, cg, ch, bz.length, bS, ce, az, oi V, ci, (rfl), b.pk, c⟩
     replace V := iteF a3 V
     refine W.skip ?_
     subst bn
     exact ⟨y2, ax, ay, y2.length, an, s, lr, oi V, ai, (rfl), b.pk, c⟩
    clear b c a w; rintro a w ⟨aG, aZ, a1, a2, aN, aT, bd, rfl, cj, rfl, b, c⟩
    obtain ⟨Z, d, f, ai⟩ := m4 bd Z d f ai
    replace c := c.tail
    subst bu
    exact ⟨aG, aZ, a1, aG.length, aN, aT, bd, oi G, cj, rfl, b.pk, c⟩
   replace G := iteF be G
   refine W.skip ?_
   subst bu
   exact ⟨y2, ax, ay, y2.length, an, s, lr, oi G, ai, (rfl), b.pk, c⟩
  clear b c a w; rintro a w ⟨aR, bb, bc, bl, aS, aM, a4, rfl, aX, rfl, b, c⟩
  obtain ⟨Z, d, f, ai⟩ := m4 a4 Z d f ai
  refine sg [.q,.s,.p,.l 88 3,.p,.e] c b fun a b => ?_
  refine W.cond b rfl (fun a5 => ?_) (fun a5 => ?_)
  ·replace hr := iteT a5 hr
   refine W.ret ?_
   refine fg [] b ?_
   obtain rfl := oi hr
   exact ⟨bb, bc, aR.length, aS, aM, rfl, a4, aX, rfl, c⟩
  replace hr := iteF a5 hr
  refine sg [.k,.s,.f 0,.b 0,.l 72 4,.p,.e] c b fun a b => ?_
  obtain ⟨bA, ah, hr⟩ := B4 hr
  refine W.cut (fun a w => ∃ N aj ak ap X O, aM.Le O ∧ N = bA ∧ Ev 1 D9 O X N ∧ N.length = ap ∧ Rep a 116 [] ∧ St w O (pc n #[.slice g y0.Trains.length j, .slice u y0.Turns.length v] 25 :: pc A #[vi y1] 3 :: pc y #[.slice aj ap ak] 27 :: pc o #[vi y3] 3 :: pc p #[vi y4] 3 :: pc q #[.func (.func 79) #[] #[pp n, pp A, pp y, pp o, pp p, pp q]] 152 :: B2 42 1 aj ak ap X :: R)) ?_ ?_
  ·refine W.block ?_
   refine W.loop (fun m a w => ∃ M x N aj ak ap X O, M.length = m ∧ y0.Trains.drop x = M ∧ aM.Le O ∧ B8.loop1 x0 y0 y1 y3 y4 fu z M x N = some bA ∧ Ev 1 D9 O X N ∧ N.length = ap ∧ Rep a 116 [(0, .slice a0 x0.length c0), (1, pp n), (4, pp o), (5, pp p), (6, pp q), (53, .slice g y0.Trains.length j), (54, vi ((y0.Trains).length : Int)), (55, vi ((x : Nat) : Int))] ∧ St w O (pc n #[.slice g y0.Trains.length j, .slice u y0.Turns.length v] 25 :: pc A #[vi y1] 3 :: pc y #[.slice aj ap ak] 27 :: pc o #[vi y3] 3 :: pc p #[vi y4] 3 :: pc q #[.func (.func 79) #[] #[pp n, pp A, pp y, pp o, pp p, pp q]] 152 :: B2 42 1 aj ak ap X :: R)) (m := y0.Trains.length) ⟨y0.Trains, 0, aR, bb, bc, aR.length, aS, aM, rfl, rfl, lr, ah, aX, rfl, b.pk, c⟩ ?_
   clear b c a w ah; rintro c_ a w ⟨M, x, N, aj, ak, ap, X, O, rfl, aO, am, ah, aA, rfl, b, c⟩
   refine W.gen fun da bo => ?_
   obtain ⟨Z, d, f, aX⟩ := m4 am Z d f aX
   rcases M with _ | ⟨k, M⟩
   ·have bB := E8 aO
    refine sg [.s,.p,.e,.q] c b fun a b => ?_
    refine W.condF b rfl (decide_eq_false (by omega)) ?_
    subst bo
    refine W.exit rfl ?_
    exact ⟨N, aj, ak, N.length, X, O, am, oi ah, aA, rfl, b.pk, c⟩
   obtain ⟨bB, bT, aO⟩ := C3 aO
   rw [B8.loop1] at ah
   refine sg [.s,.p,.e,.q] c b fun a b => ?_
   refine W.condT b rfl (decide_eq_true (by omega)) ?_
   obtain ⟨cO, cP, bU, cF⟩ := d.at bT
   obtain ⟨aI, aJ, aK, aL, rfl, H, aa⟩ := bU
   refine sg [.k,.q,.o,.s,.p,.x 72,.h] c b fun a b => ?_
   refine al b c a5o fun af a w b c => ?_
   refine so [.p,.A 0,.e,.s,.f 2,.b 0,.l 75 4,.p,.e] c b fun a w b c => ?_
   obtain ⟨bC, C, ah⟩ := B4 ah
   refine W.cut (fun a w => ∃ D T U aq K I, O.Le I ∧ D = bC ∧ Ev 1 D9 I K D ∧ D.length = aq ∧ Rep a 116 [(0, .slice a0 x0.length c0), (1, pp n), (4, pp o), (5, pp p), (6, pp q), (53, .slice g y0.Trains.length j), (54, vi ((y0.Trains).length : Int)), (55, vi ((x : Nat) : Int))] ∧ St w I (pc af #[vi k.No, vi k.Stock, .slice aI k.Stops.length aJ, .slice aK k.Legs.length aL] 72 :: pc n #[.slice g y0.Trains.length j, .slice u y0.Turns.length v] 25 :: pc A #[vi y1] 3 :: pc y #[.slice T aq U] 27 :: pc o #[vi y3] 3 :: pc p #[vi y4] 3 :: pc q #[.func (.func 79) #[] #[pp n, pp A, pp y, pp o, pp p, pp q]] 152 :: B2 42 1 T U aq K :: R)) ?_ ?_
   ·refine W.block ?_
    refine W.loop (fun m a w => ∃ E B D T U aq K I, E.length = m ∧ k.Stops.drop B = E ∧ O.Le I ∧ B8.loop2 x0 y0 y1 y3 y4 fu z k x E B D = some bC ∧ Ev 1 D9 I K D ∧ D.length = aq ∧ Rep a 116 [(0, .slice a0 x0.length c0), (1, pp n), (4, pp o), (5, pp p), (6, pp q), (10, vi ((x : Nat) : Int)), (11, pp af), (53, .slice g y0.Trains.length j), (54, vi ((y0.Trains).length : Int)), (55, vi ((x : Nat) : Int)), (62, vi ((k.Stops).length : Int)), (63, vi ((B : Nat) : Int))] ∧ St w I (pc af #[vi k.No, vi k.Stock, .slice aI k.Stops.length aJ, .slice aK k.Legs.length aL] 72 :: pc n #[.slice g y0.Trains.length j, .slice u y0.Turns.length v] 25 :: pc A #[vi y1] 3 :: pc y #[.slice T aq U] 27 :: pc o #[vi y3] 3 :: pc p #[vi y4] 3 :: pc q #[.func (.func 79) #[] #[pp n, pp A, pp y, pp o, pp p, pp q]] 152 :: B2 42 1 T U aq K :: R)) (m := k.Stops.length) ⟨k.Stops, 0, N, aj, ak, N.length, X, O, rfl, rfl, lr, C, aA, rfl, b.pk, c⟩ ?_
    clear b c a w C; rintro db a w ⟨E, B, D, T, U, aq, K, I, rfl, aE, P, C, ar, rfl, b, c⟩
    refine W.gen fun dc a6 => ?_
    obtain ⟨Z, d, H, aa⟩ := m4 P Z d H aa
    obtain ⟨f, aA⟩ := m2 P f aA
    rcases E with _ | ⟨ck, E⟩
    ·have bD := E8 aE
     refine sg [.s,.p,.e,.q] c b fun a b => ?_
     refine W.condF b rfl (decide_eq_false (by omega)) ?_
     subst a6
     refine W.exit rfl ?_
     exact ⟨D, T, U, D.length, K, I, P, oi C, ar, rfl, b.pk, c⟩
    obtain ⟨bD, bV, aE⟩ := C3 aE
    rw [B8.loop2] at C
    refine sg [.s,.p,.e,.q] c b fun a b => ?_
    refine W.condT b rfl (decide_eq_true (by omega)) ?_
    refine sg [.k,.q,.o,.s,.p,.p,.e,.q,.q] c b fun a b => ?_
    obtain ⟨cl, aC, C⟩ := R8 C
    refine W.cut (fun a w => ∃ bg, bg = cl ∧ Rep a 116 [(0, .slice a0 x0.length c0), (1, pp n), (4, pp o), (5, pp p), (6, pp q), (10, vi ((x : Nat) : Int)), (11, pp af), (12, vi ((B : Nat) : Int)), (53, .slice g y0.Trains.length j), (54, vi ((y0.Trains).length : Int)), (55, vi ((x : Nat) : Int)), (62, vi ((k.Stops).length : Int)), (63, vi ((B : Nat) : Int)), (78, .bool bg)] ∧ St w I (pc af #[vi k.No, vi k.Stock, .slice aI k.Stops.length aJ, .slice aK k.Legs.length aL] 72 :: pc n #[.slice g y0.Trains.length j, .slice u y0.Turns.length v] 25 :: pc A #[vi y1] 3 :: pc y #[.slice T D.length U] 27 :: pc o #[vi y3] 3 :: pc p #[vi y4] 3 :: pc q #[.func (.func 79) #[] #[pp n, pp A, pp y, pp o, pp p, pp q]] 152 :: B2 42 1 T U D.length K :: R)) ?_ ?_
    ·refine W.gen fun dd bp => ?_
     refine rQ c mixed ?_
     refine sq [.p,.l 88 3,.p,.p] b fun a b => ?_
     rcases b2o (((x0).length : Int) == 0) with aP | aP
     ·replace aC := iteT aP aC
      obtain ⟨cQ, cR, bW, bE⟩ := H.at bV
      subst bW
      refine sq [.f 2,.b 0,.p,.x 75,.f 0] b fun a b => ?_
      refine QL.v b (F9 b rfl rfl rfl aP) (A6.load1 b rfl (fun w h => (bE w _ h).one rfl) ty3) rfl fun a b => ?_
      refine sq [.b 4,.p,.T] b fun a b => ?_
      refine QL.nil ?_; clear c w; intro w c
      subst bp
      exact ⟨(ck.Station != y3), aC, b.pk, c⟩
     replace aC := iteF aP aC
     refine sq [.O,.O,.O,.O,.O,.O,.O,.O,.N] b fun a b => ?_
     refine QL.nil ?_; clear c w; intro w c
     subst bp
     exact ⟨false, aC, b.pk, c⟩
    clear b c a w; rintro a w ⟨bg, rfl, b, c⟩
    refine W.cond b rfl (fun a7 => ?_) (fun a7 => ?_)
    ·replace C := iteT a7 C
     refine W.exit rfl ?_
     have := H.small
     refine sg [.r,.i,.p,.e] c b fun a b => ?_
     subst a6
     exact ⟨E.length, b2p _, E, B + 1, D, T, U, D.length, K, I, rfl, aE, P, C, ar, rfl, b.pk, c⟩
    replace C := iteF a7 C
    have := H.small
    refine sg [.k,.s,.p,.i,.p,.e] c b fun a b => ?_
    obtain ⟨bF, l, C⟩ := B4 C
    refine W.cut (fun a w => ∃ J F ad ae au Q ag, I.Le ag ∧ (J, F) = bF ∧ Ev 1 D9 ag Q F ∧ F.length = au ∧ Rep a 116 [(0, .slice a0 x0.length c0), (1, pp n), (4, pp o), (5, pp p), (6, pp q), (10, vi ((x : Nat) : Int)), (11, pp af), (53, .slice g y0.Trains.length j), (54, vi ((y0.Trains).length : Int)), (55, vi ((x : Nat) : Int)), (62, vi ((k.Stops).length : Int)), (63, vi ((B : Nat) : Int))] ∧ St w ag (pc af #[vi k.No, vi k.Stock, .slice aI k.Stops.length aJ, .slice aK k.Legs.length aL] 72 :: pc n #[.slice g y0.Trains.length j, .slice u y0.Turns.length v] 25 :: pc A #[vi y1] 3 :: pc y #[.slice ad au ae] 27 :: pc o #[vi y3] 3 :: pc p #[vi y4] 3 :: pc q #[.func (.func 79) #[] #[pp n, pp A, pp y, pp o, pp p, pp q]] 152 :: B2 42 1 ad ae au Q :: R)) ?_ ?_
    ·refine W.block ?_
     refine W.loop (fun m a w => ∃ av J F ad ae au Q ag, av = m ∧ I.Le ag ∧ B8.loop3 x0 y0 y1 y3 y4 z k x B av J F = some bF ∧ Ev 1 D9 ag Q F ∧ F.length = au ∧ Rep a 116 [(0, .slice a0 x0.length c0), (1, pp n), (4, pp o), (5, pp p), (6, pp q), (10, vi ((x : Nat) : Int)), (11, pp af), (12, vi ((B : Nat) : Int)), (13, vi J), (53, .slice g y0.Trains.length j), (54, vi ((y0.Trains).length : Int)), (55, vi ((x : Nat) : Int)), (62, vi ((k.Stops).length : Int)), (63, vi ((B : Nat) : Int))] ∧ St w ag (pc af #[vi k.No, vi k.Stock, .slice aI k.Stops.length aJ, .slice aK k.Legs.length aL] 72 :: pc n #[.slice g y0.Trains.length j, .slice u y0.Turns.length v] 25 :: pc A #[vi y1] 3 :: pc y #[.slice ad au ae] 27 :: pc o #[vi y3] 3 :: pc p #[vi y4] 3 :: pc q #[.func (.func 79) #[] #[pp n, pp A, pp y, pp o, pp p, pp q]] 152 :: B2 42 1 ad ae au Q :: R)) (m := fu) ⟨fu, ((B + 1 : Nat) : Int), D, T, U, D.length, K, I, rfl, lr, l, ar, rfl, b.pk, c⟩ ?_
     clear b c a w l; rintro de a w ⟨av, J, F, ad, ae, au, Q, ag, rfl, S, l, aw, rfl, b, c⟩
     refine W.gen fun df a8 => ?_
     obtain ⟨Z, d, H, aa⟩ := m4 S Z d H aa
     obtain ⟨f, ar⟩ := m2 S f ar
     rcases av with _ | av
     ·rw [B8.loop3] at l; exact absurd l (by simp)
     rw [B8.loop3] at l
     refine sg [.q,.s,.p,.f 2,.b 0,.l 75 4,.p,.e] c b fun a b => ?_
     refine W.cond b rfl (fun a9 => ?_) (fun a9 => ?_)
     ·replace l := iteT a9 l
      refine sg [.k,.q,.o,.s,.p] c b fun a b => ?_
      obtain ⟨dg, bX, l⟩ := B4 l
      refine fq b (G4 c Z bX) ?_; rintro _ w ⟨dh, di, dj, cS, rfl, cm, rfl, c⟩; refine ⟨_, rfl, fun a b => ?_⟩
      refine sl [.p,.p,.p] c b fun a b => ?_
      refine vP c b (A6.build b (vs := [(0, vi ((x : Nat) : Int)), (1, vi ((B : Nat) : Int)), (2, vi J)]) [vi ((x : Nat) : Int), vi ((B : Nat) : Int), vi J] rfl (by kernel_rfl)) rfl fun a b => ?_
      refine WL.lit b c (e := 88) (es := 3) (vs := [(0, .agg (List.toArray [vi ((x : Nat) : Int), vi ((B : Nat) : Int), vi J]))]) (cs := [vi ((x : Nat) : Int), vi ((B : Nat) : Int), vi J]) (A0 rfl) rfl (by kernel_rfl) rfl fun dk a w b c => ?_
      obtain ⟨bG, bY, l⟩ := B4 l
      refine WL.appD b c 0 (m := 1) (A0 rfl) rfl rfl rfl a7F rfl cm rfl (xs := [(A1.mk ((x : Nat) : Int) ((B : Nat) : Int) J)]) (Ev.cons (c1 := [vi ((x : Nat) : Int), vi ((B : Nat) : Int), vi J]) rfl rfl (Ev.nil)) rfl rfl bY rfl fun cn co cT a w cp b c => ?_
      refine sl [.p,.e,.q] c b fun a b => ?_
      have hF := c.fixD A8.mono 0 rfl cp (rfl); clear c; obtain ⟨bH, aF, c, a_⟩ := hF
      obtain ⟨Z, d, H, aa⟩ := m4 aF Z d H aa
      obtain ⟨f, aw⟩ := m2 aF f aw
      obtain ⟨cq, Y, l⟩ := B4 l
      refine W.cut (fun a w => ∃ bh, bh = cq ∧ Rep a 116 [(0, .slice a0 x0.length c0), (1, pp n), (4, pp o), (5, pp p), (6, pp q), (10, vi ((x : Nat) : Int)), (11, pp af), (12, vi ((B : Nat) : Int)), (13, vi J), (14, .slice cn bG.length co), (53, .slice g y0.Trains.length j), (54, vi ((y0.Trains).length : Int)), (55, vi ((x : Nat) : Int)), (62, vi ((k.Stops).length : Int)), (63, vi ((B : Nat) : Int)), (110, .bool bh)] ∧ St w bH (pc af #[vi k.No, vi k.Stock, .slice aI k.Stops.length aJ, .slice aK k.Legs.length aL] 72 :: pc n #[.slice g y0.Trains.length j, .slice u y0.Turns.length v] 25 :: pc A #[vi y1] 3 :: pc y #[.slice ad F.length ae] 27 :: pc o #[vi y3] 3 :: pc p #[vi y4] 3 :: pc q #[.func (.func 79) #[] #[pp n, pp A, pp y, pp o, pp p, pp q]] 152 :: B2 42 1 ad ae F.length Q :: R)) ?_ ?_
      ·refine W.gen fun dl bq => ?_
       refine rQ c mixed ?_
       refine sq [.p,.l 88 3,.p,.p] b fun a b => ?_
       rcases b2o (((bG).length : Int) == 1) with aD | aD
       ·replace Y := iteT aD Y
        refine sq [.O,.O,.O,.O,.O,.O,.O,.O,.O,.O,.T] b fun a b => ?_
        refine QL.nil ?_; clear c w; intro w c
        subst bq
        exact ⟨true, oi Y, b.pk, c⟩
       replace Y := iteF aD Y
       refine sq [.B 1,.p,.p,.l 88 3,.p] b fun a b => ?_
       obtain ⟨bi, br, Y⟩ := B4 Y
       obtain ⟨bI, bJ, bK, cr⟩ := a_.cut br
       obtain ⟨ct, dm, dn, _⟩ := Q9 br
       refine QL.v b (F9 b rfl rfl rfl aD) (A6.slL b a6s rfl rfl ct (by omega) (by simpa using bK)) rfl fun a b => ?_
       refine QL.v b (F9 b rfl rfl rfl aD) (A6.build b (vs := [(0, .slice bI bi.length bJ)]) [.slice bI bi.length bJ] rfl (by kernel_rfl)) rfl fun a b => ?_
       refine sq [.b 5] b fun a b => ?_
       obtain ⟨cu, bZ, Y⟩ := B4 Y
       refine QL.fnq b (fun w c => S2 (x1 := (A3.mk bi)) c d f cr bZ) (F9 b rfl rfl rfl aD) b1s rfl rfl rfl fun a b => ?_
       refine sq [.p,.N] b fun a b => ?_
       refine QL.nil ?_; clear c w; intro w c
       subst bq
       exact ⟨(cu == 0), oi Y, b.pk, c⟩
      clear b c a w; rintro a w ⟨bh, rfl, b, c⟩
      refine W.cond b rfl (fun ba => ?_) (fun ba => ?_)
      ·replace l := iteT ba l
       obtain ⟨bL, b0, l⟩ := B4 l
       refine sm [.r,.b 6,.p,.F 7,.F 7,.F 7,.F 7,.F 7,.F 7,.F 7] c b fun a w b c => ?_
       have b6 := L (y0 := y0) c a_ d f aw rfl b0
       refine WL.fnw b (b6) rfl (A0 rfl) b1a rfl rfl rfl ?_
       clear b c b6; rintro e w ⟨cv, cw, dp, b1, cx, rfl, aW, cy, rfl, c⟩; refine ⟨_, rfl, ?_⟩; clear a; intro a b
       obtain ⟨Z, a_, d, f⟩ := m4 aW Z a_ d f
       obtain ⟨aw, H, aa⟩ := m3 aW aw H aa
       refine so [.e,.r,.p,.p,.p,.e,.F 6,.F 6,.F 6,.F 6,.F 6,.F 6,.F 6,.F 7] c b fun a w b c => ?_
       subst a8
       exact ⟨av, b2p _, av, (w64 (J + 1)), bL, cv, cw, bL.length, b1, cx, rfl, (Sg.Le.trans (Sg.Le.trans S aF) aW), l, cy, rfl, b.pk, c⟩
      replace l := iteF ba l
      refine sg [.k,.r,.p,.p,.p,.e] c b fun a b => ?_
      subst a8
      exact ⟨av, b2p _, av, (w64 (J + 1)), F, ad, ae, F.length, Q, bH, rfl, (Sg.Le.trans S aF), l, aw, rfl, b.pk, c⟩
     replace l := iteF a9 l
     subst a8
     refine W.exit rfl ?_
     exact ⟨J, F, ad, ae, F.length, Q, ag, S, oi l, aw, rfl, b.pk, c⟩
    clear b c a w; rintro a w ⟨J, F, ad, ae, au, Q, ag, S, rfl, aw, rfl, b, c⟩
    dsimp only at C
    obtain ⟨Z, d, H, aa⟩ := m4 S Z d H aa
    obtain ⟨f, ar⟩ := m2 S f ar
    have := H.small
    refine sg [.r,.i,.p,.e] c b fun a b => ?_
    subst a6
    exact ⟨E.length, b2p _, E, B + 1, F, ad, ae, F.length, Q, ag, rfl, aE, (Sg.Le.trans P S), C, aw, rfl, b.pk, c⟩
   clear b c a w; rintro a w ⟨D, T, U, aq, K, I, P, rfl, ar, rfl, b, c⟩
   obtain ⟨Z, d, H, aa⟩ := m4 P Z d H aa
   obtain ⟨f, aA⟩ := m2 P f aA
   have := d.small
   refine sm [.r,.i,.p,.e,.D 0] c b fun a w b c => ?_
   subst bo
   exact ⟨M.length, b2p _, M, x + 1, D, T, U, D.length, K, I, rfl, aO, (Sg.Le.trans am P), ah, ar, rfl, b.pk, c⟩
  clear b c a w; rintro a w ⟨N, aj, ak, ap, X, O, am, rfl, aA, rfl, b, c⟩
  obtain ⟨Z, d, f, aX⟩ := m4 am Z d f aX
  refine fg [] b ?_
  obtain rfl := oi hr
  exact ⟨aj, ak, N.length, X, O, rfl, (Sg.Le.trans a4 am), aA, rfl, c⟩
set_option maxHeartbeats 8000000 in
theorem a1E {fu h i : Nat}  {w : World} {x0 : B0} {j k : Option Addr} {x1 x2 x3 : Int} (c : St w s (R)) (d : Sl 4 A7 s j h x0.Trains) (f : Sl 1 (RL 1 (RI .i64)) s k i x0.Turns) {r : (List A3)} (l : S4 fu x0 x1 x2 x3 = some r) :
  Calls b2n 62 [.agg (List.toArray [.slice j x0.Trains.length h, .slice k x0.Turns.length i]), vi x1, vi x2, vi x3].toArray w (fun e w => ∃ (u : Option Addr) (v o : Nat) (m : List Value) (t : Sg), e = .returned (.slice u o v) ∧ s.Le t ∧ Ev 1 D9 t m r ∧ r.length = o ∧ St w t (B2 42 1 u v o m :: R)) := by
 refine enter Tryz.func62 rfl rfl rfl fun a b => ?_
 rw [S4] at l
 refine sg [.s] c b fun a b => ?_
 refine bw b c fun x a w b c => ?_
 refine bw b c fun y a w b c => ?_
 refine bw b c fun z a w b c => ?_
 refine bw b c fun A a w b c => ?_
 refine sl [.p,.e,.s] c b fun a b => ?_
 refine al b c b1L fun B a w b c => ?_
 refine sl [.e,.s] c b fun a b => ?_
 refine al b c b0K fun C a w b c => ?_
 refine sl [.e,.s] c b fun a b => ?_
 replace c := c.vecNil 42 1
 refine vP c b (A6.mkfn b (vs := [pp x, pp z, pp B, pp y, pp A, pp C]) rfl) rfl fun a b => ?_
 obtain ⟨D, p, l⟩ := B4 l
 refine so [.S 1,.e,.s,.b 1,.F 0,.F 1,.F 3,.F 5,.F 4,.F 5,.F 6] c b fun a w b c => ?_
 have n := a0i (y0 := x0) c Sl.nil d f (Ev.nil) (rfl) p
 refine WL.fnw b (n) rfl (A0 rfl) b1a rfl rfl rfl ?_
 clear b c n; rintro e w ⟨E, F, I, q, G, rfl, g, H, rfl, c⟩; refine ⟨_, rfl, ?_⟩; clear a; intro a b
 obtain ⟨d, f⟩ := m2 g d f
 refine sl [.e,.s,.b 2,.p,.e] c b fun a b => ?_
 refine W.ret ?_
 refine fg [_] b ?_
 obtain rfl := oi l
 replace c := pm [.D 0,.D 0,.D 0,.D 0,.D 0,.D 0] c
 exact ⟨E, F, D.length, q, G, rfl, g, H, rfl, c⟩
set_option maxHeartbeats 8000000 in
theorem P9 {w : World} {x0 : B0} {f g i : Option Addr} {j k l : Nat} {x1 : A3} (c : St w s (R)) (o : Sl 4 A7 s f j x0.Trains) (_h0_1 : Sl 1 (RL 1 (RI .i64)) s g k x0.Turns) (p : Sl 3 A8 s i l x1.Rides) {r : Int} (d : K4 x0 x1 = some r) :
  Calls b2n 39 [.agg (List.toArray [.slice f x0.Trains.length j, .slice g x0.Turns.length k]), .agg (List.toArray [.slice i x1.Rides.length l])].toArray w (fun e w => e = .returned (vi r) ∧ St w s (R)) := by
 refine enter Tryz.func39 rfl rfl rfl fun a b => ?_
 rw [K4] at d
 refine sg [.s] c b fun a b => ?_
 refine bw b c fun N a w b c => ?_
 refine bw b c fun O a w b c => ?_
 obtain ⟨P, E, A, q, d⟩ := gxS d
 obtain ⟨F, G, t, B⟩ := p.at q
 subst t
 refine sl [.p,.e,.s,.f 0,.b 0,.x 88,.h] c b fun a b => ?_
 refine al b c a0Z fun Q a w b c => ?_
 refine so [.A 0,.e,.q] c b fun a w b c => ?_
 refine rQ c mixed ?_
 obtain ⟨S, H, C, u, d⟩ := gxS d
 obtain ⟨I, J, v, m⟩ := o.at u
 obtain ⟨T, U, V, X, rfl, z, Y⟩ := v
 refine sq [.f 0,.b 2,.f 0,.b 0,.x 72,.f 2] b fun a b => ?_
 refine qP b (A6.load1 b rfl (fun w h => (m w _ h).one rfl) a3P) rfl fun a b => ?_
 obtain ⟨Z, K, D, x, d⟩ := gxS d
 obtain ⟨L, M, y, n⟩ := z.at x
 subst y
 refine sq [.f 1,.b 0,.x 75,.f 3] b fun a b => ?_
 refine qP b (A6.load1 b rfl (fun w h => (n w _ h).one rfl) ty3) rfl fun a b => ?_
 refine sq [.p] b fun a b => ?_
 refine QL.nil ?_; clear c w; intro w c
 refine W.ret ?_
 refine fg [_] b ?_
 obtain rfl := oi d
 replace c := pm [.D 0,.D 0,.D 0] c
 exact ⟨rfl, c⟩
set_option maxHeartbeats 8000000 in
theorem W4 {w : World} {x0 : B0} {f g i : Option Addr} {j k l : Nat} {x1 : A3} (c : St w s (R)) (o : Sl 4 A7 s f j x0.Trains) (_h0_1 : Sl 1 (RL 1 (RI .i64)) s g k x0.Turns) (p : Sl 3 A8 s i l x1.Rides) {r : Int} (d : L2 x0 x1 = some r) :
  Calls b2n 41 [.agg (List.toArray [.slice f x0.Trains.length j, .slice g x0.Turns.length k]), .agg (List.toArray [.slice i x1.Rides.length l])].toArray w (fun e w => e = .returned (vi r) ∧ St w s (R)) := by
 refine enter Tryz.func41 rfl rfl rfl fun a b => ?_
 rw [L2] at d
 refine sg [.s] c b fun a b => ?_
 refine bw b c fun N a w b c => ?_
 refine bw b c fun O a w b c => ?_
 obtain ⟨P, E, A, q, d⟩ := gxS d
 obtain ⟨F, G, t, B⟩ := p.at q
 subst t
 refine sl [.p,.e,.s,.f 0,.b 0,.f 0,.b 0,.l 88 3,.p,.x 88,.h] c b fun a b => ?_
 refine al b c a0Z fun Q a w b c => ?_
 refine so [.A 0,.e,.q] c b fun a w b c => ?_
 refine rQ c mixed ?_
 obtain ⟨S, H, C, u, d⟩ := gxS d
 obtain ⟨I, J, v, m⟩ := o.at u
 obtain ⟨T, U, V, X, rfl, z, Y⟩ := v
 refine sq [.f 0,.b 2,.f 0,.b 0,.x 72,.f 2] b fun a b => ?_
 refine qP b (A6.load1 b rfl (fun w h => (m w _ h).one rfl) a3P) rfl fun a b => ?_
 obtain ⟨Z, K, D, x, d⟩ := gxS d
 obtain ⟨L, M, y, n⟩ := z.at x
 subst y
 refine sq [.f 2,.b 0,.x 75,.f 2] b fun a b => ?_
 refine qP b (A6.load1 b rfl (fun w h => (n w _ h).one rfl) ty3) rfl fun a b => ?_
 refine sq [.p] b fun a b => ?_
 refine QL.nil ?_; clear c w; intro w c
 refine W.ret ?_
 refine fg [_] b ?_
 obtain rfl := oi d
 replace c := pm [.D 0,.D 0,.D 0] c
 exact ⟨rfl, c⟩
set_option maxHeartbeats 8000000 in
theorem V5 {w : World} {q u h i : Nat} {x0 : A3} {v j k : Option Addr} {y0 : B0} (b : St w s (pc q #[.slice j y0.Trains.length h, .slice k y0.Turns.length i] 25 :: R)) (l : Sl 3 A8 s v u x0.Rides) (d : Sl 4 A7 s j h y0.Trains) (f : Sl 1 (RL 1 (RI .i64)) s k i y0.Turns) {r : (List Int)} (p : J8 x0 y0 = some r) :
  Calls b2n 64 [.agg (List.toArray [.slice v x0.Rides.length u]), pp q].toArray w (fun e w => ∃ (A : Option Addr) (B : Nat) (t : Sg), e = .returned (.slice A r.length B) ∧ s.Le t ∧ Sl 1 (RI .i64) t A B r ∧ St w t (pc q #[.slice j y0.Trains.length h, .slice k y0.Turns.length i] 25 :: R)) := by
 refine enter Tryz.func64 rfl rfl rfl fun a c => ?_
 rw [J8] at p
 refine sg [.s] b c fun a c => ?_
 refine bw c b fun G a w c b => ?_
 refine sl [.p,.e,.q] b c fun a c => ?_
 refine W.gen fun H x => ?_
 refine rE b [] [] [0, 1, 2, 3, 4, 5, 6, 7, 8, 9, 10, 11] [0, 1, 2, 3, 4, 5, 6, 7, 8, 9, 10, 11] mixed ?_
 replace b := b.drew
 refine sr [.T 0 true (.B 1),.T 1 true (.B 0),.P 3 (.f 0),.T 4 true (.b 0),.P 5 (.l 88 3),.T 6 true (.B 1),.T 7 true (.B 0)] c b b fun a c => ?_
 refine ro 2 true true ?_
 obtain ⟨n, y, p⟩ := B4 p
 refine fq c (W4 b d f l y) ?_; rintro _ w ⟨rfl, b⟩; refine ⟨_, rfl, fun a c => ?_⟩
 refine WL.nil ?_
 refine r3 b ?_
 refine ro 8 true true ?_
 obtain ⟨o, z, p⟩ := B4 p
 refine fq c (P9 b d f l z) ?_; rintro _ w ⟨rfl, b⟩; refine ⟨_, rfl, fun a c => ?_⟩
 refine WL.nil ?_
 refine r3 b ?_
 refine sr [.P 9 .p] c b b fun a c => ?_
 refine ro 10 true true ?_
 refine WL.lit c b (e := 3) (es := 1) (vs := [(0, vi n), (1, vi ((x0.Rides).length : Int)), (2, vi (w64 (0 - o)))]) (cs := [vi n, vi ((x0.Rides).length : Int), vi (w64 (0 - o))]) (A0 rfl) rfl (by kernel_rfl) rfl fun C a w c b => ?_
 replace b := b.ptVec (es := 1) (m := 3) rfl (by decide)
 have D : Ev 1 (RI .i64) s [vi n, vi ((x0.Rides).length : Int), vi (w64 (0 - o))] [n, ((x0.Rides).length : Int), w64 (0 - o)] := (Ev.cons (c1 := [vi n]) rfl rfl (Ev.cons (c1 := [vi ((x0.Rides).length : Int)]) rfl rfl (Ev.cons (c1 := [vi (w64 (0 - o))]) rfl rfl (Ev.nil))))
 have hF := b.fixD RI.mono 0 rfl D (rfl); clear b; obtain ⟨E, g, b, F⟩ := hF
 obtain ⟨l, d, f⟩ := m3 g l d f
 refine WL.nil ?_
 refine r3 (St.down g b) ?_
 refine sr [.P 11 .p] c (St.down g b) (St.down g b) fun a c => ?_
 refine Rg.done (by kernel_rfl) ?_
 subst x
 refine W.ret ?_
 refine fg [_] c ?_
 obtain rfl := oi p
 replace b := b.tail
 exact ⟨(some ⟨C, 0, none⟩), 3, E, rfl, g, F, b⟩
set_option maxHeartbeats 8000000 in
theorem a0z {w : World} {x0 : List Int} {o q : Option Addr} {p t : Nat} {x1 : List Int} (f : St w s (R)) (B : Sl 1 (RI .i64) s o p x0) (H : Sl 1 (RI .i64) s q t x1) {r : Int} (g : H3 x0 x1 = some r) :
  Calls b2n 80 [.slice o x0.length p, .slice q x1.length t].toArray w (fun e w => e = .returned (vi r) ∧ St w s (R)) := by
 refine enter Tryz.func80 rfl rfl rfl fun a b => ?_
 rw [H3] at g
 refine sg [.s,.p,.e,.q,.s,.p,.l 3 1,.p,.e] f b fun a b => ?_
 obtain ⟨v, c, g⟩ := B4 g
 refine W.cut (fun a w => (.next ()) = v ∧ Rep a 36 [(0, .slice o x0.length p), (1, .slice q x1.length t)] ∧ St w s (R)) ?_ ?_
 ·refine W.block ?_
  refine W.loop (fun m a w => ∃ d j, d.length = m ∧ x0.drop j = d ∧ H3.loop1 x1 d j = some v ∧ Rep a 36 [(0, .slice o x0.length p), (1, .slice q x1.length t), (9, .slice o x0.length p), (10, vi ((x0).length : Int)), (11, vi ((j : Nat) : Int))] ∧ St w s (R)) (m := x0.length) ⟨x0, 0, rfl, rfl, c, b.pk, f⟩ ?_
  clear b f a w c; rintro N a w ⟨d, j, rfl, h, c, b, f⟩
  refine W.gen fun O i => ?_
  rcases d with _ | ⟨C, d⟩
  ·have u := E8 h
   refine sg [.s,.p,.e,.q] f b fun a b => ?_
   refine W.condF b rfl (decide_eq_false (by omega)) ?_
   subst i
   refine W.exit rfl ?_
   exact ⟨oi c, b.pk, f⟩
  obtain ⟨u, x, h⟩ := C3 h
  rw [H3.loop1] at c
  refine sg [.s,.p,.e,.q] f b fun a b => ?_
  refine W.condT b rfl (decide_eq_true (by omega)) ?_
  obtain ⟨I, J, y, E⟩ := B.at x
  subst y
  refine sg [.k,.q,.o,.s,.p,.x 3,.H,.p,.p,.e,.q,.s,.p,.p,.l 3 1,.p,.e] f b fun a b => ?_
  refine W.cond b rfl (fun k => ?_) (fun k => ?_)
  ·replace c := iteT k c
   refine sg [.s,.p,.e] f b fun a b => ?_
   refine W.ret ?_
   subst i
   rw [← oi c] at g
   dsimp only at g
   refine fg [_] b ?_
   obtain rfl := oi g
   exact ⟨rfl, f⟩
  replace c := iteF k c
  obtain ⟨D, K, F, z, c⟩ := gxS c
  obtain ⟨L, M, A, G⟩ := H.at z
  subst A
  refine sg [.k,.s,.p,.p,.x 3,.H,.p,.e,.s,.p,.p] f b fun a b => ?_
  refine fq b (R1 f  rfl (r := B3 C D)) ?_; rintro _ w ⟨rfl, f⟩; refine ⟨_, rfl, fun a b => ?_⟩
  refine sl [.p,.e,.s,.p,.p,.e] f b fun a b => ?_
  refine W.cond b rfl (fun l => ?_) (fun l => ?_)
  ·replace c := iteT l c
   refine sg [.s,.p,.p,.e] f b fun a b => ?_
   refine W.ret ?_
   subst i
   rw [← oi c] at g
   dsimp only at g
   refine fg [_] b ?_
   obtain rfl := oi g
   exact ⟨rfl, f⟩
  replace c := iteF l c
  have := B.small
  refine sg [.k,.r,.i,.p,.e] f b fun a b => ?_
  subst i
  exact ⟨d.length, b2p _, d, j + 1, rfl, h, c, b.pk, f⟩
 clear b f a w; rintro a w ⟨rfl, b, f⟩
 dsimp only at g
 refine sg [.q,.s,.p,.l 3 1,.p,.l 3 1,.p,.e] f b fun a b => ?_
 refine W.cond b rfl (fun n => ?_) (fun n => ?_)
 ·replace g := iteT n g
  refine sg [.s,.p,.e] f b fun a b => ?_
  refine W.ret ?_
  refine fg [_] b ?_
  obtain rfl := oi g
  exact ⟨rfl, f⟩
 replace g := iteF n g
 refine sg [.k,.s,.p,.e] f b fun a b => ?_
 refine W.ret ?_
 refine fg [_] b ?_
 obtain rfl := oi g
 exact ⟨rfl, f⟩
set_option maxHeartbeats 8000000 in
theorem a0w {w : World} {B o Q g h : Nat} {x0 : List A3} {p i j : Option Addr} {u : List Value} {y0 : B0} (c : St w s (pc B #[.slice i y0.Trains.length g, .slice j y0.Turns.length h] 25 :: B2 42 1 p o Q u :: R)) (F : Ev 1 D9 s u x0) (am : x0.length = Q) (k : Sl 4 A7 s i g y0.Trains) (l : Sl 1 (RL 1 (RI .i64)) s j h y0.Turns) {r : A3 × Bool} (hr : G7 x0 y0 = some r) :
  Calls b2n 63 [.slice p Q o, .func (.func 64) #[] #[pp B]].toArray w (fun e w => ∃ (aq : List Value) (t : Sg), e = .returned (.tuple #[.agg aq.toArray, .bool r.2]) ∧ s.Le t ∧ D9 t aq r.1 ∧ St w t (pc B #[.slice i y0.Trains.length g, .slice j y0.Turns.length h] 25 :: B2 42 1 p o Q u :: R)) := by
 refine enter Tryz.func63 rfl rfl rfl fun a b => ?_
 rw [G7] at hr
 subst am
 refine sg [.s] c b fun a b => ?_
 refine al b c a3B fun H a w b c => ?_
 refine sl [.p,.e,.s] c b fun a b => ?_
 refine al b c a3B fun I a w b c => ?_
 refine sl [.e,.s,.p,.e,.q,.s,.p,.l 42 1,.p,.e] c b fun a b => ?_
 have aK : x0.length ≤ 9223372036854775807 := by have := c.vecCap 3 rfl; unfold maxLen at this; omega
 obtain ⟨ar, d, hr⟩ := B4 hr
 refine W.cut (fun a w => ∃ n v x C D E q, s.Le q ∧ (n, v) = ar ∧ Sl 1 (RI .i64) q x C n ∧ (n = [] → x = none) ∧ Sl 3 A8 q D E v ∧ Rep a 34 [(4, pp H), (6, pp I), (7, .slice x n.length C)] ∧ St w q (pc I #[.slice D v.length E] 42 :: pc H #[.slice none 0 0] 42 :: pc B #[.slice i y0.Trains.length g, .slice j y0.Turns.length h] 25 :: B2 42 1 p o x0.length u :: R)) ?_ ?_
 ·refine W.block ?_
  refine W.loop (fun m a w => ∃ f J n v x C D E q, f = m ∧ J + f = x0.length ∧ s.Le q ∧ G7.loop1 x0 y0 f J n v = some ar ∧ Sl 1 (RI .i64) q x C n ∧ (n = [] → x = none) ∧ Sl 3 A8 q D E v ∧ Rep a 34 [(1, .func (.func 64) #[] #[pp B]), (4, pp H), (6, pp I), (7, .slice x n.length C), (11, .slice p x0.length o), (12, vi ((x0.length : Nat) : Int)), (13, vi ((J : Nat) : Int))] ∧ St w q (pc I #[.slice D v.length E] 42 :: pc H #[.slice none 0 0] 42 :: pc B #[.slice i y0.Trains.length g, .slice j y0.Turns.length h] 25 :: B2 42 1 p o x0.length u :: R)) (m := x0.length) ⟨x0.length, 0, [], [], none, 0, none, 0, s, rfl, by omega, lr, d, Sl.nil, (fun _ => rfl), Sl.nil, b.pk, c⟩ ?_
  clear b c a w d; rintro aS a w ⟨f, J, n, v, x, C, D, E, q, rfl, aL, z, d, K, M, P, b, c⟩
  refine W.gen fun aT ag => ?_
  obtain ⟨k, l, F⟩ := m3 z k l F
  rcases f with _ | f
  ·skip
   refine sg [.s,.p,.e,.q] c b fun a b => ?_
   refine W.condF b rfl (decide_eq_false (by omega)) ?_
   subst ag
   refine W.exit rfl ?_
   exact ⟨n, v, x, C, D, E, q, z, oi d, K, M, P, b.pk, c⟩
  have aI : J < x0.length := by omega
  rw [G7.loop1] at d
  refine sg [.s,.p,.e,.q] c b fun a b => ?_
  refine W.condT b rfl (decide_eq_true (by omega)) ?_
  obtain ⟨ah, aM, aJ, ay, d⟩ := gxS d
  obtain ⟨aN, aO, az, aP, aG⟩ := F.at ay
  obtain ⟨ai, aj, rfl, ad⟩ := az
  refine sg [.k,.q,.o,.s,.y 3,.G 3] c b fun a b => ?_
  refine al b c a3B fun ak a w b c => ?_
  obtain ⟨au, aA, d⟩ := B4 d
  refine so [.A 0,.e,.s,.p,.B 0,.F 3] c b fun a w b c => ?_
  have Y := V5 (y0 := y0) c ad k l aA
  refine WL.fnw b (Y) rfl (A0 rfl) b2b rfl rfl rfl ?_
  clear b c Y; rintro e w ⟨av, aw, Z, rfl, S, ax, c⟩; refine ⟨_, rfl, ?_⟩; clear a; intro a b
  obtain ⟨K, ad, k, l⟩ := m4 S K ad k l
  obtain ⟨P, F⟩ := m2 S P F
  obtain ⟨_, aB, d⟩ := B4 d
  refine sl [.p,.e,.q] c b fun a b => ?_
  obtain ⟨aH, y, d⟩ := B4 d
  refine W.cut (fun a w => ∃ aa, aa = aH ∧ Rep a 34 [(1, .func (.func 64) #[] #[pp B]), (4, pp H), (6, pp I), (7, .slice x n.length C), (9, pp ak), (10, .slice av au.length aw), (11, .slice p x0.length o), (12, vi ((x0.length : Nat) : Int)), (13, vi ((J : Nat) : Int)), (27, .bool aa)] ∧ St w Z (pc B #[.slice i y0.Trains.length g, .slice j y0.Turns.length h] 25 :: pc ak #[.slice ai ah.Rides.length aj] 42 :: pc I #[.slice D v.length E] 42 :: pc H #[.slice none 0 0] 42 :: B2 42 1 p o x0.length u :: R)) ?_ ?_
  ·refine W.gen fun aQ ae => ?_
   refine sg [.r,.p] c b fun a b => ?_
   refine vP c b (A6.isNilZ b (a1l K M) rfl rfl a8C) rfl fun a b => ?_
   refine sl [.p] c b fun a b => ?_
   rcases b2o n.isEmpty with L | L
   ·replace y := iteT L y
    refine sl [.O,.O,.O,.O,.T,.e] c b fun a b => ?_
    subst ae
    exact ⟨true, oi y, b.pk, c⟩
   replace y := iteF L y
   refine sl [.p,.p] c b fun a b => ?_
   obtain ⟨aC, an, y⟩ := B4 y
   have Y := a0z c ax K an
   refine WL.fnq b (Y) (F9 b rfl rfl rfl L) b2k rfl rfl rfl ?_
   clear b c Y; rintro e w ⟨rfl, c⟩; refine ⟨_, rfl, ?_⟩; clear a; intro a b
   refine sl [.p,.N,.e] c b fun a b => ?_
   subst ae
   exact ⟨decide (aC < 0), oi y, b.pk, c⟩
  clear b c a w; rintro a w ⟨aa, rfl, b, c⟩
  obtain ⟨aD, A, d⟩ := R8 d
  refine W.cut (fun a w => ∃ G N O T U V, (G, N) = aD ∧ Sl 1 (RI .i64) Z O T G ∧ (G = [] → O = none) ∧ Sl 3 A8 Z U V N ∧ Rep a 34 [(1, .func (.func 64) #[] #[pp B]), (4, pp H), (6, pp I), (7, .slice O G.length T), (11, .slice p x0.length o), (12, vi ((x0.length : Nat) : Int)), (13, vi ((J : Nat) : Int))] ∧ St w Z (pc B #[.slice i y0.Trains.length g, .slice j y0.Turns.length h] 25 :: pc ak #[.slice ai ah.Rides.length aj] 42 :: pc I #[.slice U N.length V] 42 :: pc H #[.slice none 0 0] 42 :: B2 42 1 p o x0.length u :: R)) ?_ ?_
  ·refine W.gen fun aR af => ?_
   refine W.cond b rfl (fun X => ?_) (fun X => ?_)
   ·replace A := iteT X A
    refine sm [.r,.B 1,.p,.A 2,.p,.e] c b fun a w b c => ?_
    subst af
    exact ⟨au, ah.Rides, av, aw, ai, aj, A, ax, (a5s aB), ad, b.pk, c⟩
   replace A := iteF X A
   refine W.skip ?_
   subst af
   exact ⟨n, v, x, C, D, E, A, K, M, P, b.pk, c⟩
  clear b c a w; rintro a w ⟨G, N, O, T, U, V, rfl, aE, ap, aF, b, c⟩
  dsimp only at d
  refine sm [.r,.i,.p,.e,.D 1,.F 3,.F 1,.F 3,.F 3] c b fun a w b c => ?_
  subst ag
  exact ⟨f, b2p _, f, J + 1, G, N, O, T, U, V, Z, rfl, (by omega), (Sg.Le.trans z S), d, aE, ap, aF, b.pk, c⟩
 clear b c a w; rintro a w ⟨n, v, x, C, D, E, q, z, rfl, K, M, P, b, c⟩
 dsimp only at hr
 obtain ⟨k, l, F⟩ := m3 z k l F
 refine sg [.s,.B 0,.p] c b fun a b => ?_
 refine vP c b (A6.notNilZ b (a1l K M) rfl rfl a8C) rfl fun a b => ?_
 refine so [.A 1,.p,.e] c b fun a w b c => ?_
 refine W.ret ?_
 refine a0b (fn := Tryz.f63) (rs := [.cell 4 42, .tmp 5]) (vs := [_, _]) b rfl ⟨⟨_, rfl, .inl ⟨_, rfl, c.seesAt 1 rfl, a2W⟩⟩, rfl, trivial⟩ ?_
 obtain rfl := oi hr
 replace c := pm [.D 0,.D 0] c
 exact ⟨_, q, rfl, z, ⟨_, _, rfl, P⟩, c⟩
set_option maxHeartbeats 8000000 in
theorem T8 {fu x y : Nat}  {w : World} {x0 : B0} {z A : Option Addr} {x1 x2 x3 x4 : Int} (c : St w s (R)) (l : Sl 4 A7 s z x x0.Trains) (n : Sl 1 (RL 1 (RI .i64)) s A y x0.Turns) {r : A3 × Int} (k : H6 fu x0 x1 x2 x3 x4 = some r) :
  Calls b2n 29 [.agg (List.toArray [.slice z x0.Trains.length x, .slice A x0.Turns.length y]), vi x1, vi x2, vi x3, vi x4].toArray w (fun e w => ∃ (ah : List Value) (t : Sg), e = .returned (.tuple #[.agg ah.toArray, vi r.2]) ∧ s.Le t ∧ D9 t ah r.1 ∧ St w t (R)) := by
 refine enter Tryz.func29 rfl rfl rfl fun a b => ?_
 rw [H6] at k
 refine sg [.s] c b fun a b => ?_
 refine bw b c fun B a w b c => ?_
 refine al b c a3B fun F a w b c => ?_
 refine sl [.p,.e,.q,.s,.p,.p,.p,.p] c b fun a b => ?_
 refine fq b (Z3 c  rfl (r := K1 x4 x1 x3 x2 true true)) ?_; rintro _ w ⟨rfl, c⟩; refine ⟨_, rfl, fun a b => ?_⟩
 refine sl [.p,.e,.s,.p,.p,.e] c b fun a b => ?_
 refine W.cond b rfl (fun Q => ?_) (fun Q => ?_)
 ·replace k := iteT Q k
  refine sg [.s] c b fun a b => ?_
  refine vP c b (A6.build b (vs := []) [.slice none 0 0] rfl (by kernel_rfl)) rfl fun a b => ?_
  refine so [.p,.A 0,.p,.e] c b fun a w b c => ?_
  refine W.ret ?_
  refine a0b (fn := Tryz.f29) (rs := [.cell 10 42, .tmp 11]) (vs := [_, _]) b rfl ⟨⟨_, rfl, .inl ⟨_, rfl, c.seesAt 0 rfl, a2W⟩⟩, rfl, trivial⟩ ?_
  obtain rfl := oi k
  replace c := pm [.D 0,.D 0] c
  exact ⟨_, s, rfl, lr, ⟨_, _, rfl, Sl.nil⟩, c⟩
 replace k := iteF Q k
 refine sg [.k,.s] c b fun a b => ?_
 replace c := c.vecNil 42 1
 refine sl [.p,.e,.q,.s,.B 2,.p,.p,.p] c b fun a b => ?_
 obtain ⟨h, ak, k⟩ := B4 k
 refine fq b (a1E c l n ak) ?_; rintro _ w ⟨N, O, aP, S, G, rfl, H, X, rfl, c⟩; refine ⟨_, rfl, fun a b => ?_⟩
 obtain ⟨l, n⟩ := m2 H l n
 refine sl [.l 42 1,.p,.e] c b fun a b => ?_
 have aD : h.length ≤ 9223372036854775807 := by have := c.vecCap 0 rfl; unfold maxLen at this; omega
 obtain ⟨ai, f, k⟩ := B4 k
 refine W.cut (fun a w => ∃ i o p q j, i = ai ∧ Ev 1 D9 G j i ∧ i.length = q ∧ Rep a 57 [(5, pp B), (10, pp F), (13, .slice o q p)] ∧ St w G (B2 42 1 N O h.length S :: B2 42 1 o p q j :: pc F #[.slice none 0 0] 42 :: pc B #[.slice z x0.Trains.length x, .slice A x0.Turns.length y] 25 :: R)) ?_ ?_
 ·refine W.block ?_
  refine W.loop (fun m a w => ∃ d C i o p q j, d = m ∧ C + d = h.length ∧ H6.loop1 x0 x2 h d C i = some ai ∧ Ev 1 D9 G j i ∧ i.length = q ∧ Rep a 57 [(2, vi x2), (5, pp B), (10, pp F), (13, .slice o q p), (31, .slice N h.length O), (32, vi ((h.length : Nat) : Int)), (33, vi ((C : Nat) : Int))] ∧ St w G (B2 42 1 N O h.length S :: B2 42 1 o p q j :: pc F #[.slice none 0 0] 42 :: pc B #[.slice z x0.Trains.length x, .slice A x0.Turns.length y] 25 :: R)) (m := h.length) ⟨h.length, 0, [], none, 0, 0, [], rfl, by omega, f, (Ev.nil), (rfl), b.pk, c⟩ ?_
  clear b c a w f; rintro aQ a w ⟨d, C, i, o, p, q, j, rfl, aE, f, D, rfl, b, c⟩
  refine W.gen fun aR Y => ?_
  rcases d with _ | d
  ·skip
   refine sg [.s,.p,.e,.q] c b fun a b => ?_
   refine W.condF b rfl (decide_eq_false (by omega)) ?_
   subst Y
   refine W.exit rfl ?_
   exact ⟨i, o, p, i.length, j, oi f, D, rfl, b.pk, c⟩
  have aA : C < h.length := by omega
  rw [H6.loop1] at f
  refine sg [.s,.p,.e,.q] c b fun a b => ?_
  refine W.condT b rfl (decide_eq_true (by omega)) ?_
  obtain ⟨P, aF, aB, am, f⟩ := gxS f
  obtain ⟨aG, aH, an, aI, ay⟩ := X.at am
  obtain ⟨T, U, rfl, aj⟩ := an
  refine sg [.k,.q,.o,.s,.y 0,.G 0] c b fun a b => ?_
  refine al b c a3B fun az a w b c => ?_
  refine so [.A 0,.e,.s,.B 4,.B 0] c b fun a w b c => ?_
  obtain ⟨aS, ad, f⟩ := B4 f
  refine fq b (P9 c l n aj ad) ?_; rintro _ w ⟨rfl, c⟩; refine ⟨_, rfl, fun a b => ?_⟩
  refine sl [.p,.p,.e] c b fun a b => ?_
  obtain ⟨ap, g, f⟩ := B4 f
  refine W.cut (fun a w => ∃ u I J K v, u = ap ∧ Ev 1 D9 G v u ∧ u.length = K ∧ Rep a 57 [(2, vi x2), (5, pp B), (10, pp F), (13, .slice I K J), (31, .slice N h.length O), (32, vi ((h.length : Nat) : Int)), (33, vi ((C : Nat) : Int))] ∧ St w G (pc az #[.slice T P.Rides.length U] 42 :: B2 42 1 N O h.length S :: B2 42 1 I J K v :: pc F #[.slice none 0 0] 42 :: pc B #[.slice z x0.Trains.length x, .slice A x0.Turns.length y] 25 :: R)) ?_ ?_
  ·refine W.gen fun aJ V => ?_
   refine W.cond b rfl (fun L => ?_) (fun L => ?_)
   ·replace g := iteT L g
    refine sg [.r,.p,.B 0] c b fun a b => ?_
    refine WL.lit b c (e := 42) (es := 1) (vs := [(0, .agg (List.toArray [.slice T P.Rides.length U]))]) (cs := [.slice T P.Rides.length U]) (A0 rfl) rfl (by kernel_rfl) rfl fun aK a w b c => ?_
    obtain ⟨Z, ae, g⟩ := B4 g
    refine WL.appD b c 2 (m := 1) (A0 rfl) rfl rfl rfl b1g rfl D rfl (xs := [P]) (Ev.cons (c1 := [.slice T P.Rides.length U]) ⟨_, _, rfl, aj⟩ rfl (Ev.nil)) rfl rfl ae rfl fun aq ar af a w au b c => ?_
    refine sl [.p,.e] c b fun a b => ?_
    subst V
    exact ⟨Z, aq, ar, Z.length, af, oi g, au, (rfl), b.pk, c⟩
   replace g := iteF L g
   refine W.skip ?_
   subst V
   exact ⟨i, o, p, i.length, j, oi g, D, rfl, b.pk, c⟩
  clear b c a w; rintro a w ⟨u, I, J, K, v, rfl, av, rfl, b, c⟩
  refine sm [.r,.i,.p,.e,.D 0] c b fun a w b c => ?_
  subst Y
  exact ⟨d, b2p _, d, C + 1, u, I, J, u.length, v, rfl, (by omega), f, av, rfl, b.pk, c⟩
 clear b c a w; rintro a w ⟨i, o, p, q, j, rfl, D, rfl, b, c⟩
 refine sg [.s,.p] c b fun a b => ?_
 refine vP c b (A6.mkfn b (vs := [pp B]) rfl) rfl fun a b => ?_
 obtain ⟨aL, ag, k⟩ := B4 k
 replace c := pm [.F 1,.F 3] c
 refine fq b (a0w (y0 := x0) c D rfl l n ag) ?_; rintro _ w ⟨aC, aa, rfl, E, aw, c⟩; refine ⟨_, rfl, fun a b => ?_⟩
 obtain ⟨l, n, D, X⟩ := m4 E l n D X
 obtain ⟨aM, aN, rfl, ax⟩ := aw
 refine sl [.p,.p,.p] c b fun a b => ?_
 refine al b c a3B fun aO a w b c => ?_
 refine so [.A 0,.p,.e,.q,.s,.p,.p,.e] c b fun a w b c => ?_
 refine W.cond b rfl (fun M => ?_) (fun M => ?_)
 ·replace k := iteT M k
  refine sg [.s] c b fun a b => ?_
  refine vP c b (A6.build b (vs := []) [.slice none 0 0] rfl (by kernel_rfl)) rfl fun a b => ?_
  refine so [.A 4,.p,.e] c b fun a w b c => ?_
  refine W.ret ?_
  refine a0b (fn := Tryz.f29) (rs := [.cell 10 42, .tmp 11]) (vs := [_, _]) b rfl ⟨⟨_, rfl, .inl ⟨_, rfl, c.seesAt 4 rfl, a2W⟩⟩, rfl, trivial⟩ ?_
  obtain rfl := oi k
  replace c := pm [.D 0,.D 0,.D 0,.D 0,.D 0] c
  exact ⟨_, aa, rfl, (Sg.Le.trans H E), ⟨_, _, rfl, Sl.nil⟩, c⟩
 replace k := iteF M k
 refine sm [.k,.s,.B 0,.A 4,.p,.e] c b fun a w b c => ?_
 refine W.ret ?_
 refine a0b (fn := Tryz.f29) (rs := [.cell 10 42, .tmp 11]) (vs := [_, _]) b rfl ⟨⟨_, rfl, .inl ⟨_, rfl, c.seesAt 4 rfl, a2W⟩⟩, rfl, trivial⟩ ?_
 obtain rfl := oi k
 replace c := pm [.D 0,.D 0,.D 0,.D 0,.D 0] c
 exact ⟨_, aa, rfl, (Sg.Le.trans H E), ⟨_, _, rfl, ax⟩, c⟩
set_option maxHeartbeats 8000000 in
theorem W9 {fu K m n q E u F : Nat}  {w : World} {x1 : Int} {y0 : F3} {o p v x : Option Addr} {z : a0o} {A : List Value} (c : St w s (pc K #[.slice o y0.Newest.Trains.length m, .slice p y0.Newest.Turns.length n, vi y0.Least, vi y0.Time, .slice v E q, .slice x F u] 39 :: M5 83 1 v q E z :: B2 50 5 x u F A :: R)) (f : Sl 4 A7 s o m y0.Newest.Trains) (g : Sl 1 (RL 1 (RI .i64)) s p n y0.Newest.Turns) (y : HEv 1 C9 s z y0.sold) (ad : y0.sold.length = E) (B : Ev 5 A5 s A y0.Told) (ae : y0.Told.length = F) {r : A3 × Int × Int} (k : L1 fu x1 y0 = some r) :
  Calls b2n 8 [pp K, vi x1].toArray w (fun e w => ∃ (ah : List Value) (t : Sg), e = .returned (.tuple #[.agg ah.toArray, vi r.2.1, vi r.2.2]) ∧ s.Le t ∧ D9 t ah r.1 ∧ St w t (pc K #[.slice o y0.Newest.Trains.length m, .slice p y0.Newest.Turns.length n, vi y0.Least, vi y0.Time, .slice v E q, .slice x F u] 39 :: M5 83 1 v q E z :: B2 50 5 x u F A :: R)) := by
 refine enter Tryz.func8 rfl rfl rfl fun a b => ?_
 rw [L1] at k
 subst ad
 subst ae
 refine sg [.s] c b fun a b => ?_
 refine al b c a3B fun U a w b c => ?_
 refine sl [.p,.p,.e,.q,.o,.q] c b fun a b => ?_
 obtain ⟨an, C, k⟩ := R8 k
 refine W.cut (fun a w => ∃ V, V = an ∧ Rep a 92 [(0, pp K), (1, vi x1), (4, pp U), (11, .bool V)] ∧ St w s (pc U #[.slice none 0 0] 42 :: pc K #[.slice o y0.Newest.Trains.length m, .slice p y0.Newest.Turns.length n, vi y0.Least, vi y0.Time, .slice v y0.sold.length q, .slice x y0.Told.length u] 39 :: M5 83 1 v q y0.sold.length z :: B2 50 5 x u y0.Told.length A :: R)) ?_ ?_
 ·refine W.gen fun ay X => ?_
  refine sg [.r,.p,.p,.p] c b fun a b => ?_
  rcases b2o (decide (x1 < 0)) with O | O
  ·replace C := iteT O C
   refine sl [.O,.O,.O,.O,.O,.O,.O,.T,.p,.e] c b fun a b => ?_
   subst X
   exact ⟨true, C, b.pk, c⟩
  replace C := iteF O C
  refine sl [.p,.p,.n,.f 4,.b 1,.l 83 1,.p,.N,.p,.e] c b fun a b => ?_
  subst X
  exact ⟨decide (x1 ≥ ((y0.sold.length : Nat) : Int)), C, b.pk, c⟩
 clear b c a w; rintro a w ⟨V, rfl, b, c⟩
 refine W.cond b rfl (fun P => ?_) (fun P => ?_)
 ·replace k := iteT P k
  refine sg [.s] c b fun a b => ?_
  refine vP c b (A6.build b (vs := []) [.slice none 0 0] rfl (by kernel_rfl)) rfl fun a b => ?_
  refine so [.A 0,.p,.p,.e] c b fun a w b c => ?_
  refine W.ret ?_
  refine a0b (fn := Tryz.f8) (rs := [.cell 4 42, .tmp 5, .tmp 6]) (vs := [_, _, _]) b rfl ⟨⟨_, rfl, .inl ⟨_, rfl, c.seesAt 0 rfl, a2W⟩⟩, rfl, rfl, trivial⟩ ?_
  obtain rfl := oi k
  replace c := c.tail
  exact ⟨_, s, rfl, lr, ⟨_, _, rfl, Sl.nil⟩, c⟩
 replace k := iteF P k
 refine sg [.s,.p,.n,.f 4,.b 1,.p] c b fun a b => ?_
 obtain ⟨ap, Y, af, aj, k⟩ := gxS k
 have L := (c.hotOpen 2 rfl).vecAok 0 rfl (by omega : (x1).toNat < y0.sold.length)
 refine vP c b (A6.idx b ((x1).toNat) rfl rfl a9I Y (by omega) L) rfl fun a b => ?_
 obtain ⟨az, D, ak⟩ := HEv.at y aj
 obtain ⟨aA, aB, aC, aD, aE, aF, au, aG, aH, aI, av, aJ, aK, aL, aw, ai, aq, aM, aN, rfl, aO, rfl, aP, rfl⟩ := ak
 subst aq
 refine vP c b (A6.load1 b rfl (fun w h => (St.hotSees h 2 rfl ai rfl).one (j := 0) rfl) a9q) rfl fun a b => ?_
 refine sl [.n,.f 0,.f 4] c b fun a b => ?_
 refine vP c b (A6.load1 b rfl (fun w h => (St.hotObjSees 2 h rfl D).one (j := 4) rfl) ty3) rfl fun a b => ?_
 refine sl [.p,.p,.e] c b fun a b => ?_
 refine W.cond b rfl (fun Q => ?_) (fun Q => ?_)
 ·replace k := iteT Q k
  refine sg [.s] c b fun a b => ?_
  refine vP c b (A6.build b (vs := []) [.slice none 0 0] rfl (by kernel_rfl)) rfl fun a b => ?_
  refine so [.A 0,.p,.p,.e] c b fun a w b c => ?_
  refine W.ret ?_
  refine a0b (fn := Tryz.f8) (rs := [.cell 4 42, .tmp 5, .tmp 6]) (vs := [_, _, _]) b rfl ⟨⟨_, rfl, .inl ⟨_, rfl, c.seesAt 0 rfl, a2W⟩⟩, rfl, rfl, trivial⟩ ?_
  obtain rfl := oi k
  replace c := c.tail
  exact ⟨_, s, rfl, lr, ⟨_, _, rfl, Sl.nil⟩, c⟩
 replace k := iteF Q k
 refine sg [.k,.s,.p,.n,.f 4,.b 1,.p] c b fun a b => ?_
 have ax := af
 have L := (c.hotOpen 2 rfl).vecAok 0 rfl (by omega : (x1).toNat < y0.sold.length)
 refine vP c b (A6.idx b ((x1).toNat) rfl rfl a9I Y (by omega) L) rfl fun a b => ?_
 refine vP c b (A6.load1 b rfl (fun w h => (St.hotSees h 2 rfl ai rfl).one (j := 0) rfl) a9q) rfl fun a b => ?_
 refine sl [.p,.e,.q,.q] c b fun a b => ?_
 refine rQ c mixed ?_
 refine sq [.p,.n,.f 9] b fun a b => ?_
 refine qP b (A6.load1 b rfl (fun w h => (St.hotObjSees 2 h rfl D).one (j := 9) rfl) ty3) rfl fun a b => ?_
 refine sq [.p,.n,.f 0,.f 1] b fun a b => ?_
 refine qP b (A6.load1 b rfl (fun w h => (St.hotObjSees 2 h rfl D).one (j := 1) rfl) ty3) rfl fun a b => ?_
 refine sq [.p] b fun a b => ?_
 refine QL.nil ?_; clear c w; intro w c
 refine W.cond b rfl (fun S => ?_) (fun S => ?_)
 ·replace k := iteT S k
  refine sg [.s] c b fun a b => ?_
  refine vP c b (A6.build b (vs := []) [.slice none 0 0] rfl (by kernel_rfl)) rfl fun a b => ?_
  refine so [.A 0,.p,.p,.e] c b fun a w b c => ?_
  refine W.ret ?_
  refine a0b (fn := Tryz.f8) (rs := [.cell 4 42, .tmp 5, .tmp 6]) (vs := [_, _, _]) b rfl ⟨⟨_, rfl, .inl ⟨_, rfl, c.seesAt 0 rfl, a2W⟩⟩, rfl, rfl, trivial⟩ ?_
  obtain rfl := oi k
  replace c := c.tail
  exact ⟨_, s, rfl, lr, ⟨_, _, rfl, Sl.nil⟩, c⟩
 replace k := iteF S k
 refine sg [.k,.q] c b fun a b => ?_
 refine rQ c mixed ?_
 refine sq [.p,.n,.f 10] b fun a b => ?_
 refine qP b (A6.load1 b rfl (fun w h => (St.hotObjSees 2 h rfl D).one (j := 10) rfl) ty3) rfl fun a b => ?_
 refine sq [.p,.n,.f 3,.b 1] b fun a b => ?_
 refine qP b (A6.max2 b rfl rfl) rfl fun a b => ?_
 refine sq [.p] b fun a b => ?_
 refine QL.nil ?_; clear c w; intro w c
 refine W.seq ?_
 refine W.gen fun ar am => ?_
 refine rE c [] [] [0, 1, 2, 3, 4, 5, 6, 7, 8, 9, 10, 11, 12, 13, 14, 15, 16, 17, 18, 19, 20, 21, 22, 23, 24] [0, 1, 2, 3, 4, 5, 6, 7, 8, 9, 10, 11, 12, 13, 14, 15, 16, 17, 18, 19, 20, 21, 22, 23, 24] mixed ?_
 replace c := c.drew
 refine sr [.P 0 .p,.T 1 true .n,.P 2 (.f 0),.T 3 true (.C 1 0 2),.P 4 .p,.T 5 true .n,.P 6 (.f 9)] b c c fun a b => ?_
 refine tT (i := 7) true rfl b rfl (by kernel_rfl) (A6.load1 b rfl (fun w h => (St.hotObjSees 2 h rfl D).one (j := 9) rfl) ty3) rfl c c fun a b => ?_
 refine sr [.P 8 .p,.P 9 .p,.T 10 true .n,.P 11 (.f 0),.P 12 (.f 1)] b c c fun a b => ?_
 refine tT (i := 13) true rfl b rfl (by kernel_rfl) (A6.load1 b rfl (fun w h => (St.hotObjSees 2 h rfl D).one (j := 1) rfl) ty3) rfl c c fun a b => ?_
 refine sr [.P 14 .p,.T 15 true .n,.P 16 (.f 2),.T 17 true (.b 1)] b c c fun a b => ?_
 obtain ⟨Z, aa, k⟩ := B4 k
 suffices key : ∀ l G H I (a : Act) (w : World), s.Le l → Sl 3 A8 l G H Z.1.Rides → Sl 4 A7 l o m y0.Newest.Trains → Sl 1 (RL 1 (RI .i64)) l p n y0.Newest.Turns → HEv 1 C9 l z y0.sold → Ev 5 A5 l A y0.Told → Rep a 92 [(4, pp U), (8, vi (mx ap.when y0.Time)), (9, pp I), (10, vi Z.2)] → St w l (pc I #[.slice G Z.1.Rides.length H] 42 :: pc U #[.slice none 0 0] 42 :: pc K #[.slice o y0.Newest.Trains.length m, .slice p y0.Newest.Turns.length n, vi y0.Least, vi y0.Time, .slice v y0.sold.length q, .slice x y0.Told.length u] 39 :: M5 83 1 v q y0.sold.length z :: B2 50 5 x u y0.Told.length A :: R) → ar.nor a w by
  refine Rg.many 18 [22] (by kernel_rfl) ⟨?_, ?_, trivial⟩
  ·refine bk 18 true true ?_
   refine fq b (T8 c f g aa) ?_; rintro _ w ⟨ag, l, rfl, d, T, c⟩; refine ⟨_, rfl, fun a b => ?_⟩
   obtain ⟨f, g, y, B⟩ := m4 d f g y B
   obtain ⟨G, H, rfl, J⟩ := T
   refine WL.nil ?_
   refine r3 (St.down d c) ?_
   refine sr [.P 19 .p,.P 20 .p,.P 21 .p] b (St.down d c) (St.down d c) fun a b => ?_
   refine ro 22 true true ?_
   refine al b c a3B fun I a w b c => ?_
   refine WL.nil ?_
   refine r3 (St.down d (c.tail)) ?_
   refine ro 23 true true ?_
   refine so [.A 0,.e] c b fun a w b c => ?_
   refine r3 (St.down d (c.tail)) ?_
   refine sr [.P 24 .p] b (St.down d (c.tail)) (St.down d (c.tail)) fun a b => ?_
   refine Rg.done (by kernel_rfl) ?_
   exact key _ _ _ _ _ _ d J f g y B b.pk c
  refine bk 22 true true ?_
  refine al b c a3B fun I a w b c => ?_
  refine WL.nil ?_
  refine r3 (c.tail) ?_
  refine ro 18 true true ?_
  refine fq b (T8 c f g aa) ?_; rintro _ w ⟨ag, l, rfl, d, T, c⟩; refine ⟨_, rfl, fun a b => ?_⟩
  obtain ⟨f, g, y, B⟩ := m4 d f g y B
  obtain ⟨G, H, rfl, J⟩ := T
  refine WL.nil ?_
  refine r3 (St.down d (c.tail)) ?_
  refine sr [.P 19 .p,.P 20 .p,.P 21 .p] b (St.down d (c.tail)) (St.down d (c.tail)) fun a b => ?_
  refine ro 23 true true ?_
  refine so [.A 0,.e] c b fun a w b c => ?_
  refine r3 (St.down d (c.tail)) ?_
  refine sr [.P 24 .p] b (St.down d (c.tail)) (St.down d (c.tail)) fun a b => ?_
  refine Rg.done (by kernel_rfl) ?_
  exact key _ _ _ _ _ _ d J f g y B b.pk c
 clear b c a w; intro l G H I a w N J f g y B b c
 subst am
 refine sg [.q,.s,.p,.p,.e] c b fun a b => ?_
 refine W.cond b rfl (fun M => ?_) (fun M => ?_)
 ·replace k := iteT M k
  refine sg [.s] c b fun a b => ?_
  refine vP c b (A6.build b (vs := []) [.slice none 0 0] rfl (by kernel_rfl)) rfl fun a b => ?_
  refine so [.A 1,.p,.p,.e] c b fun a w b c => ?_
  refine W.ret ?_
  refine a0b (fn := Tryz.f8) (rs := [.cell 4 42, .tmp 5, .tmp 6]) (vs := [_, _, _]) b rfl ⟨⟨_, rfl, .inl ⟨_, rfl, c.seesAt 1 rfl, a2W⟩⟩, rfl, rfl, trivial⟩ ?_
  obtain rfl := oi k
  replace c := pm [.D 0,.D 0] c
  exact ⟨_, l, rfl, N, ⟨_, _, rfl, Sl.nil⟩, c⟩
 replace k := iteF M k
 refine sm [.k,.s,.B 0,.p,.A 1,.p,.p,.e] c b fun a w b c => ?_
 refine W.ret ?_
 refine a0b (fn := Tryz.f8) (rs := [.cell 4 42, .tmp 5, .tmp 6]) (vs := [_, _, _]) b rfl ⟨⟨_, rfl, .inl ⟨_, rfl, c.seesAt 1 rfl, a2W⟩⟩, rfl, rfl, trivial⟩ ?_
 obtain rfl := oi k
 replace c := pm [.D 0,.D 0] c
 exact ⟨_, l, rfl, N, ⟨_, _, rfl, J⟩, c⟩
set_option maxHeartbeats 8000000 in
theorem R6 {w : World} {x0 : List A1} {t u : Option Addr} {v x : Nat} {x1 : List A1} (f : St w s (R)) (C : Sl 3 A8 s t v x0) (G : Sl 3 A8 s u x x1) {r : Bool} (g : F7 x0 x1 = some r) :
  Calls b2n 30 [.slice t x0.length v, .slice u x1.length x].toArray w (fun e w => e = .returned (.bool r) ∧ St w s (R)) := by
 refine enter Tryz.func30 rfl rfl rfl fun a b => ?_
 rw [F7] at g
 refine sg [.s,.p,.e,.q,.s,.p,.l 88 3,.p,.l 88 3,.p,.e] f b fun a b => ?_
 refine W.cond b rfl (fun l => ?_) (fun l => ?_)
 ·replace g := iteT l g
  refine sg [.s,.p,.e] f b fun a b => ?_
  refine W.ret ?_
  refine fg [_] b ?_
  obtain rfl := oi g
  exact ⟨rfl, f⟩
 replace g := iteF l g
 refine sg [.k,.q,.s,.p,.l 88 3,.p,.e] f b fun a b => ?_
 obtain ⟨q, c, g⟩ := B4 g
 refine W.cut (fun a w => (.next ()) = q ∧ Rep a 26 [] ∧ St w s (R)) ?_ ?_
 ·refine W.block ?_
  refine W.loop (fun m a w => ∃ d k, d.length = m ∧ x0.drop k = d ∧ F7.loop1 x1 d k = some q ∧ Rep a 26 [(0, .slice t x0.length v), (1, .slice u x1.length x), (12, vi ((x0).length : Int)), (13, vi ((k : Nat) : Int))] ∧ St w s (R)) (m := x0.length) ⟨x0, 0, rfl, rfl, c, b.pk, f⟩ ?_
  clear b f a w c; rintro M a w ⟨d, k, rfl, j, c, b, f⟩
  refine W.gen fun N n => ?_
  rcases d with _ | ⟨h, d⟩
  ·have p := E8 j
   refine sg [.s,.p,.e,.q] f b fun a b => ?_
   refine W.condF b rfl (decide_eq_false (by omega)) ?_
   subst n
   refine W.exit rfl ?_
   exact ⟨oi c, b.pk, f⟩
  obtain ⟨p, y, j⟩ := C3 j
  rw [F7.loop1] at c
  refine sg [.s,.p,.e,.q] f b fun a b => ?_
  refine W.condT b rfl (decide_eq_true (by omega)) ?_
  refine sg [.k,.q,.o,.s,.p,.p,.e,.q] f b fun a b => ?_
  refine rQ f mixed ?_
  obtain ⟨H, I, z, D⟩ := C.at y
  subst z
  obtain ⟨i, J, E, A, c⟩ := gxS c
  obtain ⟨K, L, B, F⟩ := G.at A
  subst B
  refine sq [.p,.p,.x 88,.h,.p,.p,.x 88,.h] b fun a b => ?_
  refine qP b (show A6 _ _ _ _ (Value.bool (!((h.Train == i.Train) && ((h.On == i.On) && (h.Off == i.Off))))) from A6.neS b [.i .i64, .i .i64, .i .i64] [.i .i64 h.Train, .i .i64 h.On, .i .i64 h.Off] [.i .i64 i.Train, .i .i64 i.On, .i .i64 i.Off] rfl rfl b2h rfl rfl rfl rfl) rfl fun a b => ?_
  refine QL.nil ?_; clear f w; intro w f
  refine W.cond b rfl (fun o => ?_) (fun o => ?_)
  ·replace c := iteT o c
   refine sg [.s,.p,.e] f b fun a b => ?_
   refine W.ret ?_
   subst n
   rw [← oi c] at g
   dsimp only at g
   refine fg [_] b ?_
   obtain rfl := oi g
   exact ⟨rfl, f⟩
  replace c := iteF o c
  have := C.small
  refine sg [.k,.r,.i,.p,.e] f b fun a b => ?_
  subst n
  exact ⟨d.length, b2p _, d, k + 1, rfl, j, c, b.pk, f⟩
 clear b f a w; rintro a w ⟨rfl, b, f⟩
 dsimp only at g
 refine sg [.s,.p,.e] f b fun a b => ?_
 refine W.ret ?_
 refine fg [_] b ?_
 obtain rfl := oi g
 exact ⟨rfl, f⟩
set_option maxHeartbeats 8000000 in
theorem Z6 {w : World} {x0 : A3} {d f : Option Addr} {g h : Nat} {x1 : A3} (c : St w s (R)) (j : Sl 3 A8 s d g x0.Rides) (k : Sl 3 A8 s f h x1.Rides) {r : Bool} (i : O4 x0 x1 = some r) :
  Calls b2n 9 [.agg (List.toArray [.slice d x0.Rides.length g]), .agg (List.toArray [.slice f x1.Rides.length h])].toArray w (fun e w => e = .returned (.bool r) ∧ St w s (R)) := by
 refine enter Tryz.func9 rfl rfl rfl fun a b => ?_
 rw [O4] at i
 refine sg [.s] c b fun a b => ?_
 refine bw b c fun m a w b c => ?_
 refine bw b c fun n a w b c => ?_
 refine sl [.p,.e,.s,.f 0,.b 1,.f 0,.b 0] c b fun a b => ?_
 obtain ⟨o, l, i⟩ := B4 i
 refine fq b (R6 c j k l) ?_; rintro _ w ⟨rfl, c⟩; refine ⟨_, rfl, fun a b => ?_⟩
 refine sl [.p,.e] c b fun a b => ?_
 refine W.ret ?_
 refine fg [_] b ?_
 obtain rfl := oi i
 replace c := pm [.D 0,.D 0] c
 exact ⟨rfl, c⟩
set_option maxHeartbeats 8000000 in
theorem a0f {w : World} {v x t d f l g : Nat} {x0 : B9} {y1 : A1} {h : List B1} {i j m : Option Addr} {k : List (List Int)} {n p : Int} {u : Value} {q : List A4} {o : List Value} (b : St w s (pc v #[pp t] 29 :: pc x #[vi y1.Train, vi y1.On, vi y1.Off] 88 :: pc t #[.slice i h.length d, .slice j k.length f, vi n, vi p, u, .slice m g l] 69 :: B2 50 5 m l g o :: R)) (y : Sl 4 A7 s i d h) (z : Sl 1 (RL 1 (RI .i64)) s j f k) (F : Ev 5 A5 s o q) (A : q.length = g) {r : Bool} (B : N0 x0 y1 h k n p q = some r) :
  Calls b2n 97 [.agg (B9.cells x0).toArray, pp v, pp x].toArray w (fun e w => e = .returned (.bool r) ∧ St w s (pc v #[pp t] 29 :: pc x #[vi y1.Train, vi y1.On, vi y1.Off] 88 :: pc t #[.slice i h.length d, .slice j k.length f, vi n, vi p, u, .slice m g l] 69 :: B2 50 5 m l g o :: R)) := by
 refine enter Tryz.func97 rfl rfl rfl fun a c => ?_
 rw [N0] at B
 subst A
 refine sg [.s] b c fun a c => ?_
 refine bw c b fun H a w c b => ?_
 refine sl [.p,.e,.q] b c fun a c => ?_
 refine W.gen fun I C => ?_
 refine rE b [] [] [0, 1, 2, 3, 4, 5, 6, 7, 8, 9, 10] [0, 1, 2, 3, 4, 5, 6, 7, 8, 9, 10] mixed ?_
 replace b := b.drew
 refine sr [.P 0 (.f 0),.T 1 true (.b 0),.T 2 true (.b 1),.T 3 true .n,.P 4 (.f 0),.T 5 true (.C 3 0 3),.T 6 true (.B 2)] c b b fun a c => ?_
 refine ro 7 true true ?_
 obtain ⟨J, D, B⟩ := B4 B
 refine fq c (I5 (x0 := (D7.mk (B0.mk h k) n)) b y z D) ?_; rintro _ w ⟨G, rfl, E, b⟩; refine ⟨_, rfl, fun a c => ?_⟩
 subst E
 refine WL.nil ?_
 refine r3 b ?_
 refine sr [.P 8 (.v 0 3),.P 9 .p,.P 10 .p] c b b fun a c => ?_
 refine Rg.done (by kernel_rfl) ?_
 subst C
 refine W.ret ?_
 refine fg [_] c ?_
 obtain rfl := oi B
 replace b := b.tail
 exact ⟨rfl, b⟩
set_option maxHeartbeats 8000000 in
theorem U2 {w : World} {z A v M g h i y : Nat} {x0 : List B9} {N j k l : Option Addr} {y1 : A1} {o : List B1} {p : List (List Int)} {t u r : Int} {x : Value} {n : List A4} {q : List Value} (f : St w s (pc z #[pp v] 29 :: pc A #[vi y1.Train, vi y1.On, vi y1.Off] 88 :: pc v #[.slice j o.length g, .slice k p.length h, vi t, vi u, x, .slice l y i] 69 :: B2 50 5 l i y q :: R)) (T : Sl 4 I9 s N M x0) (G : Sl 4 A7 s j g o) (H : Sl 1 (RL 1 (RI .i64)) s k h p) (O : Ev 5 A5 s q n) (I : n.length = y) (C : F4 x0 y1 o p t u n = some r) :
  Calls b2n 96 [.slice N x0.length M, .func (.func 97) #[] #[pp z, pp A]].toArray w (fun e w => e = .returned (vi r) ∧ St w s (pc z #[pp v] 29 :: pc A #[vi y1.Train, vi y1.On, vi y1.Off] 88 :: pc v #[.slice j o.length g, .slice k p.length h, vi t, vi u, x, .slice l y i] 69 :: B2 50 5 l i y q :: R)) := by
 refine enter Tryz.func96 rfl rfl rfl fun a b => ?_
 rw [F4] at C
 subst I
 refine sg [.s,.p,.e,.q,.s,.p,.l 75 4,.p,.e] f b fun a b => ?_
 obtain ⟨K, c, C⟩ := B4 C
 refine W.cut (fun a w => (.next ()) = K ∧ Rep a 19 [] ∧ St w s (pc z #[pp v] 29 :: pc A #[vi y1.Train, vi y1.On, vi y1.Off] 88 :: pc v #[.slice j o.length g, .slice k p.length h, vi t, vi u, x, .slice l n.length i] 69 :: B2 50 5 l i n.length q :: R)) ?_ ?_
 ·refine W.block ?_
  refine W.loop (fun m a w => ∃ d D, d.length = m ∧ x0.drop D = d ∧ F4.loop1 y1 o p t u n d D = some K ∧ Rep a 19 [(0, .slice N x0.length M), (1, .func (.func 97) #[] #[pp z, pp A]), (7, vi ((x0).length : Int)), (8, vi ((D : Nat) : Int))] ∧ St w s (pc z #[pp v] 29 :: pc A #[vi y1.Train, vi y1.On, vi y1.Off] 88 :: pc v #[.slice j o.length g, .slice k p.length h, vi t, vi u, x, .slice l n.length i] 69 :: B2 50 5 l i n.length q :: R)) (m := x0.length) ⟨x0, 0, rfl, rfl, c, b.pk, f⟩ ?_
  clear b f a w c; rintro Y a w ⟨d, D, rfl, B, c, b, f⟩
  refine W.gen fun Z E => ?_
  rcases d with _ | ⟨aa, d⟩
  ·have J := E8 B
   refine sg [.s,.p,.e,.q] f b fun a b => ?_
   refine W.condF b rfl (decide_eq_false (by omega)) ?_
   subst E
   refine W.exit rfl ?_
   exact ⟨oi c, b.pk, f⟩
  obtain ⟨J, P, B⟩ := C3 B
  rw [F4.loop1] at c
  refine sg [.s,.p,.e,.q] f b fun a b => ?_
  refine W.condT b rfl (decide_eq_true (by omega)) ?_
  obtain ⟨V, X, Q, U⟩ := T.at P
  subst Q
  refine sg [.k,.q,.o,.s,.p,.p,.e,.s,.p,.p,.p,.x 75,.h] f b fun a b => ?_
  obtain ⟨ad, S, c⟩ := B4 c
  have L := a0f (y1 := y1) f G H O (rfl) S
  refine WL.fnw b (L) rfl (A0 rfl) b1B rfl rfl rfl ?_
  clear b f L; rintro e w ⟨rfl, f⟩; refine ⟨_, rfl, ?_⟩; clear a; intro a b
  refine WL.nil ?_
  refine W.cond b rfl (fun F => ?_) (fun F => ?_)
  ·replace c := iteT F c
   refine sg [.s,.p,.p,.e] f b fun a b => ?_
   refine W.ret ?_
   subst E
   rw [← oi c] at C
   dsimp only at C
   refine fg [_] b ?_
   obtain rfl := oi C
   exact ⟨rfl, f⟩
  replace c := iteF F c
  have := T.small
  refine sg [.k,.r,.i,.p,.e] f b fun a b => ?_
  subst E
  exact ⟨d.length, b2p _, d, D + 1, rfl, B, c, b.pk, f⟩
 clear b f a w; rintro a w ⟨rfl, b, f⟩
 dsimp only at C
 refine sg [.s,.p,.e] f b fun a b => ?_
 refine W.ret ?_
 refine fg [_] b ?_
 obtain rfl := oi C
 exact ⟨rfl, f⟩
set_option maxHeartbeats 8000000 in
theorem a0e {w : World} {v x t d f l g : Nat} {x0 : B9} {y1 : A1} {h : List B1} {i j m : Option Addr} {k : List (List Int)} {n p : Int} {u : Value} {q : List A4} {o : List Value} (b : St w s (pc v #[pp t] 29 :: pc x #[vi y1.Train, vi y1.On, vi y1.Off] 88 :: pc t #[.slice i h.length d, .slice j k.length f, vi n, vi p, u, .slice m g l] 69 :: B2 50 5 m l g o :: R)) (y : Sl 4 A7 s i d h) (z : Sl 1 (RL 1 (RI .i64)) s j f k) (F : Ev 5 A5 s o q) (A : q.length = g) {r : Bool} (B : M9 x0 y1 h k n p q = some r) :
  Calls b2n 98 [.agg (B9.cells x0).toArray, pp v, pp x].toArray w (fun e w => e = .returned (.bool r) ∧ St w s (pc v #[pp t] 29 :: pc x #[vi y1.Train, vi y1.On, vi y1.Off] 88 :: pc t #[.slice i h.length d, .slice j k.length f, vi n, vi p, u, .slice m g l] 69 :: B2 50 5 m l g o :: R)) := by
 refine enter Tryz.func98 rfl rfl rfl fun a c => ?_
 rw [M9] at B
 subst A
 refine sg [.s] b c fun a c => ?_
 refine bw c b fun H a w c b => ?_
 refine sl [.p,.e,.q] b c fun a c => ?_
 refine W.gen fun I C => ?_
 refine rE b [] [] [0, 1, 2, 3, 4, 5, 6, 7, 8, 9, 10] [0, 1, 2, 3, 4, 5, 6, 7, 8, 9, 10] mixed ?_
 replace b := b.drew
 refine sr [.P 0 (.f 0),.T 1 true (.b 0),.T 2 true (.b 1),.T 3 true .n,.P 4 (.f 0),.T 5 true (.C 3 0 3),.T 6 true (.B 2)] c b b fun a c => ?_
 refine ro 7 true true ?_
 obtain ⟨J, D, B⟩ := B4 B
 refine fq c (J3 (x0 := (D7.mk (B0.mk h k) n)) b y z D) ?_; rintro _ w ⟨G, rfl, E, b⟩; refine ⟨_, rfl, fun a c => ?_⟩
 subst E
 refine WL.nil ?_
 refine r3 b ?_
 refine sr [.P 8 (.v 0 3),.P 9 .p,.P 10 .p] c b b fun a c => ?_
 refine Rg.done (by kernel_rfl) ?_
 subst C
 refine W.ret ?_
 refine fg [_] c ?_
 obtain rfl := oi B
 replace b := b.tail
 exact ⟨rfl, b⟩
set_option maxHeartbeats 8000000 in
theorem U1 {w : World} {z A v M g h i y : Nat} {x0 : List B9} {N j k l : Option Addr} {y1 : A1} {o : List B1} {p : List (List Int)} {t u r : Int} {x : Value} {n : List A4} {q : List Value} (f : St w s (pc z #[pp v] 29 :: pc A #[vi y1.Train, vi y1.On, vi y1.Off] 88 :: pc v #[.slice j o.length g, .slice k p.length h, vi t, vi u, x, .slice l y i] 69 :: B2 50 5 l i y q :: R)) (T : Sl 4 I9 s N M x0) (G : Sl 4 A7 s j g o) (H : Sl 1 (RL 1 (RI .i64)) s k h p) (O : Ev 5 A5 s q n) (I : n.length = y) (C : F5 x0 y1 o p t u n = some r) :
  Calls b2n 96 [.slice N x0.length M, .func (.func 98) #[] #[pp z, pp A]].toArray w (fun e w => e = .returned (vi r) ∧ St w s (pc z #[pp v] 29 :: pc A #[vi y1.Train, vi y1.On, vi y1.Off] 88 :: pc v #[.slice j o.length g, .slice k p.length h, vi t, vi u, x, .slice l y i] 69 :: B2 50 5 l i y q :: R)) := by
 refine enter Tryz.func96 rfl rfl rfl fun a b => ?_
 rw [F5] at C
 subst I
 refine sg [.s,.p,.e,.q,.s,.p,.l 75 4,.p,.e] f b fun a b => ?_
 obtain ⟨K, c, C⟩ := B4 C
 refine W.cut (fun a w => (.next ()) = K ∧ Rep a 19 [] ∧ St w s (pc z #[pp v] 29 :: pc A #[vi y1.Train, vi y1.On, vi y1.Off] 88 :: pc v #[.slice j o.length g, .slice k p.length h, vi t, vi u, x, .slice l n.length i] 69 :: B2 50 5 l i n.length q :: R)) ?_ ?_
 ·refine W.block ?_
  refine W.loop (fun m a w => ∃ d D, d.length = m ∧ x0.drop D = d ∧ F5.loop1 y1 o p t u n d D = some K ∧ Rep a 19 [(0, .slice N x0.length M), (1, .func (.func 98) #[] #[pp z, pp A]), (7, vi ((x0).length : Int)), (8, vi ((D : Nat) : Int))] ∧ St w s (pc z #[pp v] 29 :: pc A #[vi y1.Train, vi y1.On, vi y1.Off] 88 :: pc v #[.slice j o.length g, .slice k p.length h, vi t, vi u, x, .slice l n.length i] 69 :: B2 50 5 l i n.length q :: R)) (m := x0.length) ⟨x0, 0, rfl, rfl, c, b.pk, f⟩ ?_
  clear b f a w c; rintro Y a w ⟨d, D, rfl, B, c, b, f⟩
  refine W.gen fun Z E => ?_
  rcases d with _ | ⟨aa, d⟩
  ·have J := E8 B
   refine sg [.s,.p,.e,.q] f b fun a b => ?_
   refine W.condF b rfl (decide_eq_false (by omega)) ?_
   subst E
   refine W.exit rfl ?_
   exact ⟨oi c, b.pk, f⟩
  obtain ⟨J, P, B⟩ := C3 B
  rw [F5.loop1] at c
  refine sg [.s,.p,.e,.q] f b fun a b => ?_
  refine W.condT b rfl (decide_eq_true (by omega)) ?_
  obtain ⟨V, X, Q, U⟩ := T.at P
  subst Q
  refine sg [.k,.q,.o,.s,.p,.p,.e,.s,.p,.p,.p,.x 75,.h] f b fun a b => ?_
  obtain ⟨ad, S, c⟩ := B4 c
  have L := a0e (y1 := y1) f G H O (rfl) S
  refine WL.fnw b (L) rfl (A0 rfl) b2f rfl rfl rfl ?_
  clear b f L; rintro e w ⟨rfl, f⟩; refine ⟨_, rfl, ?_⟩; clear a; intro a b
  refine WL.nil ?_
  refine W.cond b rfl (fun F => ?_) (fun F => ?_)
  ·replace c := iteT F c
   refine sg [.s,.p,.p,.e] f b fun a b => ?_
   refine W.ret ?_
   subst E
   rw [← oi c] at C
   dsimp only at C
   refine fg [_] b ?_
   obtain rfl := oi C
   exact ⟨rfl, f⟩
  replace c := iteF F c
  have := T.small
  refine sg [.k,.r,.i,.p,.e] f b fun a b => ?_
  subst E
  exact ⟨d.length, b2p _, d, D + 1, rfl, B, c, b.pk, f⟩
 clear b f a w; rintro a w ⟨rfl, b, f⟩
 dsimp only at C
 refine sg [.s,.p,.e] f b fun a b => ?_
 refine W.ret ?_
 refine fg [_] b ?_
 obtain rfl := oi C
 exact ⟨rfl, f⟩
set_option maxHeartbeats 8000000 in
theorem a0X {w : World} {F G H v f g n i : Nat} {x1 : B0} {I J j l o : Option Addr} {x2 : List (Int × Int)} {x3 : A1} {p : List B1} {q : List (List Int)} {x y : Int} {D : Value} {A : List A4} {t : List Value} (c : St w s (pc F #[.slice j p.length f, .slice l q.length g, vi x, vi y, D, .slice o i n] 69 :: L0 P2.f (Value.int .i64) v x2 :: B2 50 5 o n i t :: R)) (ad : Sl 4 A7 s I G x1.Trains) (_h1_1 : Sl 1 (RL 1 (RI .i64)) s J H x1.Turns) (m : Sl 4 A7 s j f p) (u : Sl 1 (RL 1 (RI .i64)) s l g q) (K : Ev 5 A5 s t A) (S : A.length = i) {r : A1 × Bool} (d : O9 x1 x2 x3 p q x y A = some r) :
  Calls b2n 87 [pp F, .agg (List.toArray [.slice I x1.Trains.length G, .slice J x1.Turns.length H]), .map (some v), .agg (A1.cells x3).toArray].toArray w (fun e w => ∃ (Y : List Value), e = .returned (.tuple #[.agg Y.toArray, .bool r.2]) ∧ A8 s Y r.1 ∧ St w s (pc F #[.slice j p.length f, .slice l q.length g, vi x, vi y, D, .slice o i n] 69 :: L0 P2.f (Value.int .i64) v x2 :: B2 50 5 o n i t :: R)) := by
 refine enter Tryz.func87 rfl rfl rfl fun a b => ?_
 rw [O9] at d
 subst S
 refine sg [.s] c b fun a b => ?_
 refine bw b c fun Z a w b c => ?_
 refine bw b c fun aE a w b c => ?_
 refine bw b c fun aa a w b c => ?_
 refine al b c a0Z fun aF a w b c => ?_
 refine sl [.p,.e,.q] c b fun a b => ?_
 refine rQ c mixed ?_
 obtain ⟨L, au, aq, ae, d⟩ := gxS d
 obtain ⟨av, aw, af, T⟩ := m.at ae
 obtain ⟨aG, aH, aI, aJ, rfl, aK, aL⟩ := af
 refine sq [.p,.b 3,.n,.f 0,.f 0,.f 0,.b 4,.f 0,.b 1,.x 72,.f 0] b fun a b => ?_
 refine qP b (A6.load1 b rfl (fun w h => (T w _ h).one rfl) ty3) rfl fun a b => ?_
 refine qP b (A6.mapGet2 P2 b 5 (k := L.No) (z := 0) rfl rfl rfl b0D zm3) rfl fun a b => ?_
 refine sq [.p,.p,.p,.p,.p] b fun a b => ?_
 refine QL.nil ?_; clear c w; intro w c
 refine sg [.q,.s,.p,.p,.e] c b fun a b => ?_
 refine W.cond b rfl (fun B => ?_) (fun B => ?_)
 ·replace d := iteT B d
  refine sg [.s] c b fun a b => ?_
  refine vP c b (A6.build b (vs := []) [vi 0, vi 0, vi 0] rfl (by kernel_rfl)) rfl fun a b => ?_
  refine so [.A 0,.p,.e] c b fun a w b c => ?_
  refine W.ret ?_
  refine a0b (fn := Tryz.f87) (rs := [.cell 8 88, .tmp 9]) (vs := [_, _]) b rfl ⟨⟨_, rfl, .inl ⟨_, rfl, c.seesAt 0 rfl, a4Z⟩⟩, rfl, trivial⟩ ?_
  obtain rfl := oi d
  replace c := pm [.D 0,.D 0,.D 0,.D 0] c
  exact ⟨_, rfl, rfl, c⟩
 replace d := iteF B d
 obtain ⟨aM, ax, ar, ag, d⟩ := gxS d
 obtain ⟨ay, az, ah, U⟩ := ad.at ag
 obtain ⟨aN, aO, aP, aQ, rfl, M, aR⟩ := ah
 refine sg [.k,.s,.f 0,.b 2,.p,.x 72,.f 2] c b fun a b => ?_
 refine vP c b (A6.load1 b rfl (fun w h => (U w _ h).one rfl) a3P) rfl fun a b => ?_
 refine sl [.p,.e,.s,.p,.p,.l 75 4,.p] c b fun a b => ?_
 obtain ⟨aS, N, d⟩ := B4 d
 obtain ⟨aT, aU, V, am⟩ := M.cut N
 obtain ⟨aV, an, ap, _⟩ := Q9 N
 refine vP c b (A6.slH b a9K rfl rfl an (Int.le_trans ap (by have := M.len; omega)) V) rfl fun a b => ?_
 refine vP c b (A6.mkfn b (vs := [pp Z, pp aa]) rfl) rfl fun a b => ?_
 obtain ⟨E, ai, d⟩ := B4 d
 replace c := pm [.F 6,.F 5,.F 3,.F 5] c
 refine fq b (U2 (y1 := x3) c am m u K (rfl) ai) ?_; rintro _ w ⟨rfl, c⟩; refine ⟨_, rfl, fun a b => ?_⟩
 refine sl [.p,.e,.q,.s,.p,.p,.e] c b fun a b => ?_
 refine W.cond b rfl (fun C => ?_) (fun C => ?_)
 ·replace d := iteT C d
  refine sg [.s] c b fun a b => ?_
  refine vP c b (A6.build b (vs := []) [vi 0, vi 0, vi 0] rfl (by kernel_rfl)) rfl fun a b => ?_
  refine so [.A 4,.p,.e] c b fun a w b c => ?_
  refine W.ret ?_
  refine a0b (fn := Tryz.f87) (rs := [.cell 8 88, .tmp 9]) (vs := [_, _]) b rfl ⟨⟨_, rfl, .inl ⟨_, rfl, c.seesAt 4 rfl, a4Z⟩⟩, rfl, trivial⟩ ?_
  obtain rfl := oi d
  replace c := pm [.F 3,.F 6,.F 4,.D 3,.D 3,.D 3,.D 3] c
  exact ⟨_, rfl, rfl, c⟩
 replace d := iteF C d
 refine sg [.k,.s,.p,.p,.p] c b fun a b => ?_
 obtain ⟨aW, O, d⟩ := B4 d
 obtain ⟨aA, aB, P, aj⟩ := M.cut O
 obtain ⟨ak, aC, aD, _⟩ := Q9 O
 refine vP c b (A6.slL b a9K rfl rfl ak (by omega) (by simpa using P)) rfl fun a b => ?_
 refine vP c b (A6.mkfn b (vs := [pp Z, pp aa]) rfl) rfl fun a b => ?_
 obtain ⟨Q, X, d⟩ := B4 d
 refine fq b (U1 (y1 := x3) c aj m u K (rfl) X) ?_; rintro _ w ⟨rfl, c⟩; refine ⟨_, rfl, fun a b => ?_⟩
 refine sl [.p,.e,.s,.p,.p,.p,.p,.p,.p] c b fun a b => ?_
 refine vP c b (A6.build b (vs := [(0, vi ((O2 x2 L.No).getD 0)), (1, vi E), (2, vi (w64 ((w64 (E + 1)) + Q)))]) [vi ((O2 x2 L.No).getD 0), vi E, vi (w64 ((w64 (E + 1)) + Q))] rfl (by kernel_rfl)) rfl fun a b => ?_
 refine so [.p,.p,.A 4,.p,.e] c b fun a w b c => ?_
 refine W.ret ?_
 refine a0b (fn := Tryz.f87) (rs := [.cell 8 88, .tmp 9]) (vs := [_, _]) b rfl ⟨⟨_, rfl, .inl ⟨_, rfl, c.seesAt 4 rfl, a4Z⟩⟩, rfl, trivial⟩ ?_
 obtain rfl := oi d
 replace c := pm [.F 3,.F 6,.F 4,.D 3,.D 3,.D 3,.D 3] c
 exact ⟨_, rfl, rfl, c⟩
set_option maxHeartbeats 8000000 in
theorem a0U {w : World} {Z aG aH aj ak K c4 D E n av h o aw p ax q ay : Nat} {Z1 : List Value → HP} {x2 : D7} {am an a4 F G t j u v x : Option Addr} {x3 : List (Int × Int)} {x4 : List Bool} {M : List B1} {N : List (List Int)} {U V aa ad ae af ag ah O : Int} {Y : Value} {y : List A4} {P Q S T : List Value} {g : List A1} {z : List Bool} {A : List Int} {H : List Int} (b : St w s (pc Z #[.slice F M.length D, .slice G N.length E, vi U, vi V, Y, .slice t av n] 69 :: Z1 [vi aa, vi ad, vi ae, vi af, vi ag, .slice j g.length h, .slice u aw o, .slice v ax p, .slice x ay q, vi ah, vi O] :: L0 P2.f (Value.int .i64) K x3 :: B2 50 5 t n av P :: B2 4 1 u o aw Q :: B2 3 1 v p ax S :: B2 3 1 x q ay T :: R)) (aK : Sl 4 A7 s am aj x2.Day.Trains) (aL : Sl 1 (RL 1 (RI .i64)) s an ak x2.Day.Turns) (h4 : Sl 1 RB s a4 c4 x4) (aT : Sl 4 A7 s F D M) (aU : Sl 1 (RL 1 (RI .i64)) s G E N) (bn : Ev 5 A5 s P y) (aX : y.length = av) (cr : a1D aG aH 11 Z1) (X : Sl 3 A8 s j h g) (aV : Ev 1 RB s Q z) (aY : z.length = aw) (bo : Ev 1 (RI .i64) s S A) (aZ : A.length = ax) (bT : Ev 1 (RI .i64) s T H) (a1 : H.length = ay) {r : (List A1) × Int × Int} (hr : H4 x2 x3 x4 M N U V y aa ad ae af ag g z A H ah O = some r) :
  Calls b2n 66 [pp Z, .pointer (some ⟨aG, aH, none⟩), .agg (List.toArray [.slice am x2.Day.Trains.length aj, .slice an x2.Day.Turns.length ak, vi x2.least]), .map (some K), .slice a4 x4.length c4].toArray w (fun e w => ∃ (a0 : Option Addr) (c0 n0 : Nat) (bh : List Value), e = .returned (.tuple #[.slice a0 n0 c0, vi r.2.1, vi r.2.2]) ∧ Ev 3 A8 s bh r.1 ∧ r.1.length = n0 ∧ St w s (B2 88 3 a0 c0 n0 bh :: pc Z #[.slice F M.length D, .slice G N.length E, vi U, vi V, Y, .slice t av n] 69 :: Z1 [vi aa, vi ad, vi ae, vi af, vi ag, .slice j g.length h, .slice u aw o, .slice v ax p, .slice x ay q, vi ah, vi O] :: L0 P2.f (Value.int .i64) K x3 :: B2 50 5 t n av P :: B2 4 1 u o aw Q :: B2 3 1 v p ax S :: B2 3 1 x q ay T :: R)) := by
 refine enter Tryz.func66 rfl rfl rfl fun a c => ?_
 rw [H4] at hr
 subst aX
 subst aY
 subst aZ
 subst a1
 refine sg [.s] b c fun a c => ?_
 refine bw c b fun az a w c b => ?_
 replace b := b.vecNil 88 3
 refine sl [.p,.p,.p,.e,.s,.p,.n,.f 0,.f 5,.f 0,.z 3 5] b c fun a c => ?_
 obtain ⟨bi, bp, hr⟩ := B4 hr
 refine fq c (G4 b X bp) ?_; rintro _ w ⟨bJ, bK, cs, bq, rfl, bL, rfl, b⟩; refine ⟨_, rfl, fun a c => ?_⟩
 refine so [.p,.e,.q,.s,.p,.n,.f 0,.f 5,.f 0,.z 4 5,.l 88 3,.p,.e,.D 1] b c fun a w c b => ?_
 obtain ⟨bj, d, hr⟩ := B4 hr
 refine W.cut (fun a w => ∃ k B C ai L, (.next k) = bj ∧ Ev 3 A8 s L k ∧ k.length = ai ∧ Rep a 108 [(10, .slice B ai C)] ∧ St w s (B2 88 3 B C ai L :: pc az #[.slice am x2.Day.Trains.length aj, .slice an x2.Day.Turns.length ak, vi x2.least] 66 :: pc Z #[.slice F M.length D, .slice G N.length E, vi U, vi V, Y, .slice t y.length n] 69 :: Z1 [vi aa, vi ad, vi ae, vi af, vi ag, .slice j g.length h, .slice u z.length o, .slice v A.length p, .slice x H.length q, vi ah, vi O] :: L0 P2.f (Value.int .i64) K x3 :: B2 50 5 t n y.length P :: B2 4 1 u o z.length Q :: B2 3 1 v p A.length S :: B2 3 1 x q H.length T :: R)) ?_ ?_
 ·refine W.block ?_
  refine W.loop (fun m a w => ∃ f I k B C ai L, f.length = m ∧ g.drop I = f ∧ H4.loop1 x2 x3 x4 M N U V y z A f I k = some bj ∧ Ev 3 A8 s L k ∧ k.length = ai ∧ Rep a 108 [(0, pp Z), (1, .pointer (some ⟨aG, aH, none⟩)), (3, .map (some K)), (4, .slice a4 x4.length c4), (7, pp az), (10, .slice B ai C), (30, .slice j g.length h), (31, vi ((g).length : Int)), (32, vi ((I : Nat) : Int))] ∧ St w s (B2 88 3 B C ai L :: pc az #[.slice am x2.Day.Trains.length aj, .slice an x2.Day.Turns.length ak, vi x2.least] 66 :: pc Z #[.slice F M.length D, .slice G N.length E, vi U, vi V, Y, .slice t y.length n] 69 :: Z1 [vi aa, vi ad, vi ae, vi af, vi ag, .slice j g.length h, .slice u z.length o, .slice v A.length p, .slice x H.length q, vi ah, vi O] :: L0 P2.f (Value.int .i64) K x3 :: B2 50 5 t n y.length P :: B2 4 1 u o z.length Q :: B2 3 1 v p A.length S :: B2 3 1 x q H.length T :: R)) (m := g.length) ⟨g, 0, bi, bJ, bK, bi.length, bq, rfl, rfl, d, bL, rfl, c.pk, b⟩ ?_
  clear c b a w d; rintro ct a w ⟨f, I, k, B, C, ai, L, rfl, ap, d, aI, rfl, c, b⟩
  refine W.gen fun cu aq => ?_
  rcases f with _ | ⟨bl, f⟩
  ·have a2 := E8 ap
   refine sg [.s,.p,.e,.q] b c fun a c => ?_
   refine W.condF c rfl (decide_eq_false (by omega)) ?_
   subst aq
   refine W.exit rfl ?_
   exact ⟨k, B, C, k.length, L, oi d, aI, rfl, c.pk, b⟩
  obtain ⟨a2, br, ap⟩ := C3 ap
  rw [H4.loop1] at d
  refine sg [.s,.p,.e,.q] b c fun a c => ?_
  refine W.condT c rfl (decide_eq_true (by omega)) ?_
  obtain ⟨cb, cc, bs, bU⟩ := X.at br
  subst bs
  refine sg [.k,.q,.o,.s,.p,.x 88,.h] b c fun a c => ?_
  refine al c b a0Z fun bm a w c b => ?_
  obtain ⟨cv, cd, bV, bt, d⟩ := gxS d
  obtain ⟨ce, cf, bu, cg, bM⟩ := aV.at bt
  subst bu
  refine so [.p,.A 0,.e,.q,.s,.p,.n,.f 6,.z 4 6,.p,.y 7,.g 7,.e] b c fun a w c b => ?_
  refine W.cond c rfl (fun aM => ?_) (fun aM => ?_)
  ·replace d := iteT aM d
   refine W.exit rfl ?_
   have := X.small
   refine sm [.r,.i,.p,.e,.D 0] b c fun a w c b => ?_
   subst aq
   exact ⟨f.length, b2p _, f, I + 1, k, B, C, k.length, L, rfl, ap, d, aI, rfl, c.pk, b⟩
  replace d := iteF aM d
  obtain ⟨aJ, bv, d⟩ := B4 d
  refine sm [.k,.s,.p,.f 0,.C 2 0 2,.p,.B 0,.F 6,.F 6,.F 5] b c fun a w c b => ?_
  refine fq c (a0X b aK aL aT aU bn (rfl) bv) ?_; rintro _ w ⟨ch, rfl, bN, b⟩; refine ⟨_, rfl, fun a c => ?_⟩
  subst bN
  refine sl [.p,.p,.p] b c fun a c => ?_
  refine al c b a0Z fun aA a w c b => ?_
  refine so [.A 0,.p,.e,.q,.s,.p,.p,.e] b c fun a w c b => ?_
  refine W.cond c rfl (fun aB => ?_) (fun aB => ?_)
  ·replace d := iteT aB d
   refine sg [.s,.p] b c fun a c => ?_
   replace b := b.vecNil 88 3
   refine sl [.p,.p,.p,.e] b c fun a c => ?_
   refine W.ret ?_
   subst aq
   rw [← oi d] at hr
   dsimp only at hr
   refine fg [_, _, _] c ?_
   obtain rfl := oi hr
   replace b := pm [.F 11,.F 11,.F 11,.F 7,.F 7,.F 11,.F 8,.F 7,.D 8,.D 8,.D 8,.D 8] b
   exact ⟨none, 0, 0, [], rfl, (Ev.nil), (rfl), b⟩
  replace d := iteF aB d
  obtain ⟨_, a3, d⟩ := B4 d
  obtain ⟨ci, cj⟩ := S9 a3
  refine sg [.k,.s,.p,.p,.B 0,.y 5] b c fun a c => ?_
  obtain ⟨aW, aQ, d⟩ := B4 d
  refine WL.setD c b 5 rfl (A0 rfl) rfl rfl (vs := [vi aJ.1.Train, vi aJ.1.On, vi aJ.1.Off]) rfl a4Z rfl rfl rfl aI rfl (S3 aQ).1 aQ rfl rfl fun ar a w aN au c b => ?_
  refine sl [.e,.q,.q] b c fun a c => ?_
  obtain ⟨bz, J, d⟩ := B4 d
  refine W.cut (fun a w => ∃ aO, aO = bz ∧ Rep a 108 [(0, pp Z), (1, .pointer (some ⟨aG, aH, none⟩)), (3, .map (some K)), (4, .slice a4 x4.length c4), (7, pp az), (10, .slice B k.length C), (13, vi ((I : Nat) : Int)), (15, pp aA), (30, .slice j g.length h), (31, vi ((g).length : Int)), (32, vi ((I : Nat) : Int)), (67, .bool aO)] ∧ St w s (pc aA (A1.cells aJ.1).toArray 88 :: pc Z #[.slice F M.length D, .slice G N.length E, vi U, vi V, Y, .slice t y.length n] 69 :: L0 P2.f (Value.int .i64) K x3 :: B2 50 5 t n y.length P :: pc bm (A1.cells bl).toArray 88 :: B2 88 3 B C k.length ar :: pc az #[.slice am x2.Day.Trains.length aj, .slice an x2.Day.Turns.length ak, vi x2.least] 66 :: Z1 [vi aa, vi ad, vi ae, vi af, vi ag, .slice j g.length h, .slice u z.length o, .slice v A.length p, .slice x H.length q, vi ah, vi O] :: B2 4 1 u o z.length Q :: B2 3 1 v p A.length S :: B2 3 1 x q H.length T :: R)) ?_ ?_
  ·refine W.gen fun ck aR => ?_
   obtain ⟨bA, bW, bO, a5, J⟩ := gxS J
   obtain ⟨bX, bY, a6, bP⟩ := h4.at a5
   subst a6
   refine sg [.r,.p,.p,.x 4,.H,.p] b c fun a c => ?_
   rcases b2o bA with aC | aC
   ·replace J := iteT aC J
    refine sl [.O,.O,.T,.e] b c fun a c => ?_
    subst aR
    exact ⟨true, oi J, c.pk, b⟩
   replace J := iteF aC J
   refine sl [.p,.p,.N,.e] b c fun a c => ?_
   subst aR
   exact ⟨(((I : Nat) : Int) == 0), oi J, c.pk, b⟩
  clear c b a w; rintro a w ⟨aO, rfl, c, b⟩
  refine W.cond c rfl (fun aD => ?_) (fun aD => ?_)
  ·replace d := iteT aD d
   refine W.exit rfl ?_
   have := X.small
   refine sm [.r,.i,.p,.e,.D 0,.D 3] b c fun a w c b => ?_
   replace b := b.order [3, 3, 0, 2, 0, 0, 0, 0, 0] rfl
   subst aq
   exact ⟨f.length, b2p _, f, I + 1, aW, B, C, k.length, ar, rfl, ap, d, aN, au, c.pk, b⟩
  replace d := iteF aD d
  obtain ⟨bB, bZ, bQ, a7, d⟩ := gxS d
  obtain ⟨b0, b1, a8, b2, bG⟩ := bo.at a7
  subst a8
  obtain ⟨cl, b3, bR, a9, d⟩ := gxS d
  obtain ⟨b4, b5, a_, b6, bH⟩ := aV.at a9
  subst a_
  refine sg [.k,.s,.p,.n,.f 7,.z 7 7,.p,.p,.y 9,.g 9,.p,.e,.q,.s,.p,.n,.f 6,.z 7 6,.p,.p,.y 8,.g 8,.p,.e] b c fun a c => ?_
  obtain ⟨bC, l, d⟩ := B4 d
  refine W.cut (fun a w => ∃ aP, aP = bC ∧ Rep a 108 [(0, pp Z), (1, .pointer (some ⟨aG, aH, none⟩)), (3, .map (some K)), (4, .slice a4 x4.length c4), (7, pp az), (10, .slice B k.length C), (13, vi ((I : Nat) : Int)), (15, pp aA), (17, vi aP), (30, .slice j g.length h), (31, vi ((g).length : Int)), (32, vi ((I : Nat) : Int))] ∧ St w s (pc aA (A1.cells aJ.1).toArray 88 :: pc Z #[.slice F M.length D, .slice G N.length E, vi U, vi V, Y, .slice t y.length n] 69 :: L0 P2.f (Value.int .i64) K x3 :: B2 50 5 t n y.length P :: pc bm (A1.cells bl).toArray 88 :: B2 88 3 B C k.length ar :: pc az #[.slice am x2.Day.Trains.length aj, .slice an x2.Day.Turns.length ak, vi x2.least] 66 :: Z1 [vi aa, vi ad, vi ae, vi af, vi ag, .slice j g.length h, .slice u z.length o, .slice v A.length p, .slice x H.length q, vi ah, vi O] :: B2 4 1 u o z.length Q :: B2 3 1 v p A.length S :: B2 3 1 x q H.length T :: R)) ?_ ?_
  ·refine W.gen fun cm aS => ?_
   refine W.cond c rfl (fun aE => ?_) (fun aE => ?_)
   ·replace l := iteT aE l
    refine W.gen fun cn ba => ?_
    refine rE b [] [] [0, 1, 2, 3, 4, 5, 6, 7, 8] [0, 1, 2, 3, 4, 5, 6, 7, 8] mixed ?_
    replace b := b.drew
    refine sr [.T 0 true (.B 6),.P 1 .p,.P 2 .p,.P 3 .p] c b b fun a c => ?_
    obtain ⟨co, bb, bS, bc, l⟩ := gxS l
    obtain ⟨b7, b8, bd, b9, bI⟩ := aN.at bc
    subst bd
    refine tP (i := 4) c rfl (by kernel_rfl) (A6.idx c ((w64 (((I : Nat) : Int) - 1)).toNat) rfl rfl a6s bb (by have := au; omega) (b.vecAok 5 rfl (by have := au; omega : (w64 (((I : Nat) : Int) - 1)).toNat < k.length))) rfl b b fun a c => ?_
    refine sr [.T 5 true (.G 5)] c b b fun a c => ?_
    refine ro 6 true true ?_
    obtain ⟨bD, be, l⟩ := B4 l
    refine fq c (J3 b aK aL be) ?_; rintro _ w ⟨b_, rfl, bE, b⟩; refine ⟨_, rfl, fun a c => ?_⟩
    subst bE
    refine WL.nil ?_
    refine r3 b ?_
    refine sr [.P 7 (.v 2 3),.P 8 .p] c b b fun a c => ?_
    refine Rg.done (by kernel_rfl) ?_
    subst ba
    subst aS
    exact ⟨bD.Arr, oi l, c.pk, b⟩
   replace l := iteF aE l
   refine W.skip ?_
   subst aS
   exact ⟨bB, oi l, c.pk, b⟩
  clear c b a w; rintro a w ⟨aP, rfl, c, b⟩
  refine W.seq ?_
  refine W.gen fun cp bf => ?_
  refine rE b [] [] [0, 1, 2, 3, 4, 5, 6, 7, 8, 9, 10, 11] [0, 1, 2, 3, 4, 5, 6, 7, 8, 9, 10, 11] mixed ?_
  replace b := b.drew
  refine sr [.T 0 true (.B 6),.T 1 true (.B 0),.P 4 .p,.P 5 .p,.T 6 true .n,.P 7 (.f 0),.P 8 (.f 2),.T 9 true (.b 1),.P 10 .p] c b b fun a c => ?_
  refine ro 2 true true ?_
  obtain ⟨cq, bg, d⟩ := B4 d
  refine fq c (I5 b aK aL bg) ?_; rintro _ w ⟨ca, rfl, bF, b⟩; refine ⟨_, rfl, fun a c => ?_⟩
  subst bF
  refine WL.nil ?_
  refine r3 b ?_
  refine sr [.P 3 (.v 3 3),.P 11 .p] c b b fun a c => ?_
  refine Rg.done (by kernel_rfl) ?_
  subst bf
  refine W.cond c rfl (fun aF => ?_) (fun aF => ?_)
  ·replace d := iteT aF d
   refine sg [.s,.p] b c fun a c => ?_
   replace b := b.vecNil 88 3
   refine sl [.p,.p,.p,.e] b c fun a c => ?_
   refine W.ret ?_
   subst aq
   rw [← oi d] at hr
   dsimp only at hr
   refine fg [_, _, _] c ?_
   obtain rfl := oi hr
   replace b := pm [.F 11,.F 11,.F 11,.F 7,.F 7,.F 11,.F 8,.F 7,.D 8,.D 8,.D 8,.D 8] b
   exact ⟨none, 0, 0, [], rfl, (Ev.nil), (rfl), b⟩
  replace d := iteF aF d
  have := X.small
  refine sm [.k,.r,.i,.p,.e,.D 0,.D 3] b c fun a w c b => ?_
  replace b := b.order [3, 3, 0, 2, 0, 0, 0, 0, 0] rfl
  subst aq
  exact ⟨f.length, b2p _, f, I + 1, aW, B, C, k.length, ar, rfl, ap, d, aN, au, c.pk, b⟩
 clear c b a w; rintro a w ⟨k, B, C, ai, L, rfl, aI, rfl, c, b⟩
 dsimp only at hr
 refine sg [.s,.p,.p,.p,.p,.e] b c fun a c => ?_
 refine W.ret ?_
 refine fg [_, _, _] c ?_
 obtain rfl := oi hr
 replace b := b.dropAt 1
 exact ⟨B, C, k.length, L, rfl, aI, rfl, b⟩
set_option maxHeartbeats 8000000 in
theorem a0G {w : World} {x0 : List Bool} {o : Option Addr} {p : Nat} {x1 : Bool} (f : St w s (R)) (u : Sl 1 RB s o p x0) {r : Int} (h : H7 x0 x1 = r) :
  Calls b2n 88 [.slice o x0.length p, .bool x1].toArray w (fun e w => e = .returned (vi r) ∧ St w s (R)) := by
 refine enter Tryz.func88 rfl rfl rfl fun a b => ?_
 rw [H7] at h
 refine sg [.s,.p,.e,.q,.s,.p,.l 4 1,.p,.e] f b fun a b => ?_
 obtain ⟨n, d, h⟩ := R8 h
 refine W.cut (fun a w => (.next ()) = n ∧ Rep a 19 [] ∧ St w s (R)) ?_ ?_
 ·refine W.block ?_
  refine W.loop (fun m a w => ∃ c i, c.length = m ∧ x0.drop i = c ∧ H7.loop1 x1 c i = n ∧ Rep a 19 [(0, .slice o x0.length p), (1, .bool x1), (7, vi ((x0).length : Int)), (8, vi ((i : Nat) : Int))] ∧ St w s (R)) (m := x0.length) ⟨x0, 0, rfl, rfl, d, b.pk, f⟩ ?_
  clear b f a w d; rintro z a w ⟨c, i, rfl, g, d, b, f⟩
  refine W.gen fun A j => ?_
  rcases c with _ | ⟨B, c⟩
  ·have l := E8 g
   refine sg [.s,.p,.e,.q] f b fun a b => ?_
   refine W.condF b rfl (decide_eq_false (by omega)) ?_
   subst j
   refine W.exit rfl ?_
   exact ⟨d, b.pk, f⟩
  obtain ⟨l, q, g⟩ := C3 g
  rw [H7.loop1] at d
  refine sg [.s,.p,.e,.q] f b fun a b => ?_
  refine W.condT b rfl (decide_eq_true (by omega)) ?_
  obtain ⟨x, y, t, v⟩ := u.at q
  subst t
  refine sg [.k,.q,.o,.s,.p,.p,.e,.s,.p,.p,.p,.x 4,.H] f b fun a b => ?_
  refine vP f b (A6.eqB b rfl rfl bl4) rfl fun a b => WL.nil ?_
  refine W.cond b rfl (fun k => ?_) (fun k => ?_)
  ·replace d := iteT k d
   refine sg [.s,.p,.p,.e] f b fun a b => ?_
   refine W.ret ?_
   subst j
   rw [← d] at h
   dsimp only at h
   refine fg [_] b ?_
   subst h
   exact ⟨rfl, f⟩
  replace d := iteF k d
  have := u.small
  refine sg [.k,.r,.i,.p,.e] f b fun a b => ?_
  subst j
  exact ⟨c.length, b2p _, c, i + 1, rfl, g, d, b.pk, f⟩
 clear b f a w; rintro a w ⟨rfl, b, f⟩
 dsimp only at h
 refine sg [.s,.p,.e] f b fun a b => ?_
 refine W.ret ?_
 refine fg [_] b ?_
 subst h
 exact ⟨rfl, f⟩
end Go.Proofs.YthllfhmpjclplaaGreatDoor
