/- The walks of the functions that GuideDesks reaches: each call comes to what its mirror says. The conditions are those of each contract. -/
import Derived.Test.YthllfhmpjclplaaGreatDoorGuideDesksW1
set_option maxRecDepth 10000
open Bool renaming eq_false_or_eq_true → b2o
open Nat renaming lt_succ_self → b2p
open List renaming nil_append → b3c, append_assoc → b2y
namespace Go.Proofs.YthllfhmpjclplaaGreatDoor
open Tryz renaming prog → b2n
open Go Go.Fp
variable {s : Sg} {R : List HP}
set_option maxHeartbeats 8000000 in
theorem a0B {w : World} {x0 : B0} {g n : Option Addr} {h o : Nat} (c : St w s (R)) (P : Sl 4 A7 s g h x0.Trains) (Q : Sl 1 (RL 1 (RI .i64)) s n o x0.Turns) {r : Int} (j : A9 x0 = some r) :
  Calls b2n 24 [.agg (List.toArray [.slice g x0.Trains.length h, .slice n x0.Turns.length o])].toArray w (fun e w => e = .returned (vi r) ∧ St w s (R)) := by
 refine enter Tryz.func24 rfl rfl rfl fun a b => ?_
 rw [A9] at j
 refine sg [.s] c b fun a b => ?_
 refine bw b c fun k a w b c => ?_
 refine sl [.p,.e,.q,.q] c b fun a b => ?_
 obtain ⟨a9, G, j⟩ := R8 j
 refine W.cut (fun a w => ∃ aB, aB = a9 ∧ Rep a 105 [(1, pp k), (24, .bool aB)] ∧ St w s (pc k #[.slice g x0.Trains.length h, .slice n x0.Turns.length o] 25 :: R)) ?_ ?_
 ·refine W.gen fun bW aC => ?_
  refine sg [.r,.f 0,.b 0,.l 72 4,.p,.p] c b fun a b => ?_
  rcases b2o (decide (((x0.Trains).length : Int) > 12)) with av | av
  ·replace G := iteT av G
   refine sl [.O,.O,.O,.O,.T,.e] c b fun a b => ?_
   subst aC
   exact ⟨true, G, b.pk, c⟩
  replace G := iteF av G
  refine sl [.f 1,.b 0,.l 28 1,.p,.N,.e] c b fun a b => ?_
  subst aC
  exact ⟨decide (((x0.Turns).length : Int) > 8), G, b.pk, c⟩
 clear b c a w; rintro a w ⟨aB, rfl, b, c⟩
 refine W.cond b rfl (fun aw => ?_) (fun aw => ?_)
 ·replace j := iteT aw j
  refine sg [.s,.p,.e] c b fun a b => ?_
  refine W.ret ?_
  refine fg [_] b ?_
  obtain rfl := oi j
  replace c := c.tail
  exact ⟨rfl, c⟩
 replace j := iteF aw j
 refine sg [.k,.q,.s,.f 0,.b 0,.l 72 4,.p,.e] c b fun a b => ?_
 obtain ⟨aZ, d, j⟩ := R8 j
 refine W.cut (fun a w => (.next ()) = aZ ∧ Rep a 105 [(1, pp k)] ∧ St w s (pc k #[.slice g x0.Trains.length h, .slice n x0.Turns.length o] 25 :: R)) ?_ ?_
 ·refine W.block ?_
  refine W.loop (fun m a w => ∃ z F, z.length = m ∧ x0.Trains.drop F = z ∧ A9.loop1 z = aZ ∧ Rep a 105 [(1, pp k), (26, .slice g x0.Trains.length h), (27, vi ((x0.Trains).length : Int)), (28, vi ((F : Nat) : Int))] ∧ St w s (pc k #[.slice g x0.Trains.length h, .slice n x0.Turns.length o] 25 :: R)) (m := x0.Trains.length) ⟨x0.Trains, 0, rfl, rfl, d, b.pk, c⟩ ?_
  clear b c a w d; rintro bX a w ⟨z, F, rfl, X, d, b, c⟩
  refine W.gen fun bY H => ?_
  rcases z with _ | ⟨f, z⟩
  ·have aN := E8 X
   refine sg [.s,.p,.e,.q] c b fun a b => ?_
   refine W.condF b rfl (decide_eq_false (by omega)) ?_
   subst H
   refine W.exit rfl ?_
   exact ⟨d, b.pk, c⟩
  obtain ⟨aN, a1, X⟩ := C3 X
  rw [A9.loop1] at d
  refine sg [.s,.p,.e,.q] c b fun a b => ?_
  refine W.condT b rfl (decide_eq_true (by omega)) ?_
  obtain ⟨bz, bA, a2, bg⟩ := P.at a1
  obtain ⟨ar, au, S, T, rfl, bZ, az⟩ := a2
  refine sg [.k,.q,.o,.s,.x 72,.h] c b fun a b => ?_
  refine al b c a5o fun J a w b c => ?_
  refine so [.A 0,.e,.q,.q] c b fun a w b c => ?_
  obtain ⟨a_, I, d⟩ := R8 d
  refine W.cut (fun a w => ∃ aD, aD = a_ ∧ Rep a 105 [(1, pp k), (4, pp J), (26, .slice g x0.Trains.length h), (27, vi ((x0.Trains).length : Int)), (28, vi ((F : Nat) : Int)), (45, .bool aD)] ∧ St w s (pc J #[vi f.No, vi f.Stock, .slice ar f.Stops.length au, .slice S f.Legs.length T] 72 :: pc k #[.slice g x0.Trains.length h, .slice n x0.Turns.length o] 25 :: R)) ?_ ?_
  ·refine W.gen fun b0 aE => ?_
   refine sg [.r,.f 2,.b 0,.l 75 4,.p,.p] c b fun a b => ?_
   rcases b2o (((f.Stops).length : Int) == 0) with ax | ax
   ·replace I := iteT ax I
    refine sl [.O,.O,.O,.O,.O,.O,.O,.O,.T,.e] c b fun a b => ?_
    subst aE
    exact ⟨true, I, b.pk, c⟩
   replace I := iteF ax I
   refine sl [.f 3,.b 0,.l 28 1,.f 2,.b 0,.l 75 4,.p,.p,.N,.e] c b fun a b => ?_
   subst aE
   exact ⟨(((f.Legs).length : Int) != (w64 (((f.Stops).length : Int) - 1))), I, b.pk, c⟩
  clear b c a w; rintro a w ⟨aD, rfl, b, c⟩
  refine W.cond b rfl (fun ay => ?_) (fun ay => ?_)
  ·replace d := iteT ay d
   refine sg [.s,.p,.e] c b fun a b => ?_
   refine W.ret ?_
   subst H
   rw [← d] at j
   dsimp only at j
   refine fg [_] b ?_
   obtain rfl := oi j
   replace c := pm [.D 0,.D 0] c
   exact ⟨rfl, c⟩
  replace d := iteF ay d
  refine sg [.k,.q,.s,.f 3,.b 0,.l 28 1,.p,.e] c b fun a b => ?_
  obtain ⟨a0, B, d⟩ := R8 d
  refine W.cut (fun a w => (.next ()) = a0 ∧ Rep a 105 [(1, pp k), (4, pp J), (26, .slice g x0.Trains.length h), (27, vi ((x0.Trains).length : Int)), (28, vi ((F : Nat) : Int))] ∧ St w s (pc J #[vi f.No, vi f.Stock, .slice ar f.Stops.length au, .slice S f.Legs.length T] 72 :: pc k #[.slice g x0.Trains.length h, .slice n x0.Turns.length o] 25 :: R)) ?_ ?_
  ·refine W.block ?_
   refine W.loop (fun m a w => ∃ A aA, A.length = m ∧ f.Legs.drop aA = A ∧ A9.loop2 A = a0 ∧ Rep a 105 [(1, pp k), (4, pp J), (26, .slice g x0.Trains.length h), (27, vi ((x0.Trains).length : Int)), (28, vi ((F : Nat) : Int)), (47, .slice S f.Legs.length T), (48, vi ((f.Legs).length : Int)), (49, vi ((aA : Nat) : Int))] ∧ St w s (pc J #[vi f.No, vi f.Stock, .slice ar f.Stops.length au, .slice S f.Legs.length T] 72 :: pc k #[.slice g x0.Trains.length h, .slice n x0.Turns.length o] 25 :: R)) (m := f.Legs.length) ⟨f.Legs, 0, rfl, rfl, B, b.pk, c⟩ ?_
   clear b c a w B; rintro b1 a w ⟨A, aA, rfl, Y, B, b, c⟩
   refine W.gen fun bB Z => ?_
   rcases A with _ | ⟨b2, A⟩
   ·have aO := E8 Y
    refine sg [.s,.p,.e,.q] c b fun a b => ?_
    refine W.condF b rfl (decide_eq_false (by omega)) ?_
    subst Z
    refine W.exit rfl ?_
    exact ⟨B, b.pk, c⟩
   obtain ⟨aO, a3, Y⟩ := C3 Y
   rw [A9.loop2] at B
   refine sg [.s,.p,.e,.q] c b fun a b => ?_
   refine W.condT b rfl (decide_eq_true (by omega)) ?_
   obtain ⟨bh, bi, aP, ba⟩ := az.at a3
   obtain ⟨bC, bD, rfl, bE⟩ := aP
   refine sg [.k,.q,.o,.s,.x 28,.H,.p,.e,.s,.p,.l 3 1,.p,.e] c b fun a b => ?_
   refine W.cond b rfl (fun aa => ?_) (fun aa => ?_)
   ·replace B := iteT aa B
    refine sg [.s,.p,.e] c b fun a b => ?_
    refine W.ret ?_
    subst Z
    subst H
    rw [← B] at d
    dsimp only at d
    rw [← d] at j
    dsimp only at j
    refine fg [_] b ?_
    obtain rfl := oi j
    replace c := pm [.D 0,.D 0] c
    exact ⟨rfl, c⟩
   replace B := iteF aa B
   have := az.small
   refine sg [.k,.r,.i,.p,.e] c b fun a b => ?_
   subst Z
   exact ⟨A.length, b2p _, A, aA + 1, rfl, Y, B, b.pk, c⟩
  clear b c a w; rintro a w ⟨rfl, b, c⟩
  dsimp only at d
  refine sg [.q,.s,.f 2,.b 0,.l 75 4,.p,.e] c b fun a b => ?_
  refine W.cond b rfl (fun ad => ?_) (fun ad => ?_)
  ·replace d := iteT ad d
   refine sg [.s,.p,.e] c b fun a b => ?_
   refine W.ret ?_
   subst H
   rw [← d] at j
   dsimp only at j
   refine fg [_] b ?_
   obtain rfl := oi j
   replace c := pm [.D 0,.D 0] c
   exact ⟨rfl, c⟩
  replace d := iteF ad d
  refine sg [.k,.s,.f 3,.b 0,.l 28 1,.p,.e] c b fun a b => ?_
  obtain ⟨aF, x, d⟩ := R8 d
  refine W.cut (fun a w => (.next ()) = aF ∧ Rep a 105 [(1, pp k), (26, .slice g x0.Trains.length h), (27, vi ((x0.Trains).length : Int)), (28, vi ((F : Nat) : Int))] ∧ St w s (pc J #[vi f.No, vi f.Stock, .slice ar f.Stops.length au, .slice S f.Legs.length T] 72 :: pc k #[.slice g x0.Trains.length h, .slice n x0.Turns.length o] 25 :: R)) ?_ ?_
  ·refine W.block ?_
   refine W.loop (fun m a w => ∃ q ae, q.length = m ∧ f.Legs.drop ae = q ∧ A9.loop3 q = aF ∧ Rep a 105 [(1, pp k), (26, .slice g x0.Trains.length h), (27, vi ((x0.Trains).length : Int)), (28, vi ((F : Nat) : Int)), (62, .slice S f.Legs.length T), (63, vi ((f.Legs).length : Int)), (64, vi ((ae : Nat) : Int))] ∧ St w s (pc J #[vi f.No, vi f.Stock, .slice ar f.Stops.length au, .slice S f.Legs.length T] 72 :: pc k #[.slice g x0.Trains.length h, .slice n x0.Turns.length o] 25 :: R)) (m := f.Legs.length) ⟨f.Legs, 0, rfl, rfl, x, b.pk, c⟩ ?_
   clear b c a w x; rintro bF a w ⟨q, ae, rfl, K, x, b, c⟩
   refine W.gen fun bG af => ?_
   rcases q with _ | ⟨bH, q⟩
   ·have aG := E8 K
    refine sg [.s,.p,.e,.q] c b fun a b => ?_
    refine W.condF b rfl (decide_eq_false (by omega)) ?_
    subst af
    refine W.exit rfl ?_
    exact ⟨x, b.pk, c⟩
   obtain ⟨aG, aQ, K⟩ := C3 K
   rw [A9.loop3] at x
   refine sg [.s,.p,.e,.q] c b fun a b => ?_
   refine W.condT b rfl (decide_eq_true (by omega)) ?_
   obtain ⟨bj, bl, aR, bb⟩ := az.at aQ
   obtain ⟨bI, bJ, rfl, bK⟩ := aR
   refine sg [.k,.q,.o,.s,.x 28,.H,.p,.e,.s,.p,.l 3 1,.p,.e] c b fun a b => ?_
   refine W.cond b rfl (fun ag => ?_) (fun ag => ?_)
   ·replace x := iteT ag x
    refine sg [.s,.p,.e] c b fun a b => ?_
    refine W.ret ?_
    subst af
    subst H
    rw [← x] at d
    dsimp only at d
    rw [← d] at j
    dsimp only at j
    refine fg [_] b ?_
    obtain rfl := oi j
    replace c := pm [.D 0,.D 0] c
    exact ⟨rfl, c⟩
   replace x := iteF ag x
   have := az.small
   refine sg [.k,.r,.i,.p,.e] c b fun a b => ?_
   subst af
   exact ⟨q.length, b2p _, q, ae + 1, rfl, K, x, b.pk, c⟩
  clear b c a w; rintro a w ⟨rfl, b, c⟩
  dsimp only at d
  have := P.small
  refine sm [.r,.i,.p,.e,.D 0] c b fun a w b c => ?_
  subst H
  exact ⟨z.length, b2p _, z, F + 1, rfl, X, d, b.pk, c⟩
 clear b c a w; rintro a w ⟨rfl, b, c⟩
 dsimp only at j
 refine sg [.q,.s,.f 1,.b 0,.l 28 1,.p,.e] c b fun a b => ?_
 obtain ⟨aH, i, j⟩ := R8 j
 refine W.cut (fun a w => (.next ()) = aH ∧ Rep a 105 [(1, pp k)] ∧ St w s (pc k #[.slice g x0.Trains.length h, .slice n x0.Turns.length o] 25 :: R)) ?_ ?_
 ·refine W.block ?_
  refine W.loop (fun m a w => ∃ t ah, t.length = m ∧ x0.Turns.drop ah = t ∧ A9.loop4 t = aH ∧ Rep a 105 [(1, pp k), (74, .slice n x0.Turns.length o), (75, vi ((x0.Turns).length : Int)), (76, vi ((ah : Nat) : Int))] ∧ St w s (pc k #[.slice g x0.Trains.length h, .slice n x0.Turns.length o] 25 :: R)) (m := x0.Turns.length) ⟨x0.Turns, 0, rfl, rfl, i, b.pk, c⟩ ?_
  clear b c a w i; rintro bL a w ⟨t, ah, rfl, L, i, b, c⟩
  refine W.gen fun bM M => ?_
  rcases t with _ | ⟨bN, t⟩
  ·have aI := E8 L
   refine sg [.s,.p,.e,.q] c b fun a b => ?_
   refine W.condF b rfl (decide_eq_false (by omega)) ?_
   subst M
   refine W.exit rfl ?_
   exact ⟨i, b.pk, c⟩
  obtain ⟨aI, aS, L⟩ := C3 L
  rw [A9.loop4] at i
  refine sg [.s,.p,.e,.q] c b fun a b => ?_
  refine W.condT b rfl (decide_eq_true (by omega)) ?_
  obtain ⟨bm, bn, aT, bc⟩ := Q.at aS
  obtain ⟨bO, bP, rfl, bQ⟩ := aT
  refine sg [.k,.q,.o,.s,.x 28,.H,.p,.e,.q,.s,.p,.l 3 1,.p,.e] c b fun a b => ?_
  refine W.cond b rfl (fun ai => ?_) (fun ai => ?_)
  ·replace i := iteT ai i
   refine sg [.s,.p,.e] c b fun a b => ?_
   refine W.ret ?_
   subst M
   rw [← i] at j
   dsimp only at j
   refine fg [_] b ?_
   obtain rfl := oi j
   replace c := c.tail
   exact ⟨rfl, c⟩
  replace i := iteF ai i
  refine sg [.k,.s,.p,.l 3 1,.p,.e] c b fun a b => ?_
  refine W.cond b rfl (fun aj => ?_) (fun aj => ?_)
  ·replace i := iteT aj i
   refine sg [.s,.p,.e] c b fun a b => ?_
   refine W.ret ?_
   subst M
   rw [← i] at j
   dsimp only at j
   refine fg [_] b ?_
   obtain rfl := oi j
   replace c := c.tail
   exact ⟨rfl, c⟩
  replace i := iteF aj i
  have := Q.small
  refine sg [.k,.r,.i,.p,.e] c b fun a b => ?_
  subst M
  exact ⟨t.length, b2p _, t, ah + 1, rfl, L, i, b.pk, c⟩
 clear b c a w; rintro a w ⟨rfl, b, c⟩
 dsimp only at j
 refine sg [.q,.s,.B 0] c b fun a b => ?_
 obtain ⟨p, aU, j⟩ := B4 j
 refine fq b (a0y c P Q aU) ?_; rintro _ w ⟨D, E, bR, N, ak, rfl, U, a4, rfl, c⟩; refine ⟨_, rfl, fun a b => ?_⟩
 obtain ⟨P, Q⟩ := m2 U P Q
 refine sl [.l 28 1,.p,.e] c b fun a b => ?_
 have bo : p.length ≤ 9223372036854775807 := by have := c.vecCap 0 rfl; unfold maxLen at this; omega
 obtain ⟨aJ, l, j⟩ := B4 j
 refine W.cut (fun a w => (.next ()) = aJ ∧ Rep a 105 [] ∧ St w ak (B2 28 1 D E p.length N :: pc k #[.slice g x0.Trains.length h, .slice n x0.Turns.length o] 25 :: R)) ?_ ?_
 ·refine W.block ?_
  refine W.loop (fun m a w => ∃ u C, u = m ∧ C + u = p.length ∧ A9.loop5 p u C = some aJ ∧ Rep a 105 [(88, .slice D p.length E), (89, vi ((p.length : Nat) : Int)), (90, vi ((C : Nat) : Int))] ∧ St w ak (B2 28 1 D E p.length N :: pc k #[.slice g x0.Trains.length h, .slice n x0.Turns.length o] 25 :: R)) (m := p.length) ⟨p.length, 0, rfl, by omega, l, b.pk, c⟩ ?_
  clear b c a w l; rintro bS a w ⟨u, C, rfl, bp, l, b, c⟩
  refine W.gen fun bT am => ?_
  rcases u with _ | u
  ·skip
   refine sg [.s,.p,.e,.q] c b fun a b => ?_
   refine W.condF b rfl (decide_eq_false (by omega)) ?_
   subst am
   refine W.exit rfl ?_
   exact ⟨oi l, b.pk, c⟩
  have bd : C < p.length := by omega
  rw [A9.loop5] at l
  refine sg [.s,.p,.e,.q] c b fun a b => ?_
  refine W.condT b rfl (decide_eq_true (by omega)) ?_
  obtain ⟨V, bq, be, aV, l⟩ := gxS l
  obtain ⟨br, bs, aW, bt, a8⟩ := a4.at aV
  obtain ⟨a5, a6, rfl, aK⟩ := aW
  refine sg [.k,.q,.o,.s,.y 0,.g 0,.p,.e,.s,.p,.l 3 1,.p,.e] c b fun a b => ?_
  obtain ⟨aL, y, l⟩ := R8 l
  refine W.cut (fun a w => (.next ()) = aL ∧ Rep a 105 [(88, .slice D p.length E), (89, vi ((p.length : Nat) : Int)), (90, vi ((C : Nat) : Int))] ∧ St w ak (B2 28 1 D E p.length N :: pc k #[.slice g x0.Trains.length h, .slice n x0.Turns.length o] 25 :: R)) ?_ ?_
  ·refine W.block ?_
   refine W.loop (fun m a w => ∃ v an, v.length = m ∧ V.drop an = v ∧ A9.loop6 v = aL ∧ Rep a 105 [(88, .slice D p.length E), (89, vi ((p.length : Nat) : Int)), (90, vi ((C : Nat) : Int)), (94, .slice a5 V.length a6), (95, vi ((V).length : Int)), (96, vi ((an : Nat) : Int))] ∧ St w ak (B2 28 1 D E p.length N :: pc k #[.slice g x0.Trains.length h, .slice n x0.Turns.length o] 25 :: R)) (m := V.length) ⟨V, 0, rfl, rfl, y, b.pk, c⟩ ?_
   clear b c a w y; rintro bU a w ⟨v, an, rfl, O, y, b, c⟩
   refine W.gen fun bV ap => ?_
   rcases v with _ | ⟨a7, v⟩
   ·have aM := E8 O
    refine sg [.s,.p,.e,.q] c b fun a b => ?_
    refine W.condF b rfl (decide_eq_false (by omega)) ?_
    subst ap
    refine W.exit rfl ?_
    exact ⟨y, b.pk, c⟩
   obtain ⟨aM, aX, O⟩ := C3 O
   rw [A9.loop6] at y
   refine sg [.s,.p,.e,.q] c b fun a b => ?_
   refine W.condT b rfl (decide_eq_true (by omega)) ?_
   obtain ⟨bu, bv, aY, bf⟩ := aK.at aX
   subst aY
   refine sg [.k,.q,.o,.s,.x 3,.H,.p,.e,.s,.p] c b fun a b => ?_
   refine fq b (I7 c  rfl (r := C6 a7 0 999999)) ?_; rintro _ w ⟨rfl, c⟩; refine ⟨_, rfl, fun a b => ?_⟩
   refine sl [.p,.e] c b fun a b => ?_
   refine W.cond b rfl (fun aq => ?_) (fun aq => ?_)
   ·replace y := iteT aq y
    refine sg [.s,.p,.e] c b fun a b => ?_
    refine W.ret ?_
    subst ap
    subst am
    rw [← y] at l
    dsimp only at l
    rw [← oi l] at j
    dsimp only at j
    refine fg [_] b ?_
    obtain rfl := oi j
    replace c := pm [.D 0,.D 0] c
    exact ⟨rfl, (c.down U)⟩
   replace y := iteF aq y
   have := aK.small
   refine sg [.k,.r,.i,.p,.e] c b fun a b => ?_
   subst ap
   exact ⟨v.length, b2p _, v, an + 1, rfl, O, y, b.pk, c⟩
  clear b c a w; rintro a w ⟨rfl, b, c⟩
  dsimp only at l
  refine sg [.r,.i,.p,.e] c b fun a b => ?_
  subst am
  exact ⟨u, b2p _, u, C + 1, rfl, (by omega), l, b.pk, c⟩
 clear b c a w; rintro a w ⟨rfl, b, c⟩
 dsimp only at j
 refine sg [.s,.p,.e] c b fun a b => ?_
 refine W.ret ?_
 refine fg [_] b ?_
 obtain rfl := oi j
 replace c := pm [.D 0,.D 0] c
 exact ⟨rfl, (c.down U)⟩
set_option maxHeartbeats 8000000 in
theorem P8 {w : World} {x0 : B0} {i x : Option Addr} {j y : Nat} (c : St w s (R)) (K : Sl 4 A7 s i j x0.Trains) (aC : Sl 1 (RL 1 (RI .i64)) s x y x0.Turns) {r : Int} (o : C0 x0 = some r) :
  Calls b2n 5 [.agg (List.toArray [.slice i x0.Trains.length j, .slice x x0.Turns.length y])].toArray w (fun e w => e = .returned (vi r) ∧ St w s (R)) := by
 refine enter Tryz.func5 rfl rfl rfl fun a b => ?_
 rw [C0] at o
 refine sg [.s] c b fun a b => ?_
 refine bw b c fun t a w b c => ?_
 refine sl [.p,.e,.q,.s,.B 0] c b fun a b => ?_
 obtain ⟨bb, aD, o⟩ := B4 o
 refine fq b (a0B c K aC aD) ?_; rintro _ w ⟨rfl, c⟩; refine ⟨_, rfl, fun a b => ?_⟩
 refine sl [.p,.e,.s,.p,.p,.e] c b fun a b => ?_
 refine W.cond b rfl (fun Z => ?_) (fun Z => ?_)
 ·replace o := iteT Z o
  refine sg [.s,.p,.p,.e] c b fun a b => ?_
  refine W.ret ?_
  refine fg [_] b ?_
  obtain rfl := oi o
  replace c := c.tail
  exact ⟨rfl, c⟩
 replace o := iteF Z o
 refine sg [.k,.q,.s,.f 0,.b 0,.l 72 4,.p,.e] c b fun a b => ?_
 obtain ⟨az, d, o⟩ := B4 o
 refine W.cut (fun a w => (.next ()) = az ∧ Rep a 93 [] ∧ St w s (pc t #[.slice i x0.Trains.length j, .slice x x0.Turns.length y] 25 :: R)) ?_ ?_
 ·refine W.block ?_
  refine W.loop (fun m a w => ∃ p A, p.length = m ∧ x0.Trains.drop A = p ∧ C0.loop1 x0 p A = some az ∧ Rep a 93 [(1, pp t), (16, .slice i x0.Trains.length j), (17, vi ((x0.Trains).length : Int)), (18, vi ((A : Nat) : Int))] ∧ St w s (pc t #[.slice i x0.Trains.length j, .slice x x0.Turns.length y] 25 :: R)) (m := x0.Trains.length) ⟨x0.Trains, 0, rfl, rfl, d, b.pk, c⟩ ?_
  clear b c a w d; rintro bc a w ⟨p, A, rfl, N, d, b, c⟩
  refine W.gen fun bd C => ?_
  rcases p with _ | ⟨f, p⟩
  ·have ap := E8 N
   refine sg [.s,.p,.e,.q] c b fun a b => ?_
   refine W.condF b rfl (decide_eq_false (by omega)) ?_
   subst C
   refine W.exit rfl ?_
   exact ⟨oi d, b.pk, c⟩
  obtain ⟨ap, aE, N⟩ := C3 N
  rw [C0.loop1] at d
  refine sg [.s,.p,.e,.q] c b fun a b => ?_
  refine W.condT b rfl (decide_eq_true (by omega)) ?_
  obtain ⟨aZ, a0, aF, aR⟩ := K.at aE
  obtain ⟨D, E, L, M, rfl, ai, be⟩ := aF
  refine sg [.k,.q,.o,.s,.p,.x 72,.h] c b fun a b => ?_
  refine al b c a5o fun B a w b c => ?_
  refine so [.p,.A 0,.e,.q,.s,.f 0,.b 0] c b fun a w b c => ?_
  refine fq b (I7 c  rfl (r := C6 f.No 1 9999)) ?_; rintro _ w ⟨rfl, c⟩; refine ⟨_, rfl, fun a b => ?_⟩
  refine sl [.p,.e] c b fun a b => ?_
  refine W.cond b rfl (fun aa => ?_) (fun aa => ?_)
  ·replace d := iteT aa d
   refine sg [.s,.p,.e] c b fun a b => ?_
   refine W.ret ?_
   subst C
   rw [← oi d] at o
   dsimp only at o
   refine fg [_] b ?_
   obtain rfl := oi o
   replace c := pm [.D 0,.D 0] c
   exact ⟨rfl, c⟩
  replace d := iteF aa d
  refine sg [.k,.q,.s,.f 0,.b 1,.p] c b fun a b => ?_
  obtain ⟨Y, aj, d⟩ := B4 d
  obtain ⟨aK, aL, aq, aA⟩ := K.cut aj
  obtain ⟨bf, aM, aN, _⟩ := Q9 aj
  refine vP c b (A6.slH b b1r rfl rfl aM (Int.le_trans aN (by have := K.len; omega)) aq) rfl fun a b => ?_
  refine sl [.l 72 4,.p,.e] c b fun a b => ?_
  obtain ⟨aB, u, d⟩ := R8 d
  refine W.cut (fun a w => (.next ()) = aB ∧ Rep a 93 [(1, pp t), (5, pp B), (16, .slice i x0.Trains.length j), (17, vi ((x0.Trains).length : Int)), (18, vi ((A : Nat) : Int))] ∧ St w s (pc B #[vi f.No, vi f.Stock, .slice D f.Stops.length E, .slice L f.Legs.length M] 72 :: pc t #[.slice i x0.Trains.length j, .slice x x0.Turns.length y] 25 :: R)) ?_ ?_
  ·refine W.block ?_
   refine W.loop (fun m a w => ∃ q ah, q.length = m ∧ Y.drop ah = q ∧ C0.loop2 f q = aB ∧ Rep a 93 [(1, pp t), (5, pp B), (16, .slice i x0.Trains.length j), (17, vi ((x0.Trains).length : Int)), (18, vi ((A : Nat) : Int)), (30, .slice aK Y.length aL), (31, vi ((Y).length : Int)), (32, vi ((ah : Nat) : Int))] ∧ St w s (pc B #[vi f.No, vi f.Stock, .slice D f.Stops.length E, .slice L f.Legs.length M] 72 :: pc t #[.slice i x0.Trains.length j, .slice x x0.Turns.length y] 25 :: R)) (m := Y.length) ⟨Y, 0, rfl, rfl, u, b.pk, c⟩ ?_
   clear b c a w u; rintro bg a w ⟨q, ah, rfl, O, u, b, c⟩
   refine W.gen fun bh ad => ?_
   rcases q with _ | ⟨bi, q⟩
   ·have ar := E8 O
    refine sg [.s,.p,.e,.q] c b fun a b => ?_
    refine W.condF b rfl (decide_eq_false (by omega)) ?_
    subst ad
    refine W.exit rfl ?_
    exact ⟨u, b.pk, c⟩
   obtain ⟨ar, aG, O⟩ := C3 O
   rw [C0.loop2] at u
   refine sg [.s,.p,.e,.q] c b fun a b => ?_
   refine W.condT b rfl (decide_eq_true (by omega)) ?_
   obtain ⟨aS, aT, au, aO⟩ := aA.at aG
   obtain ⟨a1, a2, a3, a4, rfl, a5, a6⟩ := au
   refine sg [.k,.q,.o,.s,.x 72,.h] c b fun a b => ?_
   refine al b c a5o fun a7 a w b c => ?_
   refine so [.A 0,.e,.s,.f 0,.b 0,.f 0,.b 1,.p,.e] c b fun a w b c => ?_
   refine W.cond b rfl (fun P => ?_) (fun P => ?_)
   ·replace u := iteT P u
    refine sg [.s,.p,.e] c b fun a b => ?_
    refine W.ret ?_
    subst ad
    subst C
    rw [← u] at d
    dsimp only at d
    rw [← oi d] at o
    dsimp only at o
    refine fg [_] b ?_
    obtain rfl := oi o
    replace c := pm [.D 0,.D 0,.D 0] c
    exact ⟨rfl, c⟩
   replace u := iteF P u
   have := aA.small
   refine sm [.k,.r,.i,.p,.e,.D 0] c b fun a w b c => ?_
   subst ad
   exact ⟨q.length, b2p _, q, ah + 1, rfl, O, u, b.pk, c⟩
  clear b c a w; rintro a w ⟨rfl, b, c⟩
  dsimp only at d
  refine sg [.q,.s,.f 2,.b 0,.l 75 4,.p,.e] c b fun a b => ?_
  refine W.cond b rfl (fun Q => ?_) (fun Q => ?_)
  ·replace d := iteT Q d
   refine sg [.s,.p,.e] c b fun a b => ?_
   refine W.ret ?_
   subst C
   rw [← oi d] at o
   dsimp only at o
   refine fg [_] b ?_
   obtain rfl := oi o
   replace c := pm [.D 0,.D 0] c
   exact ⟨rfl, c⟩
  replace d := iteF Q d
  refine sg [.k,.s,.f 2,.b 0,.l 75 4,.p,.e] c b fun a b => ?_
  obtain ⟨ak, g, d⟩ := B4 d
  refine W.cut (fun a w => (.next ()) = ak ∧ Rep a 93 [(1, pp t), (16, .slice i x0.Trains.length j), (17, vi ((x0.Trains).length : Int)), (18, vi ((A : Nat) : Int))] ∧ St w s (pc B #[vi f.No, vi f.Stock, .slice D f.Stops.length E, .slice L f.Legs.length M] 72 :: pc t #[.slice i x0.Trains.length j, .slice x x0.Turns.length y] 25 :: R)) ?_ ?_
  ·refine W.block ?_
   refine W.loop (fun m a w => ∃ l z, l.length = m ∧ f.Stops.drop z = l ∧ C0.loop3 f l z = some ak ∧ Rep a 93 [(1, pp t), (5, pp B), (16, .slice i x0.Trains.length j), (17, vi ((x0.Trains).length : Int)), (18, vi ((A : Nat) : Int)), (47, .slice D f.Stops.length E), (48, vi ((f.Stops).length : Int)), (49, vi ((z : Nat) : Int))] ∧ St w s (pc B #[vi f.No, vi f.Stock, .slice D f.Stops.length E, .slice L f.Legs.length M] 72 :: pc t #[.slice i x0.Trains.length j, .slice x x0.Turns.length y] 25 :: R)) (m := f.Stops.length) ⟨f.Stops, 0, rfl, rfl, g, b.pk, c⟩ ?_
   clear b c a w g; rintro a8 a w ⟨l, z, rfl, F, g, b, c⟩
   refine W.gen fun a9 G => ?_
   rcases l with _ | ⟨v, l⟩
   ·have am := E8 F
    refine sg [.s,.p,.e,.q] c b fun a b => ?_
    refine W.condF b rfl (decide_eq_false (by omega)) ?_
    subst G
    refine W.exit rfl ?_
    exact ⟨oi g, b.pk, c⟩
   obtain ⟨am, av, F⟩ := C3 F
   rw [C0.loop3] at g
   refine sg [.s,.p,.e,.q] c b fun a b => ?_
   refine W.condT b rfl (decide_eq_true (by omega)) ?_
   obtain ⟨aU, aV, aw, aP⟩ := ai.at av
   subst aw
   refine sg [.k,.q,.o,.s,.p,.x 75,.h] c b fun a b => ?_
   refine al b c a3O fun ae a w b c => ?_
   refine so [.p,.A 0,.e,.q,.q] c b fun a w b c => ?_
   obtain ⟨aH, n, g⟩ := R8 g
   refine W.cut (fun a w => ∃ af, af = aH ∧ Rep a 93 [(1, pp t), (5, pp B), (8, vi ((z : Nat) : Int)), (9, pp ae), (16, .slice i x0.Trains.length j), (17, vi ((x0.Trains).length : Int)), (18, vi ((A : Nat) : Int)), (47, .slice D f.Stops.length E), (48, vi ((f.Stops).length : Int)), (49, vi ((z : Nat) : Int)), (69, .bool af)] ∧ St w s (pc ae (B9.cells v).toArray 75 :: pc B #[vi f.No, vi f.Stock, .slice D f.Stops.length E, .slice L f.Legs.length M] 72 :: pc t #[.slice i x0.Trains.length j, .slice x x0.Turns.length y] 25 :: R)) ?_ ?_
   ·refine W.gen fun a_ S => ?_
    refine sg [.r,.f 0,.b 0] c b fun a b => ?_
    refine fq b (I7 c  rfl (r := C6 v.Station 0 11)) ?_; rintro _ w ⟨rfl, c⟩; refine ⟨_, rfl, fun a b => ?_⟩
    refine sl [.p,.p] c b fun a b => ?_
    rcases b2o (!(C6 v.Station 0 11)) with H | H
    ·replace n := iteT H n
     refine sl [.O,.O,.O,.O,.T,.p,.O,.O,.O,.O,.T,.e] c b fun a b => ?_
     subst S
     exact ⟨true, n, b.pk, c⟩
    replace n := iteF H n
    refine sl [.f 2,.b 0] c b fun a b => ?_
    refine WL.fnq b (I7 c  rfl (r := C6 v.Arr 0 28800)) (F9 b rfl rfl rfl H) b0a rfl rfl rfl ?_
    clear b c; rintro e w ⟨rfl, c⟩; refine ⟨_, rfl, ?_⟩; clear a; intro a b
    refine sl [.p,.N,.p] c b fun a b => ?_
    rcases b2o (!(C6 v.Arr 0 28800)) with I | I
    ·replace n := iteT I n
     refine sl [.O,.O,.O,.O,.T,.e] c b fun a b => ?_
     subst S
     exact ⟨true, n, b.pk, c⟩
    replace n := iteF I n
    refine sl [.f 3,.b 0] c b fun a b => ?_
    refine WL.fnq b (I7 c  rfl (r := C6 v.Dep 0 28800)) (F9 b rfl rfl rfl I) b0a rfl rfl rfl ?_
    clear b c; rintro e w ⟨rfl, c⟩; refine ⟨_, rfl, ?_⟩; clear a; intro a b
    refine sl [.p,.N,.e] c b fun a b => ?_
    subst S
    exact ⟨!(C6 v.Dep 0 28800), n, b.pk, c⟩
   clear b c a w; rintro a w ⟨af, rfl, b, c⟩
   refine W.cond b rfl (fun T => ?_) (fun T => ?_)
   ·replace g := iteT T g
    refine sg [.s,.p,.e] c b fun a b => ?_
    refine W.ret ?_
    subst G
    subst C
    rw [← oi g] at d
    dsimp only at d
    rw [← oi d] at o
    dsimp only at o
    refine fg [_] b ?_
    obtain rfl := oi o
    replace c := pm [.D 0,.D 0,.D 0] c
    exact ⟨rfl, c⟩
   replace g := iteF T g
   refine sg [.k,.q] c b fun a b => ?_
   obtain ⟨aI, k, g⟩ := B4 g
   refine W.cut (fun a w => ∃ ag, ag = aI ∧ Rep a 93 [(1, pp t), (5, pp B), (16, .slice i x0.Trains.length j), (17, vi ((x0.Trains).length : Int)), (18, vi ((A : Nat) : Int)), (47, .slice D f.Stops.length E), (48, vi ((f.Stops).length : Int)), (49, vi ((z : Nat) : Int)), (90, .bool ag)] ∧ St w s (pc ae (B9.cells v).toArray 75 :: pc B #[vi f.No, vi f.Stock, .slice D f.Stops.length E, .slice L f.Legs.length M] 72 :: pc t #[.slice i x0.Trains.length j, .slice x x0.Turns.length y] 25 :: R)) ?_ ?_
   ·refine W.gen fun ba U => ?_
    refine rQ c mixed ?_
    refine sq [.f 3,.b 0,.f 2,.b 0,.p,.p] b fun a b => ?_
    rcases b2o (decide (v.Dep < v.Arr)) with V | V
    ·replace k := iteT V k
     refine sq [.O,.O,.O,.U,.U,.U,.U,.U,.U,.U,.U,.U,.U,.O,.T] b fun a b => ?_
     refine QL.nil ?_; clear c w; intro w c
     subst U
     exact ⟨true, oi k, b.pk, c⟩
    replace k := iteF V k
    refine sq [.p,.p,.p] b fun a b => ?_
    rcases b2o (decide (((z : Nat) : Int) > 0)) with J | J
    ·replace k := iteT J k
     obtain ⟨aJ, aW, aQ, ax, k⟩ := gxS k
     obtain ⟨aX, aY, ay, an⟩ := ai.at ax
     subst ay
     refine sq [.f 2,.b 0,.f 2,.b 1,.p,.p,.x 75,.f 3] b fun a b => ?_
     refine QL.v b (F9 b rfl rfl rfl J) (A6.load1 b rfl (fun w h => (an w _ h).one rfl) ty3) rfl fun a b => ?_
     refine sq [.p,.T,.N] b fun a b => ?_
     refine QL.nil ?_; clear c w; intro w c
     subst U
     exact ⟨decide (v.Arr ≤ aJ.Dep), oi k, b.pk, c⟩
    replace k := iteF J k
    refine sq [.O,.O,.O,.O,.O,.O,.O,.O,.O,.O,.N,.N] b fun a b => ?_
    refine QL.nil ?_; clear c w; intro w c
    subst U
    exact ⟨false, oi k, b.pk, c⟩
   clear b c a w; rintro a w ⟨ag, rfl, b, c⟩
   refine W.cond b rfl (fun X => ?_) (fun X => ?_)
   ·replace g := iteT X g
    refine sg [.s,.p,.e] c b fun a b => ?_
    refine W.ret ?_
    subst G
    subst C
    rw [← oi g] at d
    dsimp only at d
    rw [← oi d] at o
    dsimp only at o
    refine fg [_] b ?_
    obtain rfl := oi o
    replace c := pm [.D 0,.D 0,.D 0] c
    exact ⟨rfl, c⟩
   replace g := iteF X g
   have := ai.small
   refine sm [.k,.r,.i,.p,.e,.D 0] c b fun a w b c => ?_
   subst G
   exact ⟨l.length, b2p _, l, z + 1, rfl, F, g, b.pk, c⟩
  clear b c a w; rintro a w ⟨rfl, b, c⟩
  dsimp only at d
  have := K.small
  refine sm [.r,.i,.p,.e,.D 0] c b fun a w b c => ?_
  subst C
  exact ⟨p.length, b2p _, p, A + 1, rfl, N, d, b.pk, c⟩
 clear b c a w; rintro a w ⟨rfl, b, c⟩
 dsimp only at o
 refine sg [.s,.p,.e] c b fun a b => ?_
 refine W.ret ?_
 refine fg [_] b ?_
 obtain rfl := oi o
 replace c := c.tail
 exact ⟨rfl, c⟩
set_option maxHeartbeats 8000000 in
theorem M7 {w : World} {x0 x1 x2 : Int} (c : St w s (R))  {r : B9} (f : L4 x0 x1 x2 = r) :
  Calls b2n 52 [vi x0, vi x1, vi x2].toArray w (fun e w => ∃ (d : List Value), e = .returned (.agg d.toArray) ∧ I9 s d r ∧ St w s (R)) := by
 refine enter Tryz.func52 rfl rfl rfl fun a b => ?_
 rw [L4] at f
 refine sg [.s] c b fun a b => ?_
 refine al b c a3O fun g a w b c => ?_
 refine sl [.e,.s,.p,.p,.p] c b fun a b => ?_
 refine vP c b (A6.build b (vs := [(0, vi x0), (2, vi x1), (3, vi x2)]) [vi x0, vi 0, vi x1, vi x2] rfl (by kernel_rfl)) rfl fun a b => ?_
 refine so [.A 0,.e] c b fun a w b c => ?_
 refine W.ret ?_
 refine a0b (fn := Tryz.f52) (rs := [.cell 6 75]) (vs := [_]) b rfl ⟨⟨_, rfl, .inl ⟨_, rfl, c.seesAt 0 rfl, b0k⟩⟩, trivial⟩ ?_
 subst f
 replace c := c.tail
 exact ⟨_, rfl, rfl, c⟩
set_option maxHeartbeats 8000000 in
theorem Y6 {w : World}  (b : St w s (R))  {r : B0} (u : J4 = r) :
  Calls b2n 26 [].toArray w (fun e w => ∃ (N : List Value) (t : Sg), e = .returned (.agg N.toArray) ∧ s.Le t ∧ S6 t N r ∧ St w t (R)) := by
 refine enter Tryz.func26 rfl rfl rfl fun a c => ?_
 rw [J4] at u
 refine sg [.s] b c fun a c => ?_
 refine al c b b0O fun aC a w c b => ?_
 refine sl [.e,.s,.p,.e,.s,.p] b c fun a c => ?_
 obtain ⟨d, O, u⟩ := R8 u
 have k := M7 b  O
 refine WL.fnw c (k) rfl (A0 rfl) a8Z rfl rfl rfl ?_
 clear c b k; rintro e w ⟨ax, rfl, ae, b⟩; refine ⟨_, rfl, ?_⟩; clear a; intro a c
 subst ae
 refine sl [.p] b c fun a c => ?_
 obtain ⟨f, P, u⟩ := R8 u
 have k := M7 b  P
 refine WL.fnw c (k) rfl (A0 rfl) a8Z rfl rfl rfl ?_
 clear c b k; rintro e w ⟨ay, rfl, af, b⟩; refine ⟨_, rfl, ?_⟩; clear a; intro a c
 subst af
 refine sl [.p] b c fun a c => ?_
 obtain ⟨g, Q, u⟩ := R8 u
 have k := M7 b  Q
 refine WL.fnw c (k) rfl (A0 rfl) a8Z rfl rfl rfl ?_
 clear c b k; rintro e w ⟨az, rfl, ag, b⟩; refine ⟨_, rfl, ?_⟩; clear a; intro a c
 subst ag
 refine WL.lit c b (e := 75) (es := 4) (vs := [(0, .agg (B9.cells d).toArray), (1, .agg (B9.cells f).toArray), (2, .agg (B9.cells g).toArray)]) (cs := [vi d.Station, vi d.Track, vi d.Arr, vi d.Dep, vi f.Station, vi f.Track, vi f.Arr, vi f.Dep, vi g.Station, vi g.Track, vi g.Arr, vi g.Dep]) (A0 rfl) rfl (by kernel_rfl) rfl fun A a w c b => ?_
 replace b := b.ptVec (es := 4) (m := 3) rfl (by decide)
 have ah : Ev 4 I9 s [vi d.Station, vi d.Track, vi d.Arr, vi d.Dep, vi f.Station, vi f.Track, vi f.Arr, vi f.Dep, vi g.Station, vi g.Track, vi g.Arr, vi g.Dep] [d, f, g] := (Ev.cons (c1 := [vi d.Station, vi d.Track, vi d.Arr, vi d.Dep]) rfl rfl (Ev.cons (c1 := [vi f.Station, vi f.Track, vi f.Arr, vi f.Dep]) rfl rfl (Ev.cons (c1 := [vi g.Station, vi g.Track, vi g.Arr, vi g.Dep]) rfl rfl (Ev.nil))))
 have hF := b.fixD I9.mono 0 rfl ah (rfl); clear b; obtain ⟨ai, M, b, h⟩ := hF
 refine WL.lit c b (e := 3) (es := 1) (vs := [(0, vi 0)]) (cs := [vi 0]) (A0 rfl) rfl (by kernel_rfl) rfl fun G a w c b => ?_
 replace b := b.ptVec (es := 1) (m := 1) rfl (by decide)
 have aj : Ev 1 (RI .i64) ai [vi 0] [0] := (Ev.cons (c1 := [vi 0]) rfl rfl (Ev.nil))
 have hF := b.fixD RI.mono 0 rfl aj (rfl); clear b; obtain ⟨ak, H, b, l⟩ := hF
 replace h := m1 H h
 refine WL.lit c b (e := 3) (es := 1) (vs := [(0, vi 1)]) (cs := [vi 1]) (A0 rfl) rfl (by kernel_rfl) rfl fun I a w c b => ?_
 replace b := b.ptVec (es := 1) (m := 1) rfl (by decide)
 have am : Ev 1 (RI .i64) ak [vi 1] [1] := (Ev.cons (c1 := [vi 1]) rfl rfl (Ev.nil))
 have hF := b.fixD RI.mono 0 rfl am (rfl); clear b; obtain ⟨an, J, b, n⟩ := hF
 obtain ⟨h, l⟩ := m2 J h l
 refine WL.lit c b (e := 28) (es := 1) (vs := [(0, .slice (some ⟨G, 0, none⟩) 1 1), (1, .slice (some ⟨I, 0, none⟩) 1 1)]) (cs := [.slice (some ⟨G, 0, none⟩) 1 1, .slice (some ⟨I, 0, none⟩) 1 1]) (A0 rfl) rfl (by kernel_rfl) rfl fun B a w c b => ?_
 replace b := b.ptVec (es := 1) (m := 2) rfl (by decide)
 have ap : Ev 1 (RL 1 (RI .i64)) an [.slice (some ⟨G, 0, none⟩) 1 1, .slice (some ⟨I, 0, none⟩) 1 1] [[0], [1]] := (Ev.cons (c1 := [.slice (some ⟨G, 0, none⟩) 1 1]) ⟨_, _, rfl, l⟩ rfl (Ev.cons (c1 := [.slice (some ⟨I, 0, none⟩) 1 1]) ⟨_, _, rfl, n⟩ rfl (Ev.nil)))
 have hF := b.fixD (RL.mono RI.mono) 0 rfl ap (rfl); clear b; obtain ⟨aq, K, b, p⟩ := hF
 obtain ⟨h, l, n⟩ := m3 K h l n
 refine vP b c (A6.build c (vs := [(0, vi 1), (2, .slice (some ⟨A, 0, none⟩) 3 3), (3, .slice (some ⟨B, 0, none⟩) 2 2)]) [vi 1, vi 0, .slice (some ⟨A, 0, none⟩) 3 3, .slice (some ⟨B, 0, none⟩) 2 2] rfl (by kernel_rfl)) rfl fun a c => ?_
 refine sl [.p] b c fun a c => ?_
 obtain ⟨i, S, u⟩ := R8 u
 have k := M7 b  S
 refine WL.fnw c (k) rfl (A0 rfl) a8Z rfl rfl rfl ?_
 clear c b k; rintro e w ⟨aA, rfl, ar, b⟩; refine ⟨_, rfl, ?_⟩; clear a; intro a c
 subst ar
 refine sl [.p] b c fun a c => ?_
 obtain ⟨j, T, u⟩ := R8 u
 have k := M7 b  T
 refine WL.fnw c (k) rfl (A0 rfl) a8Z rfl rfl rfl ?_
 clear c b k; rintro e w ⟨aB, rfl, au, b⟩; refine ⟨_, rfl, ?_⟩; clear a; intro a c
 subst au
 refine WL.lit c b (e := 75) (es := 4) (vs := [(0, .agg (B9.cells i).toArray), (1, .agg (B9.cells j).toArray)]) (cs := [vi i.Station, vi i.Track, vi i.Arr, vi i.Dep, vi j.Station, vi j.Track, vi j.Arr, vi j.Dep]) (A0 rfl) rfl (by kernel_rfl) rfl fun C a w c b => ?_
 replace b := b.ptVec (es := 4) (m := 2) rfl (by decide)
 have av : Ev 4 I9 aq [vi i.Station, vi i.Track, vi i.Arr, vi i.Dep, vi j.Station, vi j.Track, vi j.Arr, vi j.Dep] [i, j] := (Ev.cons (c1 := [vi i.Station, vi i.Track, vi i.Arr, vi i.Dep]) rfl rfl (Ev.cons (c1 := [vi j.Station, vi j.Track, vi j.Arr, vi j.Dep]) rfl rfl (Ev.nil)))
 have hF := b.fixD I9.mono 0 rfl av (rfl); clear b; obtain ⟨aw, E, b, o⟩ := hF
 obtain ⟨h, l, n, p⟩ := m4 E h l n p
 refine WL.lit c b (e := 3) (es := 1) (vs := [(0, vi 2)]) (cs := [vi 2]) (A0 rfl) rfl (by kernel_rfl) rfl fun D a w c b => ?_
 replace b := b.ptVec (es := 1) (m := 1) rfl (by decide)
 have U : Ev 1 (RI .i64) aw [vi 2] [2] := (Ev.cons (c1 := [vi 2]) rfl rfl (Ev.nil))
 have hF := b.fixD RI.mono 0 rfl U (rfl); clear b; obtain ⟨V, v, b, x⟩ := hF
 obtain ⟨h, l, n, p⟩ := m4 v h l n p
 replace o := m1 v o
 refine WL.lit c b (e := 28) (es := 1) (vs := [(0, .slice (some ⟨D, 0, none⟩) 1 1)]) (cs := [.slice (some ⟨D, 0, none⟩) 1 1]) (A0 rfl) rfl (by kernel_rfl) rfl fun q a w c b => ?_
 replace b := b.ptVec (es := 1) (m := 1) rfl (by decide)
 have X : Ev 1 (RL 1 (RI .i64)) V [.slice (some ⟨D, 0, none⟩) 1 1] [[2]] := (Ev.cons (c1 := [.slice (some ⟨D, 0, none⟩) 1 1]) ⟨_, _, rfl, x⟩ rfl (Ev.nil))
 have hF := b.fixD (RL.mono RI.mono) 0 rfl X (rfl); clear b; obtain ⟨Y, y, b, F⟩ := hF
 obtain ⟨h, l, n, p⟩ := m4 y h l n p
 obtain ⟨o, x⟩ := m2 y o x
 refine vP b c (A6.build c (vs := [(0, vi 2), (2, .slice (some ⟨C, 0, none⟩) 2 2), (3, .slice (some ⟨q, 0, none⟩) 1 1)]) [vi 2, vi 0, .slice (some ⟨C, 0, none⟩) 2 2, .slice (some ⟨q, 0, none⟩) 1 1] rfl (by kernel_rfl)) rfl fun a c => ?_
 refine WL.lit c b (e := 72) (es := 4) (vs := [(0, .agg (List.toArray [vi 1, vi 0, .slice (some ⟨A, 0, none⟩) 3 3, .slice (some ⟨B, 0, none⟩) 2 2])), (1, .agg (List.toArray [vi 2, vi 0, .slice (some ⟨C, 0, none⟩) 2 2, .slice (some ⟨q, 0, none⟩) 1 1]))]) (cs := [vi 1, vi 0, .slice (some ⟨A, 0, none⟩) 3 3, .slice (some ⟨B, 0, none⟩) 2 2, vi 2, vi 0, .slice (some ⟨C, 0, none⟩) 2 2, .slice (some ⟨q, 0, none⟩) 1 1]) (A0 rfl) rfl (by kernel_rfl) rfl fun L a w c b => ?_
 replace b := b.ptVec (es := 4) (m := 2) rfl (by decide)
 have Z : Ev 4 A7 Y [vi 1, vi 0, .slice (some ⟨A, 0, none⟩) 3 3, .slice (some ⟨B, 0, none⟩) 2 2, vi 2, vi 0, .slice (some ⟨C, 0, none⟩) 2 2, .slice (some ⟨q, 0, none⟩) 1 1] [(B1.mk 1 0 [d, f, g] [[0], [1]]), (B1.mk 2 0 [i, j] [[2]])] := (Ev.cons (c1 := [vi 1, vi 0, .slice (some ⟨A, 0, none⟩) 3 3, .slice (some ⟨B, 0, none⟩) 2 2]) ⟨_, _, _, _, rfl, h, p⟩ rfl (Ev.cons (c1 := [vi 2, vi 0, .slice (some ⟨C, 0, none⟩) 2 2, .slice (some ⟨q, 0, none⟩) 1 1]) ⟨_, _, _, _, rfl, o, F⟩ rfl (Ev.nil)))
 have hF := b.fixD A7.mono 0 rfl Z (rfl); clear b; obtain ⟨aa, z, b, ad⟩ := hF
 obtain ⟨h, l, n, p⟩ := m4 z h l n p
 obtain ⟨o, x, F⟩ := m3 z o x F
 refine vP b c (A6.build c (vs := [(0, .slice (some ⟨L, 0, none⟩) 2 2)]) [.slice (some ⟨L, 0, none⟩) 2 2, .slice none 0 0] rfl (by kernel_rfl)) rfl fun a c => ?_
 refine so [.A 0,.e] b c fun a w c b => ?_
 refine W.ret ?_
 refine a0b (fn := Tryz.f26) (rs := [.cell 0 25]) (vs := [_]) c rfl ⟨⟨_, rfl, .inl ⟨_, rfl, b.seesAt 0 rfl, b0w⟩⟩, trivial⟩ ?_
 subst u
 replace b := b.tail
 exact ⟨_, aa, rfl, (Sg.Le.trans (Sg.Le.trans (Sg.Le.trans (Sg.Le.trans (Sg.Le.trans (Sg.Le.trans (Sg.Le.trans M H) J) K) E) v) y) z), ⟨_, _, _, _, rfl, ad, Sl.nil⟩, b⟩
set_option maxHeartbeats 8000000 in
theorem W3 {w : World} {x c d m f n g : Nat} {y0 : G3} {h i o p : Option Addr} {q : a0o} {u : List Value} (b : St w s (pc x #[.slice h y0.net.Day.Trains.length c, .slice i y0.net.Day.Turns.length d, vi y0.net.least, vi y0.time, .slice o f m, .slice p g n] 69 :: M5 78 11 o m f q :: B2 50 5 p n g u :: R)) (j : Sl 4 A7 s h c y0.net.Day.Trains) (k : Sl 1 (RL 1 (RI .i64)) s i d y0.net.Day.Turns) (y : HEv 11 D0 s q y0.promises) (A : y0.promises.length = f) (z : Ev 5 A5 s u y0.messages) (B : y0.messages.length = g) {r : B0} (C : N5 y0 = some r) :
  Calls b2n 21 [pp x].toArray w (fun e w => ∃ (D : List Value) (t : Sg), e = .returned (.agg D.toArray) ∧ s.Le t ∧ S6 t D r ∧ St w t (pc x #[.slice h y0.net.Day.Trains.length c, .slice i y0.net.Day.Turns.length d, vi y0.net.least, vi y0.time, .slice o f m, .slice p g n] 69 :: M5 78 11 o m f q :: B2 50 5 p n g u :: R)) := by
 refine enter Tryz.func21 rfl rfl rfl fun a l => ?_
 rw [N5] at C
 subst A
 subst B
 refine sg [.s] b l fun a l => ?_
 refine al l b b0O fun K a w l b => ?_
 refine sl [.e,.s,.p,.n,.f 0,.f 0,.C 1 0 2] b l fun a l => ?_
 obtain ⟨L, E, C⟩ := B4 C
 refine fq l (X6 b j k E) ?_; rintro _ w ⟨J, F, rfl, v, G, b⟩; refine ⟨_, rfl, fun a l => ?_⟩
 obtain ⟨j, k, y, z⟩ := m4 v j k y z
 obtain ⟨M, N, O, P, rfl, H, I⟩ := G
 refine so [.A 0,.e] b l fun a w l b => ?_
 refine W.ret ?_
 refine a0b (fn := Tryz.f21) (rs := [.cell 2 25]) (vs := [_]) l rfl ⟨⟨_, rfl, .inl ⟨_, rfl, b.seesAt 0 rfl, b0w⟩⟩, trivial⟩ ?_
 obtain rfl := oi C
 replace b := b.tail
 exact ⟨_, F, rfl, v, ⟨_, _, _, _, rfl, H, I⟩, b⟩
set_option maxHeartbeats 8000000 in
theorem Z0 {w : World} {x0 : List B9} {t u : Option Addr} {v x : Nat} {x1 : List B9} (f : St w s (R)) (C : Sl 4 I9 s t v x0) (G : Sl 4 I9 s u x x1) {r : Bool} (g : H1 x0 x1 = some r) :
  Calls b2n 70 [.slice t x0.length v, .slice u x1.length x].toArray w (fun e w => e = .returned (.bool r) ∧ St w s (R)) := by
 refine enter Tryz.func70 rfl rfl rfl fun a b => ?_
 rw [H1] at g
 refine sg [.s,.p,.e,.q,.s,.p,.l 75 4,.p,.l 75 4,.p,.e] f b fun a b => ?_
 refine W.cond b rfl (fun l => ?_) (fun l => ?_)
 ·replace g := iteT l g
  refine sg [.s,.p,.e] f b fun a b => ?_
  refine W.ret ?_
  refine fg [_] b ?_
  obtain rfl := oi g
  exact ⟨rfl, f⟩
 replace g := iteF l g
 refine sg [.k,.q,.s,.p,.l 75 4,.p,.e] f b fun a b => ?_
 obtain ⟨q, c, g⟩ := B4 g
 refine W.cut (fun a w => (.next ()) = q ∧ Rep a 26 [] ∧ St w s (R)) ?_ ?_
 ·refine W.block ?_
  refine W.loop (fun m a w => ∃ d k, d.length = m ∧ x0.drop k = d ∧ H1.loop1 x1 d k = some q ∧ Rep a 26 [(0, .slice t x0.length v), (1, .slice u x1.length x), (12, vi ((x0).length : Int)), (13, vi ((k : Nat) : Int))] ∧ St w s (R)) (m := x0.length) ⟨x0, 0, rfl, rfl, c, b.pk, f⟩ ?_
  clear b f a w c; rintro M a w ⟨d, k, rfl, j, c, b, f⟩
  refine W.gen fun N n => ?_
  rcases d with _ | ⟨h, d⟩
  ·have p := E8 j
   refine sg [.s,.p,.e,.q] f b fun a b => ?_
   refine W.condF b rfl (decide_eq_false (by omega)) ?_
   subst n
   refine W.exit rfl ?_
   exact ⟨oi c, b.pk, f⟩
  obtain ⟨p, y, j⟩ := C3 j
  rw [H1.loop1] at c
  refine sg [.s,.p,.e,.q] f b fun a b => ?_
  refine W.condT b rfl (decide_eq_true (by omega)) ?_
  refine sg [.k,.q,.o,.s,.p,.p,.e,.q] f b fun a b => ?_
  refine rQ f mixed ?_
  obtain ⟨H, I, z, D⟩ := C.at y
  subst z
  obtain ⟨i, J, E, A, c⟩ := gxS c
  obtain ⟨K, L, B, F⟩ := G.at A
  subst B
  refine sq [.p,.p,.x 75,.h,.p,.p,.x 75,.h] b fun a b => ?_
  refine qP b (show A6 _ _ _ _ (Value.bool (!((h.Station == i.Station) && ((h.Track == i.Track) && ((h.Arr == i.Arr) && (h.Dep == i.Dep)))))) from A6.neS b [.i .i64, .i .i64, .i .i64, .i .i64] [.i .i64 h.Station, .i .i64 h.Track, .i .i64 h.Arr, .i .i64 h.Dep] [.i .i64 i.Station, .i .i64 i.Track, .i .i64 i.Arr, .i .i64 i.Dep] rfl rfl b2a rfl rfl rfl rfl) rfl fun a b => ?_
  refine QL.nil ?_; clear f w; intro w f
  refine W.cond b rfl (fun o => ?_) (fun o => ?_)
  ·replace c := iteT o c
   refine sg [.s,.p,.e] f b fun a b => ?_
   refine W.ret ?_
   subst n
   rw [← oi c] at g
   dsimp only at g
   refine fg [_] b ?_
   obtain rfl := oi g
   exact ⟨rfl, f⟩
  replace c := iteF o c
  have := C.small
  refine sg [.k,.r,.i,.p,.e] f b fun a b => ?_
  subst n
  exact ⟨d.length, b2p _, d, k + 1, rfl, j, c, b.pk, f⟩
 clear b f a w; rintro a w ⟨rfl, b, f⟩
 dsimp only at g
 refine sg [.s,.p,.e] f b fun a b => ?_
 refine W.ret ?_
 refine fg [_] b ?_
 obtain rfl := oi g
 exact ⟨rfl, f⟩
set_option maxHeartbeats 8000000 in
theorem a1a {w : World} {x0 : List Int} {p q : Option Addr} {t u : Nat} {x1 : List Int} (f : St w s (R)) (A : Sl 1 (RI .i64) s p t x0) (E : Sl 1 (RI .i64) s q u x1) {r : Bool} (g : J2 x0 x1 = some r) :
  Calls b2n 46 [.slice p x0.length t, .slice q x1.length u].toArray w (fun e w => e = .returned (.bool r) ∧ St w s (R)) := by
 refine enter Tryz.func46 rfl rfl rfl fun a b => ?_
 rw [J2] at g
 refine sg [.s,.p,.e,.q,.s,.p,.l 3 1,.p,.l 3 1,.p,.e] f b fun a b => ?_
 refine W.cond b rfl (fun j => ?_) (fun j => ?_)
 ·replace g := iteT j g
  refine sg [.s,.p,.e] f b fun a b => ?_
  refine W.ret ?_
  refine fg [_] b ?_
  obtain rfl := oi g
  exact ⟨rfl, f⟩
 replace g := iteF j g
 refine sg [.k,.q,.s,.p,.l 3 1,.p,.e] f b fun a b => ?_
 obtain ⟨o, c, g⟩ := B4 g
 refine W.cut (fun a w => (.next ()) = o ∧ Rep a 26 [] ∧ St w s (R)) ?_ ?_
 ·refine W.block ?_
  refine W.loop (fun m a w => ∃ d i, d.length = m ∧ x0.drop i = d ∧ J2.loop1 x1 d i = some o ∧ Rep a 26 [(0, .slice p x0.length t), (1, .slice q x1.length u), (12, vi ((x0).length : Int)), (13, vi ((i : Nat) : Int))] ∧ St w s (R)) (m := x0.length) ⟨x0, 0, rfl, rfl, c, b.pk, f⟩ ?_
  clear b f a w c; rintro K a w ⟨d, i, rfl, h, c, b, f⟩
  refine W.gen fun L k => ?_
  rcases d with _ | ⟨M, d⟩
  ·have n := E8 h
   refine sg [.s,.p,.e,.q] f b fun a b => ?_
   refine W.condF b rfl (decide_eq_false (by omega)) ?_
   subst k
   refine W.exit rfl ?_
   exact ⟨oi c, b.pk, f⟩
  obtain ⟨n, v, h⟩ := C3 h
  rw [J2.loop1] at c
  refine sg [.s,.p,.e,.q] f b fun a b => ?_
  refine W.condT b rfl (decide_eq_true (by omega)) ?_
  refine sg [.k,.q,.o,.s,.p,.p,.e,.q] f b fun a b => ?_
  refine rQ f mixed ?_
  obtain ⟨F, G, x, B⟩ := A.at v
  subst x
  obtain ⟨N, H, C, y, c⟩ := gxS c
  obtain ⟨I, J, z, D⟩ := E.at y
  subst z
  refine sq [.p,.p,.x 3,.H,.p,.p,.x 3,.H,.p] b fun a b => ?_
  refine QL.nil ?_; clear f w; intro w f
  refine W.cond b rfl (fun l => ?_) (fun l => ?_)
  ·replace c := iteT l c
   refine sg [.s,.p,.e] f b fun a b => ?_
   refine W.ret ?_
   subst k
   rw [← oi c] at g
   dsimp only at g
   refine fg [_] b ?_
   obtain rfl := oi g
   exact ⟨rfl, f⟩
  replace c := iteF l c
  have := A.small
  refine sg [.k,.r,.i,.p,.e] f b fun a b => ?_
  subst k
  exact ⟨d.length, b2p _, d, i + 1, rfl, h, c, b.pk, f⟩
 clear b f a w; rintro a w ⟨rfl, b, f⟩
 dsimp only at g
 refine sg [.s,.p,.e] f b fun a b => ?_
 refine W.ret ?_
 refine fg [_] b ?_
 obtain rfl := oi g
 exact ⟨rfl, f⟩
set_option maxHeartbeats 8000000 in
theorem Q6 {w : World} {x0 : List (List Int)} {q t : Option Addr} {u v : Nat} {x1 : List (List Int)} (f : St w s (R)) (C : Sl 1 (RL 1 (RI .i64)) s q u x0) (I : Sl 1 (RL 1 (RI .i64)) s t v x1) {r : Bool} (g : F2 x0 x1 = some r) :
  Calls b2n 45 [.slice q x0.length u, .slice t x1.length v, .func (.func 46) #[] #[]].toArray w (fun e w => e = .returned (.bool r) ∧ St w s (R)) := by
 refine enter Tryz.func45 rfl rfl rfl fun a b => ?_
 rw [F2] at g
 refine sg [.s,.p,.e,.q,.s,.p,.l 28 1,.p,.l 28 1,.p,.e] f b fun a b => ?_
 refine W.cond b rfl (fun j => ?_) (fun j => ?_)
 ·replace g := iteT j g
  refine sg [.s,.p,.e] f b fun a b => ?_
  refine W.ret ?_
  refine fg [_] b ?_
  obtain rfl := oi g
  exact ⟨rfl, f⟩
 replace g := iteF j g
 refine sg [.k,.q,.s,.p,.l 28 1,.p,.e] f b fun a b => ?_
 obtain ⟨o, c, g⟩ := B4 g
 refine W.cut (fun a w => (.next ()) = o ∧ Rep a 32 [] ∧ St w s (R)) ?_ ?_
 ·refine W.block ?_
  refine W.loop (fun m a w => ∃ d i, d.length = m ∧ x0.drop i = d ∧ F2.loop1 x1 d i = some o ∧ Rep a 32 [(1, .slice t x1.length v), (2, .func (.func 46) #[] #[]), (15, .slice q x0.length u), (16, vi ((x0).length : Int)), (17, vi ((i : Nat) : Int))] ∧ St w s (R)) (m := x0.length) ⟨x0, 0, rfl, rfl, c, b.pk, f⟩ ?_
  clear b f a w c; rintro O a w ⟨d, i, rfl, h, c, b, f⟩
  refine W.gen fun P k => ?_
  rcases d with _ | ⟨Q, d⟩
  ·have n := E8 h
   refine sg [.s,.p,.e,.q] f b fun a b => ?_
   refine W.condF b rfl (decide_eq_false (by omega)) ?_
   subst k
   refine W.exit rfl ?_
   exact ⟨oi c, b.pk, f⟩
  obtain ⟨n, x, h⟩ := C3 h
  rw [F2.loop1] at c
  refine sg [.s,.p,.e,.q] f b fun a b => ?_
  refine W.condT b rfl (decide_eq_true (by omega)) ?_
  obtain ⟨J, K, y, F⟩ := C.at x
  obtain ⟨S, T, rfl, D⟩ := y
  obtain ⟨U, L, G, z, c⟩ := gxS c
  obtain ⟨M, N, A, H⟩ := I.at z
  obtain ⟨V, X, rfl, E⟩ := A
  refine sg [.k,.q,.o,.s,.p,.x 28,.H,.p,.p,.e,.s,.p,.p,.x 28,.H,.p,.e,.s,.p,.p,.p] f b fun a b => ?_
  obtain ⟨Y, B, c⟩ := B4 c
  have p := a1a f D E B
  refine WL.fnw b (p) rfl (A0 rfl) b1O rfl rfl rfl ?_
  clear b f p; rintro e w ⟨rfl, f⟩; refine ⟨_, rfl, ?_⟩; clear a; intro a b
  refine sl [.p,.e] f b fun a b => ?_
  refine W.cond b rfl (fun l => ?_) (fun l => ?_)
  ·replace c := iteT l c
   refine sg [.s,.p,.e] f b fun a b => ?_
   refine W.ret ?_
   subst k
   rw [← oi c] at g
   dsimp only at g
   refine fg [_] b ?_
   obtain rfl := oi g
   exact ⟨rfl, f⟩
  replace c := iteF l c
  have := C.small
  refine sg [.k,.r,.i,.p,.e] f b fun a b => ?_
  subst k
  exact ⟨d.length, b2p _, d, i + 1, rfl, h, c, b.pk, f⟩
 clear b f a w; rintro a w ⟨rfl, b, f⟩
 dsimp only at g
 refine sg [.s,.p,.e] f b fun a b => ?_
 refine W.ret ?_
 refine fg [_] b ?_
 obtain rfl := oi g
 exact ⟨rfl, f⟩
set_option maxHeartbeats 8000000 in
theorem a0D {w : World} {x0 : B1} {j k l m : Option Addr} {n o p q : Nat} {x1 : B1} (d : St w s (R)) (x : Sl 4 I9 s j n x0.Stops) (y : Sl 1 (RL 1 (RI .i64)) s k o x0.Legs) (z : Sl 4 I9 s l p x1.Stops) (A : Sl 1 (RL 1 (RI .i64)) s m q x1.Legs) {r : Bool} (v : N9 x0 x1 = some r) :
  Calls b2n 44 [.agg (List.toArray [vi x0.No, vi x0.Stock, .slice j x0.Stops.length n, .slice k x0.Legs.length o]), .agg (List.toArray [vi x1.No, vi x1.Stock, .slice l x1.Stops.length p, .slice m x1.Legs.length q])].toArray w (fun e w => e = .returned (.bool r) ∧ St w s (R)) := by
 refine enter Tryz.func44 rfl rfl rfl fun a b => ?_
 rw [N9] at v
 refine sg [.s] d b fun a b => ?_
 refine bw b d fun D a w b d => ?_
 refine bw b d fun E a w b d => ?_
 refine sl [.p,.e,.q] d b fun a b => ?_
 obtain ⟨F, c, v⟩ := B4 v
 refine W.cut (fun a w => ∃ u, u = F ∧ Rep a 31 [(4, .bool u)] ∧ St w s (pc E #[vi x1.No, vi x1.Stock, .slice l x1.Stops.length p, .slice m x1.Legs.length q] 72 :: pc D #[vi x0.No, vi x0.Stock, .slice j x0.Stops.length n, .slice k x0.Legs.length o] 72 :: R)) ?_ ?_
 ·refine W.gen fun I f => ?_
  refine sg [.r,.f 0,.b 1,.f 0,.b 0,.p,.p] d b fun a b => ?_
  rcases b2o (x0.No == x1.No) with t | t
  ·replace c := iteT t c
   refine sl [.f 1,.b 1,.f 1,.b 0,.p,.T,.p] d b fun a b => ?_
   rcases b2o (x0.Stock == x1.Stock) with g | g
   ·replace c := iteT g c
    refine sl [.f 2,.b 1,.f 2,.b 0] d b fun a b => ?_
    obtain ⟨G, B, c⟩ := B4 c
    have i := Z0 d x z B
    refine WL.fnq b (i) (F9 b rfl rfl rfl g) b1Y rfl rfl rfl ?_
    clear b d i; rintro e w ⟨rfl, d⟩; refine ⟨_, rfl, ?_⟩; clear a; intro a b
    refine sl [.T,.p] d b fun a b => ?_
    rcases b2o G with h | h
    ·replace c := iteT h c
     refine sl [.f 3,.b 1,.f 3,.b 0] d b fun a b => ?_
     obtain ⟨H, C, c⟩ := B4 c
     have i := Q6 d y A C
     refine WL.fnq b (i) (F9 b rfl rfl rfl h) b1h rfl rfl rfl ?_
     clear b d i; rintro e w ⟨rfl, d⟩; refine ⟨_, rfl, ?_⟩; clear a; intro a b
     refine sl [.T,.p,.e] d b fun a b => ?_
     subst f
     exact ⟨H, oi c, b.pk, d⟩
    replace c := iteF h c
    refine sl [.O,.O,.O,.O,.O,.N,.p,.e] d b fun a b => ?_
    subst f
    exact ⟨false, oi c, b.pk, d⟩
   replace c := iteF g c
   refine sl [.O,.O,.O,.O,.O,.N,.p,.O,.O,.O,.O,.O,.N,.p,.e] d b fun a b => ?_
   subst f
   exact ⟨false, oi c, b.pk, d⟩
  replace c := iteF t c
  refine sl [.O,.O,.O,.O,.O,.N,.p,.O,.O,.O,.O,.O,.N,.p,.O,.O,.O,.O,.O,.N,.p,.e] d b fun a b => ?_
  subst f
  exact ⟨false, oi c, b.pk, d⟩
 clear b d a w; rintro a w ⟨u, rfl, b, d⟩
 refine W.ret ?_
 refine fg [_] b ?_
 obtain rfl := oi v
 replace d := pm [.D 0,.D 0] d
 exact ⟨rfl, d⟩
set_option maxHeartbeats 8000000 in
theorem T6 {w : World} {x0 : List B1} {q t : Option Addr} {u v : Nat} {x1 : List B1} (c : St w s (R)) (C : Sl 4 A7 s q u x0) (K : Sl 4 A7 s t v x1) {r : Bool} (g : E4 x0 x1 = some r) :
  Calls b2n 43 [.slice q x0.length u, .slice t x1.length v, .func (.func 44) #[] #[]].toArray w (fun e w => e = .returned (.bool r) ∧ St w s (R)) := by
 refine enter Tryz.func43 rfl rfl rfl fun a b => ?_
 rw [E4] at g
 refine sg [.s,.p,.e,.q,.s,.p,.l 72 4,.p,.l 72 4,.p,.e] c b fun a b => ?_
 refine W.cond b rfl (fun j => ?_) (fun j => ?_)
 ·replace g := iteT j g
  refine sg [.s,.p,.e] c b fun a b => ?_
  refine W.ret ?_
  refine fg [_] b ?_
  obtain rfl := oi g
  exact ⟨rfl, c⟩
 replace g := iteF j g
 refine sg [.k,.q,.s,.p,.l 72 4,.p,.e] c b fun a b => ?_
 obtain ⟨o, d, g⟩ := B4 g
 refine W.cut (fun a w => (.next ()) = o ∧ Rep a 32 [] ∧ St w s (R)) ?_ ?_
 ·refine W.block ?_
  refine W.loop (fun m a w => ∃ f i, f.length = m ∧ x0.drop i = f ∧ E4.loop1 x1 f i = some o ∧ Rep a 32 [(1, .slice t x1.length v), (2, .func (.func 44) #[] #[]), (15, .slice q x0.length u), (16, vi ((x0).length : Int)), (17, vi ((i : Nat) : Int))] ∧ St w s (R)) (m := x0.length) ⟨x0, 0, rfl, rfl, d, b.pk, c⟩ ?_
  clear b c a w d; rintro Q a w ⟨f, i, rfl, h, d, b, c⟩
  refine W.gen fun S k => ?_
  rcases f with _ | ⟨T, f⟩
  ·have n := E8 h
   refine sg [.s,.p,.e,.q] c b fun a b => ?_
   refine W.condF b rfl (decide_eq_false (by omega)) ?_
   subst k
   refine W.exit rfl ?_
   exact ⟨oi d, b.pk, c⟩
  obtain ⟨n, x, h⟩ := C3 h
  rw [E4.loop1] at d
  refine sg [.s,.p,.e,.q] c b fun a b => ?_
  refine W.condT b rfl (decide_eq_true (by omega)) ?_
  obtain ⟨L, M, y, H⟩ := C.at x
  obtain ⟨U, V, X, Y, rfl, D, E⟩ := y
  refine sg [.k,.q,.o,.s,.p,.x 72,.h] c b fun a b => ?_
  refine al b c a5o fun Z a w b c => ?_
  obtain ⟨aa, N, I, z, d⟩ := gxS d
  obtain ⟨O, P, A, J⟩ := K.at z
  obtain ⟨ad, ae, af, ag, rfl, F, G⟩ := A
  refine so [.p,.A 0,.e,.s,.p,.p,.x 72,.h] c b fun a w b c => ?_
  refine al b c a5o fun ah a w b c => ?_
  refine so [.A 0,.e,.s,.p,.B 1,.B 0] c b fun a w b c => ?_
  obtain ⟨ai, B, d⟩ := B4 d
  have p := a0D c D E F G B
  refine WL.fnw b (p) rfl (A0 rfl) b2c rfl rfl rfl ?_
  clear b c p; rintro e w ⟨rfl, c⟩; refine ⟨_, rfl, ?_⟩; clear a; intro a b
  refine sl [.p,.e] c b fun a b => ?_
  refine W.cond b rfl (fun l => ?_) (fun l => ?_)
  ·replace d := iteT l d
   refine sg [.s,.p,.e] c b fun a b => ?_
   refine W.ret ?_
   subst k
   rw [← oi d] at g
   dsimp only at g
   refine fg [_] b ?_
   obtain rfl := oi g
   replace c := pm [.D 0,.D 0] c
   exact ⟨rfl, c⟩
  replace d := iteF l d
  have := C.small
  refine sm [.k,.r,.i,.p,.e,.D 0,.D 0] c b fun a w b c => ?_
  subst k
  exact ⟨f.length, b2p _, f, i + 1, rfl, h, d, b.pk, c⟩
 clear b c a w; rintro a w ⟨rfl, b, c⟩
 dsimp only at g
 refine sg [.s,.p,.e] c b fun a b => ?_
 refine W.ret ?_
 refine fg [_] b ?_
 obtain rfl := oi g
 exact ⟨rfl, c⟩
set_option maxHeartbeats 8000000 in
theorem V6 {w : World} {x0 : B0} {g h i j : Option Addr} {k l m n : Nat} {x1 : B0} (c : St w s (R)) (u : Sl 4 A7 s g k x0.Trains) (v : Sl 1 (RL 1 (RI .i64)) s h l x0.Turns) (x : Sl 4 A7 s i m x1.Trains) (y : Sl 1 (RL 1 (RI .i64)) s j n x1.Turns) {r : Bool} (q : N6 x0 x1 = some r) :
  Calls b2n 20 [.agg (List.toArray [.slice g x0.Trains.length k, .slice h x0.Turns.length l]), .agg (List.toArray [.slice i x1.Trains.length m, .slice j x1.Turns.length n])].toArray w (fun e w => e = .returned (.bool r) ∧ St w s (R)) := by
 refine enter Tryz.func20 rfl rfl rfl fun a b => ?_
 rw [N6] at q
 refine sg [.s] c b fun a b => ?_
 refine bw b c fun B a w b c => ?_
 refine bw b c fun C a w b c => ?_
 refine sl [.p,.e,.q] c b fun a b => ?_
 obtain ⟨D, d, q⟩ := B4 q
 refine W.cut (fun a w => ∃ o, o = D ∧ Rep a 17 [(4, .bool o)] ∧ St w s (pc C #[.slice i x1.Trains.length m, .slice j x1.Turns.length n] 25 :: pc B #[.slice g x0.Trains.length k, .slice h x0.Turns.length l] 25 :: R)) ?_ ?_
 ·refine W.gen fun G p => ?_
  refine sg [.r,.f 0,.b 1,.f 0,.b 0] c b fun a b => ?_
  obtain ⟨E, z, d⟩ := B4 d
  refine fq b (T6 c u x z) ?_; rintro _ w ⟨rfl, c⟩; refine ⟨_, rfl, fun a b => ?_⟩
  refine sl [.p] c b fun a b => ?_
  rcases b2o E with f | f
  ·replace d := iteT f d
   refine sl [.f 1,.b 1,.f 1,.b 0] c b fun a b => ?_
   obtain ⟨F, A, d⟩ := B4 d
   have t := Q6 c v y A
   refine WL.fnq b (t) (F9 b rfl rfl rfl f) b1h rfl rfl rfl ?_
   clear b c t; rintro e w ⟨rfl, c⟩; refine ⟨_, rfl, ?_⟩; clear a; intro a b
   refine sl [.T,.p,.e] c b fun a b => ?_
   subst p
   exact ⟨F, oi d, b.pk, c⟩
  replace d := iteF f d
  refine sl [.O,.O,.O,.O,.O,.N,.p,.e] c b fun a b => ?_
  subst p
  exact ⟨false, oi d, b.pk, c⟩
 clear b c a w; rintro a w ⟨o, rfl, b, c⟩
 refine W.ret ?_
 refine fg [_] b ?_
 obtain rfl := oi q
 replace c := pm [.D 0,.D 0] c
 exact ⟨rfl, c⟩
set_option maxHeartbeats 8000000 in
theorem Y7 {w : World}  (c : St w s (R)) (P : a0S b2n s) {r : Bool} (g : Q3 = some r) :
  Calls b2n 6 [].toArray w (fun e w => e = .returned (.bool r) ∧ St w s (R)) := by
 refine enter Tryz.func6 rfl rfl rfl fun a b => ?_
 rw [Q3] at g
 refine sg [.s,.p,.e,.s] c b fun a b => ?_
 obtain ⟨aH, Q, g⟩ := R8 g
 refine fq b (Y6 c  Q) ?_; rintro _ w ⟨au, aI, rfl, v, ag, c⟩; refine ⟨_, rfl, fun a b => ?_⟩
 obtain ⟨aJ, aK, aL, aM, rfl, h, i⟩ := ag
 obtain ⟨K, S, g⟩ := B4 g
 refine fq b (a0d c (a0S.mono v P) h i S) ?_
 clear b c; rintro e w (⟨B, T, rfl, j, c⟩ | ⟨f, ah, ai, aj, ak, am, L, M, aN, U, N, O, aO, V, B, X, rfl, j, n, o, p, rfl, q, rfl, c⟩)
 ·refine ⟨_, rfl, ?_⟩; clear a; intro a b
  obtain ⟨h, i⟩ := m2 j h i
  rw [T] at g; dsimp only at g
  refine sl [.p,.p,.p,.p,.p,.e,.q] c b fun a b => ?_
  obtain ⟨an, k, g⟩ := R8 g
  refine W.cut (fun a w => ∃ E, E = an ∧ Rep a 20 [(0, .bool E)] ∧ St w B (R)) ?_ ?_
  ·refine W.gen fun aP F => ?_
   refine sg [.r,.p,.p,.p] c b fun a b => ?_
   rcases b2o (K.2 == 0) with x | x
   ·replace k := iteT x k
    refine sl [.p] c b fun a b => ?_
    refine WL.vS c b (F9 b rfl rfl rfl x) (A6.notNilP b rfl rfl b0h) rfl fun a b => ?_
    refine sl [.T,.p,.O,.O,.O,.O,.N,.p,.e] c b fun a b => ?_
    subst F
    exact ⟨false, k, b.pk, c⟩
   replace k := iteF x k
   refine sl [.O,.O,.N,.p,.O,.O,.O,.O,.N,.p,.e] c b fun a b => ?_
   subst F
   exact ⟨false, k, b.pk, c⟩
  clear b c a w; rintro a w ⟨E, rfl, b, c⟩
  refine W.ret ?_
  refine fg [_] b ?_
  obtain rfl := oi g
  exact ⟨rfl, (c.down (Sg.Le.trans v j))⟩
 refine ⟨_, rfl, ?_⟩; clear a; intro a b
 obtain ⟨h, i⟩ := m2 j h i
 rw [X] at g; dsimp only at g
 refine sl [.p,.p,.p,.p,.p,.e,.q] c b fun a b => ?_
 obtain ⟨ap, d, g⟩ := B4 g
 refine W.cut (fun a w => ∃ y G, B.Le G ∧ y = ap ∧ Rep a 20 [(0, .bool y)] ∧ St w G (pc ah #[.slice ai f.1.length aj, .slice ak f.2.1.length am, vi f.2.2.1, vi f.2.2.2.1, .slice L f.2.2.2.2.1.length M, .slice N f.2.2.2.2.2.length O] 69 :: M5 78 11 L M f.2.2.2.2.1.length U :: B2 50 5 N O f.2.2.2.2.2.length V :: R)) ?_ ?_
 ·refine W.gen fun av C => ?_
  refine sg [.r,.p,.p,.p] c b fun a b => ?_
  rcases b2o (K.2 == 0) with m | m
  ·replace d := iteT m d
   refine sl [.p] c b fun a b => ?_
   refine WL.vS c b (F9 b rfl rfl rfl m) (A6.notNilP b rfl rfl b0h) rfl fun a b => ?_
   refine sl [.T,.p,.p] c b fun a b => ?_
   obtain ⟨aw, H, d⟩ := B4 d
   have l := W3 (y0 := (G3.mk (D7.mk (B0.mk f.1 f.2.1) f.2.2.1) f.2.2.2.1 f.2.2.2.2.1 f.2.2.2.2.2)) c n o p rfl q rfl H
   refine WL.fnq b (l) (F9 b rfl rfl rfl rfl) b1C rfl rfl rfl ?_
   clear b c l; rintro e w ⟨aq, ax, rfl, t, Y, c⟩; refine ⟨_, rfl, ?_⟩; clear a; intro a b
   obtain ⟨h, i, n, o⟩ := m4 t h i n o
   obtain ⟨p, q⟩ := m2 t p q
   obtain ⟨ay, az, aA, aB, rfl, z, A⟩ := Y
   obtain ⟨aC, I, d⟩ := R8 d
   have l := Y6 c  I
   refine WL.fnq b (l) (F9 b rfl rfl rfl rfl) b1T rfl rfl rfl ?_
   clear b c l; rintro e w ⟨ar, Z, rfl, u, aa, c⟩; refine ⟨_, rfl, ?_⟩; clear a; intro a b
   obtain ⟨h, i, z, A⟩ := m4 u h i z A
   obtain ⟨n, o, p, q⟩ := m4 u n o p q
   obtain ⟨aD, aE, aF, aG, rfl, ad, ae⟩ := aa
   obtain ⟨af, J, d⟩ := B4 d
   have l := V6 c z A ad ae J
   refine WL.fnq b (l) (F9 b rfl rfl rfl rfl) b1w rfl rfl rfl ?_
   clear b c l; rintro e w ⟨rfl, c⟩; refine ⟨_, rfl, ?_⟩; clear a; intro a b
   refine sl [.T,.p,.e] c b fun a b => ?_
   subst C
   exact ⟨af, Z, (Sg.Le.trans t u), oi d, b.pk, c⟩
  replace d := iteF m d
  refine sl [.O,.O,.N,.p,.O,.O,.O,.O,.N,.p,.e] c b fun a b => ?_
  subst C
  exact ⟨false, B, lr, oi d, b.pk, c⟩
 clear b c a w; rintro a w ⟨y, G, D, rfl, b, c⟩
 obtain ⟨n, o, p, q⟩ := m4 D n o p q
 refine W.ret ?_
 refine fg [_] b ?_
 obtain rfl := oi g
 replace c := pm [.D 0,.D 0,.D 0] c
 exact ⟨rfl, (c.down (Sg.Le.trans (Sg.Le.trans v j) D))⟩
theorem a4j {α : Type} {es : Nat} {R : Rd α} {s : Sg} {b : Nat} {v : α} (h : Pt es R s (some ⟨b, 0, none⟩) (some v)) : ∃ cs, s.At b 0 cs ∧ R s cs v := by
 obtain ⟨b', o', cs, e, _, h3, h4⟩ := h
 injection e with e
 injection e with e1 e2
 subst e1; subst e2
 exact ⟨cs, h3, h4⟩
set_option maxHeartbeats 4000000 in
theorem a6j {s : Sg} {bn bo bs ba : Nat} {cn : List Value} {n : D7} {station at_ nt : Int} (hn : s.At bn 0 cn) (hcn : N8 s cn n) (hnt : s.At bo 0 [vi nt]) (hst : s.At bs 0 [vi station]) (hat : s.At ba 0 [vi at_]) :
  a2v b2n 90 [pp bn, pp bo, pp bs, pp ba] (fun x => [Value.agg (A1.cells x).toArray]) s (ridesT station at_ nt n.Day.Trains 0) := by
 intro y I X hI hY w t Q M d
 obtain ⟨N, O, a1, c1, rfl, hTr, hTu⟩ := hcn
 have cell : ∀ {u : Sg} {b o : Nat} {cs : List Value} {v : Value} (k : Nat), s.Le u → s.At b o cs → cs[k]? = some v → ∀ w rs, St w u rs → a0M w b (o + k) [v] := by
  intro u b o cs v k hle h hk w rs d j x hj
  cases j with
  | zero => simp at hj; subst hj; have := d.sees (h.mono hle) k v hk; simpa using this
  | succ j => simp at hj
 have hle := hI _ _ _ M
 refine enter Tryz.func90 rfl rfl rfl fun a c => ?_
 refine sg [.s,.f 0,.f 0] d c fun a c => ?_
 refine vP d c (A6.load1 c rfl (fun w h => cell 0 hle hn rfl w _ h) b1N) rfl fun a c => ?_
 refine sl [.l 72 4,.p,.e,.o] d c fun a c => ?_
 refine W.loop (fun m a w => ∃ rest k pre u Q, rest.length = m ∧ n.Day.Trains.drop k = rest ∧ ridesT station at_ nt n.Day.Trains 0 = pre ++ ridesT station at_ nt rest k ∧ I pre u Q ∧ Rep a 59 [(0, .func (.yield y) #[] #[]), (1, pp bn), (2, pp bo), (3, pp bs), (4, pp ba), (13, .slice N n.Day.Trains.length O), (14, vi ((n.Day.Trains.length : Nat) : Int)), (15, vi (k : Int))] ∧ St w u Q) (m := n.Day.Trains.length) ⟨n.Day.Trains, 0, [], t, Q, rfl, rfl, rfl, M, c.pk, d⟩ ?_
 clear c d M hle a w t Q; rintro m a w ⟨rest, k, pre, u, Q, rfl, hd, hl, hp, c, d⟩
 have hle := hI _ _ _ hp
 refine W.gen fun K hK => ?_
 have hrd : K.rd = none := by rw [← hK]
 rcases rest with _ | ⟨x, rest⟩
 ·have hlt := E8 hd
  refine sg [.s,.p,.e,.q] d c fun a c => ?_
  refine W.condF c rfl (decide_eq_false (by omega)) ?_
  subst hK
  refine W.exit rfl ?_
  refine b0f c rfl ⟨⟨_, rfl⟩, .inl ⟨u, Q, ?_, d⟩⟩
  rw [hl, ridesT, List.append_nil]; exact hp
 obtain ⟨hlt, hx, hd⟩ := C3 hd
 rw [ridesT] at hl
 refine sg [.s,.p,.e,.q] d c fun a c => ?_
 refine W.condT c rfl (decide_eq_true (by omega)) ?_
 obtain ⟨ct, hctl, hctA, hct⟩ := hTr.el k x hx
 obtain ⟨ta, tc, tb, te, rfl, hSt, hLe⟩ := hct
 refine sg [.k,.q,.o,.s,.p] d c fun a c => ?_
 refine vP d c (A6.idx c k rfl rfl b1r rfl hlt ((Sl.mono A7.mono hle hTr).aok (k := k) hlt)) rfl fun a c => ?_
 refine vP d c (A6.loadA c rfl (fun w h => h.sees (hctA.mono hle)) b1z) rfl fun a c => ?_
 refine al c d a5o fun bt a w c d => ?_
 refine so [.p,.A 0,.e,.q,.s,.p] d c fun a w c d => ?_
 refine vP d c (A6.load1 c rfl (fun w h => cell 0 hle hnt rfl w _ h) ty3) rfl fun a c => ?_
 refine sl [.p,.e] d c fun a c => ?_
 refine W.cond c rfl (fun hc => ?_) (fun hc => ?_)
 ·refine W.exit rfl ?_
  have hc : (k : Int) = nt := by simpa using hc
  rw [if_pos hc, b3c] at hl
  have := hTr.small
  refine sm [.D 0,.r,.i,.p,.e] d c fun a w c d => ?_
  subst hK
  exact ⟨rest.length, b2p _, rest, k + 1, pre, u, Q, rfl, hd, hl, hp, c.pk, d⟩
 have hc : ¬ (k : Int) = nt := by simpa using hc
 rw [if_neg hc] at hl
 refine sg [.k,.s,.f 2,.b 0,.l 75 4,.p,.e,.o] d c fun a c => ?_
 refine W.loop (fun m a w => ∃ f g F A B, f.length = m ∧ x.Stops.drop g = f ∧ ridesT station at_ nt n.Day.Trains 0 = F ++ (ridesS station at_ k x.Stops.length f g ++ ridesT station at_ nt rest (k + 1)) ∧ I F A B ∧ Rep a 59 [(0, .func (.yield y) #[] #[]), (1, pp bn), (2, pp bo), (3, pp bs), (4, pp ba), (13, .slice N n.Day.Trains.length O), (14, vi ((n.Day.Trains.length : Nat) : Int)), (15, vi (k : Int)), (6, vi (k : Int)), (7, pp bt), (24, .slice ta x.Stops.length tc), (25, vi ((x.Stops.length : Nat) : Int)), (26, vi (g : Int))] ∧ St w A (pt bt (Obj.cells [Value.int .i64 x.No, Value.int .i64 x.Stock, Value.slice ta x.Stops.length tc, Value.slice tb x.Legs.length te].toArray 72 (0, 0)) :: B)) (m := x.Stops.length) ⟨x.Stops, 0, pre, u, Q, rfl, rfl, hl, hp, c.pk, d⟩ ?_
 clear c d a w hp hl hle pre; rintro m2 a w ⟨f, g, pre, A, B, rfl, p, hl, hp, c, d⟩
 have hle := hI _ _ _ hp
 refine W.gen fun V q => ?_
 have P : V.rd = none := by rw [← q]; exact hrd
 rcases f with _ | ⟨z, f⟩
 ·have C := E8 p
  rw [ridesS, b3c] at hl
  refine sg [.s,.p,.e,.q] d c fun a c => ?_
  refine W.condF c rfl (decide_eq_false (by omega)) ?_
  subst q
  refine W.exit rfl ?_
  have := hTr.small
  refine sm [.D 0,.r,.i,.p,.e] d c fun a w c d => ?_
  subst hK
  exact ⟨rest.length, b2p _, rest, k + 1, pre, A, B, rfl, hd, hl, hp, c.pk, d⟩
 obtain ⟨C, T, p⟩ := C3 p
 rw [ridesS] at hl
 refine sg [.s,.p,.e,.q] d c fun a c => ?_
 refine W.condT c rfl (decide_eq_true (by omega)) ?_
 obtain ⟨cz, hczl, hcz, hczS⟩ := (Sl.mono I9.mono hle hSt).at T
 subst hcz
 refine sg [.k,.q,.o,.s,.p] d c fun a c => ?_
 refine vP d c (A6.idx c g rfl rfl a9K rfl C ((Sl.mono I9.mono hle hSt).aok (k := g) C)) rfl fun a c => ?_
 refine sl [.h] d c fun a c => ?_
 refine al c d a3O fun bz a w c d => ?_
 refine so [.p,.A 0,.e,.q,.s,.f 0,.b 0] d c fun a w c d => ?_
 refine vP d c (A6.load1 c rfl (fun w h => cell 0 hle hst rfl w _ h) ty3) rfl fun a c => ?_
 refine sl [.p,.p] d c fun a c => ?_
 by_cases D : z.Station = station
 ·have L : (z.Station != station) = false := by simpa using D
  refine sl [.f 3,.b 0] d c fun a c => ?_
  refine WL.vS d c (F9 c rfl rfl rfl L) (A6.load1 c rfl (fun w h => cell 0 hle hat rfl w _ h) ty3) rfl fun a c => ?_
  refine sl [.p,.N,.e] d c fun a c => ?_
  refine W.cond c rfl (fun l => ?_) (fun l => ?_)
  ·refine W.exit rfl ?_
   have l : z.Dep < at_ := by simpa using l
   rw [if_pos (Or.inr l), b3c] at hl
   have := hSt.small
   refine sm [.D 0,.r,.i,.p,.e] d c fun a w c d => ?_
   subst q
   exact ⟨f.length, b2p _, f, g + 1, pre, A, B, rfl, p, hl, hp, c.pk, d⟩
  have l : ¬ z.Dep < at_ := by simpa using l
  rw [if_neg (show ¬ (z.Station ≠ station ∨ z.Dep < at_) from fun h => h.elim (fun h => h D) l), b2y] at hl
  have := hSt.small
  refine sg [.k,.s,.p,.i,.p,.e,.o] d c fun a c => ?_
  refine W.loop (fun m a w => ∃ r3 r G H J, r3 = m ∧ r + r3 = x.Stops.length ∧ ridesT station at_ nt n.Day.Trains 0 = G ++ (ridesF k g r3 r ++ (ridesS station at_ k x.Stops.length f (g + 1) ++ ridesT station at_ nt rest (k + 1))) ∧ I G H J ∧ Rep a 59 [(0, .func (.yield y) #[] #[]), (1, pp bn), (2, pp bo), (3, pp bs), (4, pp ba), (13, .slice N n.Day.Trains.length O), (14, vi ((n.Day.Trains.length : Nat) : Int)), (15, vi (k : Int)), (6, vi (k : Int)), (7, pp bt), (24, .slice ta x.Stops.length tc), (25, vi ((x.Stops.length : Nat) : Int)), (26, vi (g : Int)), (8, vi (g : Int)), (9, pp bz), (10, vi (r : Int))] ∧ St w H (pt bz (Obj.cells (B9.cells z).toArray 75 (0, 0)) :: pt bt (Obj.cells [Value.int .i64 x.No, Value.int .i64 x.Stock, Value.slice ta x.Stops.length tc, Value.slice tb x.Legs.length te].toArray 72 (0, 0)) :: J)) (m := x.Stops.length - (g + 1)) ⟨x.Stops.length - (g + 1), g + 1, pre, A, B, rfl, by omega, hl, hp, c.pk, d⟩ ?_
  clear c d a w hp hl hle pre; rintro m3 a w ⟨r3, r, pre, H, J, rfl, Z, hl, hp, c, d⟩
  have hle := hI _ _ _ hp
  refine W.gen fun Y E => ?_
  have i : Y.rd = none := by rw [← E]; exact P
  refine sg [.q,.s,.p,.f 2,.b 1,.l 75 4,.p,.e] d c fun a c => ?_
  rcases r3 with _ | r3
  ·rw [ridesF, b3c] at hl
   refine W.condF c rfl (decide_eq_false (by omega)) ?_
   subst E
   refine W.exit rfl ?_
   have := hSt.small
   refine sm [.D 0,.r,.i,.p,.e] d c fun a w c d => ?_
   subst q
   exact ⟨f.length, b2p _, f, g + 1, pre, H, J, rfl, p, hl, hp, c.pk, d⟩
  rw [ridesF, List.cons_append] at hl
  refine W.condT c rfl (decide_eq_true (by omega)) ?_
  refine sg [.k,.q,.o,.q] d c fun a c => ?_
  refine W.regionY ?_
  refine WLY.vS i d c (A0 rfl) (A6.p c rfl) rfl fun a c => ?_
  refine WLY.vS i d c (A0 rfl) (A6.p c rfl) rfl fun a c => ?_
  refine WLY.vS i d c (A0 rfl) (A6.p c rfl) rfl fun a c => ?_
  refine WLY.vS i d c (A0 rfl) (A6.p c rfl) rfl fun a c => ?_
  refine WLY.vS i d c (A0 rfl) (A6.build c (vs := [(0, vi (k : Int)), (1, vi (g : Int)), (2, vi (r : Int))]) (A1.cells ⟨(k : Int), (g : Int), (r : Int)⟩) rfl (by kernel_rfl)) rfl fun a c => ?_
  have hpre : pre ++ [⟨(k : Int), (g : Int), (r : Int)⟩] <+: ridesT station at_ nt n.Day.Trains 0 := ⟨_, by rw [hl, b2y]; rfl⟩
  refine WLY.yield i c rfl rfl (A0 rfl) rfl (hY pre ⟨(k : Int), (g : Int), (r : Int)⟩ H J [pt bz (Obj.cells (B9.cells z).toArray 75 (0, 0)), pt bt (Obj.cells [Value.int .i64 x.No, Value.int .i64 x.Stock, Value.slice ta x.Stops.length tc, Value.slice tb x.Legs.length te].toArray 72 (0, 0))] w hpre hp d) ?_
  clear c d a w; rintro e w (⟨rfl, R, S, U, d⟩ | ⟨rfl, R, S, hX, d⟩)
  ·refine ⟨_, rfl, fun a c => ?_⟩
   refine WLY.vS i d c (A0 rfl) (A6.p c rfl) rfl fun a c => ?_
   refine WLY.nil ?_
   refine W.condF c rfl rfl ?_
   have := hSt.small
   refine sg [.k,.r,.p,.i,.p,.e] d c fun a c => ?_
   subst E
   exact ⟨r3, b2p _, r3, r + 1, _, R, S, rfl, by omega, (by rw [hl, b2y]; rfl), U, c.pk, d⟩
  refine ⟨_, rfl, fun a c => ?_⟩
  refine WLY.vS i d c (A0 rfl) (A6.p c rfl) rfl fun a c => ?_
  refine WLY.nil ?_
  refine W.condT c rfl rfl ?_
  refine W.ret ?_
  subst E q hK
  exact b0f c rfl ⟨⟨_, rfl⟩, .inr ⟨R, S, hX, d.tail.tail⟩⟩
 have L : (z.Station != station) = true := by simpa using D
 refine sl [.O,.O,.O,.O,.T,.e] d c fun a c => ?_
 refine W.condT c rfl rfl ?_
 refine W.exit rfl ?_
 rw [if_pos (Or.inl D), b3c] at hl
 have := hSt.small
 refine sm [.D 0,.r,.i,.p,.e] d c fun a w c d => ?_
 subst q
 exact ⟨f.length, b2p _, f, g + 1, pre, A, B, rfl, p, hl, hp, c.pk, d⟩
theorem a6R {s : Sg} {bn bo bs ba : Nat} {n : D7} {station at_ nt : Int} (hn : Pt 3 N8 s (some ⟨bn, 0, none⟩) (some n)) (hnt : Pt 1 (RI .i64) s (some ⟨bo, 0, none⟩) (some nt)) (hst : Pt 1 (RI .i64) s (some ⟨bs, 0, none⟩) (some station)) (hat : Pt 1 (RI .i64) s (some ⟨ba, 0, none⟩) (some at_)) :
  a2v b2n 90 [pp bn, pp bo, pp bs, pp ba] (fun x => [Value.agg (A1.cells x).toArray]) s (ridesT station at_ nt n.Day.Trains 0) := by
 obtain ⟨cn, a, b⟩ := a4j hn
 obtain ⟨f, c, rfl⟩ := a4j hnt
 obtain ⟨g, d, rfl⟩ := a4j hst
 obtain ⟨h, e, rfl⟩ := a4j hat
 exact a6j a b c d e

set_option maxHeartbeats 8000000 in
theorem T9 {w : World} {x0 : D7} {m n : Option Addr} {o p : Nat} {x1 x2 x3 : Int} (b : St w s (R)) (c : Sl 4 A7 s m o x0.Day.Trains) (d : Sl 1 (RL 1 (RI .i64)) s n p x0.Day.Turns) {r : (List A1)} (C : Q2 x0 x1 x2 x3 = r) :
  Calls b2n 72 [.agg (List.toArray [.slice m x0.Day.Trains.length o, .slice n x0.Day.Turns.length p, vi x0.least]), vi x1, vi x2, vi x3].toArray w (fun e w => ∃ (u : List Value) (t : Sg), e = .returned (.func (.func 90) #[] u.toArray) ∧ s.Le t ∧ a2v b2n 90 u (fun x => [Value.agg (A1.cells x).toArray]) t r ∧ St w t (R)) := by
 refine enter Tryz.func72 rfl rfl rfl fun a f => ?_
 rw [Q2] at C
 refine sg [.s] b f fun a f => ?_
 refine bw f b fun y a w f b => ?_
 refine bw f b fun z a w f b => ?_
 refine bw f b fun A a w f b => ?_
 refine bw f b fun B a w f b => ?_
 refine sl [.p,.e,.s] b f fun a f => ?_
 refine vP b f (A6.mkfn f (vs := [pp y, pp B, pp z, pp A]) rfl) rfl fun a f => ?_
 refine sl [.p,.e] b f fun a f => ?_
 refine W.ret ?_
 have hF := b.fixB (es := 3) (Rr := N8) (v := x0) N8.mono 3 rfl rfl ⟨_, _, _, _, rfl, c, d⟩; clear b; obtain ⟨G, l, b, i⟩ := hF
 obtain ⟨c, d⟩ := m2 l c d
 have hF := b.fixB (es := 1) (Rr := RI .i64) (v := x3) RI.mono 0 rfl rfl rfl; clear b; obtain ⟨H, j, b, k⟩ := hF
 obtain ⟨c, d⟩ := m2 j c d
 replace i := Pt.mono N8.mono j i
 have hF := b.fixB (es := 1) (Rr := RI .i64) (v := x1) RI.mono 1 rfl rfl rfl; clear b; obtain ⟨I, h, b, q⟩ := hF
 obtain ⟨c, d⟩ := m2 h c d
 replace i := Pt.mono N8.mono h i
 replace k := Pt.mono RI.mono h k
 have hF := b.fixB (es := 1) (Rr := RI .i64) (v := x2) RI.mono 0 rfl rfl rfl; clear b; obtain ⟨D, g, b, E⟩ := hF
 obtain ⟨c, d⟩ := m2 g c d
 replace i := Pt.mono N8.mono g i
 replace q := Pt.mono RI.mono g q
 replace k := Pt.mono RI.mono g k
 have F := a6R i k q E
 refine fg [_] f ?_
 subst C
 exact ⟨[pp y, pp B, pp z, pp A], D, rfl, (Sg.Le.trans (Sg.Le.trans (Sg.Le.trans l j) h) g), F, b⟩
set_option maxHeartbeats 8000000 in
theorem I5 {w : World} {x0 : D7} {f g : Option Addr} {j k : Nat} {x1 : A1} (b : St w s (R)) (n : Sl 4 A7 s f j x0.Day.Trains) (_h0_1 : Sl 1 (RL 1 (RI .i64)) s g k x0.Day.Turns) {r : B9} (d : J0 x0 x1 = some r) :
  Calls b2n 35 [.agg (List.toArray [.slice f x0.Day.Trains.length j, .slice g x0.Day.Turns.length k, vi x0.least]), .agg (A1.cells x1).toArray].toArray w (fun e w => ∃ (m : List Value), e = .returned (.agg m.toArray) ∧ I9 s m r ∧ St w s (R)) := by
 refine enter Tryz.func35 rfl rfl rfl fun a c => ?_
 rw [J0] at d
 refine sg [.s] b c fun a c => ?_
 refine bw c b fun G a w c b => ?_
 refine bw c b fun H a w c b => ?_
 refine al c b a3O fun I a w c b => ?_
 refine sl [.e,.q] b c fun a c => ?_
 refine W.gen fun J o => ?_
 refine rE b [] [0] [0, 1, 2, 3, 4, 5, 6, 7, 8, 9, 10, 11] [0, 1, 2, 3, 4, 5, 6, 7, 8, 9, 10, 11, 12] mixed ?_
 replace b := b.drew
 obtain ⟨K, A, x, p, d⟩ := gxS d
 obtain ⟨B, C, q, l⟩ := n.at p
 obtain ⟨L, M, N, O, rfl, v, P⟩ := q
 refine sr [.P 0 (.f 0),.P 1 (.f 0),.T 2 true (.b 2),.P 3 (.f 0),.T 4 true (.b 1),.P 5 (.x 72),.P 6 (.f 2)] c b (b.tail) fun a c => ?_
 refine tT (i := 7) true rfl c rfl (by kernel_rfl) (A6.load1 c rfl (fun w h => (l w _ h).one rfl) a3P) rfl b (b.tail) fun a c => ?_
 obtain ⟨Q, D, y, t, d⟩ := gxS d
 obtain ⟨E, F, u, z⟩ := v.at t
 subst u
 refine sr [.P 8 (.f 1),.T 9 true (.b 1),.P 10 (.x 75),.T 11 true .h] c b (b.tail) fun a c => ?_
 refine ro 12 false true ?_
 refine so [.A 0,.e] b c fun a w c b => ?_
 refine rf (b.tail) ?_
 refine Rg.done (by kernel_rfl) ?_
 subst o
 refine W.ret ?_
 refine a0b (fn := Tryz.f35) (rs := [.cell 4 75]) (vs := [_]) c rfl ⟨⟨_, rfl, .inl ⟨_, rfl, b.seesAt 0 rfl, b0k⟩⟩, trivial⟩ ?_
 obtain rfl := oi d
 replace b := pm [.D 0,.D 0,.D 0] b
 exact ⟨_, rfl, rfl, b⟩
set_option maxHeartbeats 8000000 in
theorem J3 {w : World} {x0 : D7} {f g : Option Addr} {j k : Nat} {x1 : A1} (b : St w s (R)) (n : Sl 4 A7 s f j x0.Day.Trains) (_h0_1 : Sl 1 (RL 1 (RI .i64)) s g k x0.Day.Turns) {r : B9} (d : H8 x0 x1 = some r) :
  Calls b2n 36 [.agg (List.toArray [.slice f x0.Day.Trains.length j, .slice g x0.Day.Turns.length k, vi x0.least]), .agg (A1.cells x1).toArray].toArray w (fun e w => ∃ (m : List Value), e = .returned (.agg m.toArray) ∧ I9 s m r ∧ St w s (R)) := by
 refine enter Tryz.func36 rfl rfl rfl fun a c => ?_
 rw [H8] at d
 refine sg [.s] b c fun a c => ?_
 refine bw c b fun G a w c b => ?_
 refine bw c b fun H a w c b => ?_
 refine al c b a3O fun I a w c b => ?_
 refine sl [.e,.q] b c fun a c => ?_
 refine W.gen fun J o => ?_
 refine rE b [] [0] [0, 1, 2, 3, 4, 5, 6, 7, 8, 9, 10, 11] [0, 1, 2, 3, 4, 5, 6, 7, 8, 9, 10, 11, 12] mixed ?_
 replace b := b.drew
 obtain ⟨K, A, x, p, d⟩ := gxS d
 obtain ⟨B, C, q, l⟩ := n.at p
 obtain ⟨L, M, N, O, rfl, v, P⟩ := q
 refine sr [.P 0 (.f 0),.P 1 (.f 0),.T 2 true (.b 2),.P 3 (.f 0),.T 4 true (.b 1),.P 5 (.x 72),.P 6 (.f 2)] c b (b.tail) fun a c => ?_
 refine tT (i := 7) true rfl c rfl (by kernel_rfl) (A6.load1 c rfl (fun w h => (l w _ h).one rfl) a3P) rfl b (b.tail) fun a c => ?_
 obtain ⟨Q, D, y, t, d⟩ := gxS d
 obtain ⟨E, F, u, z⟩ := v.at t
 subst u
 refine sr [.P 8 (.f 2),.T 9 true (.b 1),.P 10 (.x 75),.T 11 true .h] c b (b.tail) fun a c => ?_
 refine ro 12 false true ?_
 refine so [.A 0,.e] b c fun a w c b => ?_
 refine rf (b.tail) ?_
 refine Rg.done (by kernel_rfl) ?_
 subst o
 refine W.ret ?_
 refine a0b (fn := Tryz.f36) (rs := [.cell 4 75]) (vs := [_]) c rfl ⟨⟨_, rfl, .inl ⟨_, rfl, b.seesAt 0 rfl, b0k⟩⟩, trivial⟩ ?_
 obtain rfl := oi d
 replace b := pm [.D 0,.D 0,.D 0] b
 exact ⟨_, rfl, rfl, b⟩
set_option maxHeartbeats 8000000 in
theorem X4 {w : World} {x0 : D7} {i j : Option Addr} {k l : Nat} {x1 : A1} (c : St w s (R)) (d : Sl 4 A7 s i k x0.Day.Trains) (f : Sl 1 (RL 1 (RI .i64)) s j l x0.Day.Turns) {r : (List A1)} (h : P1 x0 x1 = some r) :
  Calls b2n 78 [.agg (List.toArray [.slice i x0.Day.Trains.length k, .slice j x0.Day.Turns.length l, vi x0.least]), .agg (A1.cells x1).toArray].toArray w (fun e w => ∃ (m : List Value) (t : Sg), e = .returned (.func (.func 90) #[] m.toArray) ∧ s.Le t ∧ a2v b2n 90 m (fun x => [Value.agg (A1.cells x).toArray]) t r ∧ St w t (R)) := by
 refine enter Tryz.func78 rfl rfl rfl fun a b => ?_
 rw [P1] at h
 refine sg [.s] c b fun a b => ?_
 refine bw b c fun z a w b c => ?_
 refine bw b c fun A a w b c => ?_
 refine sl [.p,.e,.s,.B 1,.B 0] c b fun a b => ?_
 obtain ⟨B, n, h⟩ := B4 h
 refine fq b (J3 c d f n) ?_; rintro _ w ⟨y, rfl, q, c⟩; refine ⟨_, rfl, fun a b => ?_⟩
 subst q
 refine al b c a3O fun C a w b c => ?_
 refine so [.A 0,.e,.s,.B 2,.f 0,.b 0,.f 2,.b 0,.f 2,.b 2,.p,.f 0,.b 1] c b fun a w b c => ?_
 obtain ⟨D, o, h⟩ := R8 h
 refine fq b (T9 c d f o) ?_; rintro _ w ⟨p, u, rfl, g, v, c⟩; refine ⟨_, rfl, fun a b => ?_⟩
 obtain ⟨d, f⟩ := m2 g d f
 refine sl [.p,.e] c b fun a b => ?_
 refine W.ret ?_
 refine fg [_] b ?_
 obtain rfl := oi h
 replace c := pm [.D 0,.D 0,.D 0] c
 exact ⟨p, u, rfl, g, v, c⟩
set_option maxHeartbeats 8000000 in
theorem T3 {w : World} {x0 : List A1} {D : Option Addr} {E F : Nat} {y K : List Value} {x1 : List A1} (b : St w s (B2 88 3 D E F y :: R)) (u : Ev 3 A8 s y x0) (I : x0.length = F) (H : a2v b2n 90 K (fun x => [Value.agg (A1.cells x).toArray]) s x1) {r : (List A1)} (J : D2 x0 x1 = some r) :
  Calls b2n 91 [.slice D F E, .func (.func 90) #[] K.toArray].toArray w (fun e w => ∃ (U : Option Addr) (V O : Nat) (L : List Value) (t : Sg), e = .returned (.slice U O V) ∧ s.Le t ∧ Ev 3 A8 t L r ∧ r.length = O ∧ St w t (B2 88 3 U V O L :: R)) := by
 refine enter Tryz.func91 rfl rfl rfl fun a c => ?_
 rw [D2] at J
 subst I
 refine sg [.s] b c fun a c => ?_
 refine bw c b fun A a w c b => ?_
 refine sl [.p,.e,.q,.s,.p,.e,.o] b c fun a c => ?_
 obtain ⟨M, p, J⟩ := B4 J
 refine W.cut (fun a w => ∃ d j k q g B n, s.Le n ∧ d = M ∧ Ev 3 A8 n g d ∧ d.length = q ∧ Rep a 13 [(2, pp A), (4294967295, vi (B : Nat))] ∧ St w n (pt B (.deferred (some [])) :: pc A #[.slice j q k] 40 :: B2 88 3 j k q g :: R)) ?_ ?_
 ·refine W.rangeFunc (l := x1) (ps := [7]) [] rfl c rfl b rfl H a9X (fun _ => rfl) rfl (fun G n Q_ => ∃ (i : List A1), ∃ (d : List A1), ∃ (j : Option Addr), ∃ (k : Nat), ∃ (q : Nat), ∃ (g : List Value), x1 = G ++ i ∧ D2.loop1 i d = some M ∧ s.Le n ∧ Ev 3 A8 n g d ∧ d.length = q ∧ Q_ = pc A #[.slice j q k] 40 :: B2 88 3 j k q g :: R) (fun _ _ _ => False) (fun _ _ _ h => (by obtain ⟨i, d, j, k, q, g, _, _, hle_, _⟩ := h; exact hle_)) ⟨x1, x0, D, E, x0.length, y, rfl, p, Sg.Le.refl _, u, (rfl), rfl⟩ (fun o (v : Nat) => [(2, pp A), (5, pp v)]) (fun o (v : Nat) => [pc v (A1.cells o).toArray 88]) ?_ ?_ ?_ ?_
  ·intro o a w ad R X c b
   refine W.region ?_
   refine al c b a0Z fun v a w c b => ?_
   refine so [.A 0,.e] b c fun a w c b => ?_
   exact ⟨v, c.pk, b⟩
  ·intro G o v n Q_ T_ X a w hpre_ hI_ c b
   obtain ⟨i, d, j, k, q, g, z, p, f, C, rfl, rfl⟩ := hI_
   obtain ⟨i, rfl⟩ := a1K z hpre_
   rw [D2.loop1] at p
   replace b : St w n (pc v (A1.cells o).toArray 88 :: pc A #[.slice j d.length k] 40 :: B2 88 3 j k d.length g :: (R ++ T_)) := b
   generalize P : R ++ T_ = R at b
   refine W.gen fun ae Q => ?_
   replace H := a2v.mono f H
   replace u := m1 f u
   refine sg [.o,.r,.b 1,.B 0] b c fun a c => ?_
   refine WL.lit c b (e := 88) (es := 3) (vs := [(0, .agg (A1.cells o).toArray)]) (cs := [vi o.Train, vi o.On, vi o.Off]) (A0 rfl) rfl (by kernel_rfl) rfl fun af a w c b => ?_
   obtain ⟨N, S, p⟩ := B4 p
   refine WL.appD c b 2 (m := 1) (A0 rfl) rfl rfl rfl a7F rfl C rfl (xs := [o]) (Ev.cons (c1 := [vi o.Train, vi o.On, vi o.Off]) rfl rfl (Ev.nil)) rfl rfl S rfl fun Y Z T a w aa c b => ?_
   refine so [.S 1,.e,.D 0] b c fun a w c b => ?_
   subst Q
   subst P
   exact ⟨n, _, ⟨i, N, Y, Z, N.length, T, z.trans (by simp), p, f, aa, (rfl), rfl⟩, b⟩
  ·intro n Q_ B a w hI_ c b
   obtain ⟨i, d, j, k, q, g, z, p, f, C, rfl, rfl⟩ := hI_
   obtain rfl := a2S z
   rw [D2.loop1] at p
   exact ⟨d, _, _, _, _, B, n, f, oi p, C, rfl, c.pk, b⟩
  exact fun _ _ _ _ _ _ _ h => h.elim
 clear c b a w; rintro a w ⟨d, j, k, q, g, B, n, f, rfl, C, rfl, c, b⟩
 replace H := a2v.mono f H
 replace u := m1 f u
 refine sg [.s,.b 1,.p,.e] b c fun a c => ?_
 refine W.ret ?_
 refine a5d (fn := Tryz.f91) (rs := [.tmp 4]) (vs := [.slice j d.length k]) c b 0 rfl rfl ?_
 clear b; intro w b
 refine ⟨⟨rfl, trivial⟩, ?_⟩
 obtain rfl := oi J
 replace b := b.tail
 exact ⟨j, k, d.length, g, n, rfl, f, C, rfl, b⟩
set_option maxHeartbeats 8000000 in
theorem a1U {w : World} {x0 : D7} {D E a1 : Option Addr} {F G c1 : Nat} {x1 : List A1} (c : St w s (R)) (g : Sl 4 A7 s D F x0.Day.Trains) (j : Sl 1 (RL 1 (RI .i64)) s E G x0.Day.Turns) (h1 : Sl 3 A8 s a1 c1 x1) {r : (List (List (F8 × Bool)))} (hr : H2 x0 x1 = some r) :
  Calls b2n 73 [.agg (List.toArray [.slice D x0.Day.Trains.length F, .slice E x0.Day.Turns.length G, vi x0.least]), .slice a1 x1.length c1].toArray w (fun e w => ∃ (an : List Nat) (t : Sg), e = .returned (.agg (K7 4 an).toArray) ∧ s.Le t ∧ an.length = 4 ∧ St w t (N3 G9.f Value.bool an r :: R)) := by
 refine enter Tryz.func73 rfl rfl rfl fun a b => ?_
 rw [H2] at hr
 refine sg [.s] c b fun a b => ?_
 refine bw b c fun O a w b c => ?_
 refine al b c a9k fun K a w b c => ?_
 replace c : St w s (pc K (K7 4 []).toArray 143 :: pc O #[.slice D x0.Day.Trains.length F, .slice E x0.Day.Turns.length G, vi x0.least] 66 :: R) := c
 refine sl [.e,.s] c b fun a b => ?_
 refine al b c a9k fun P a w b c => ?_
 replace c := c.mapsNil (fk := G9.f) (fv := Value.bool)
 replace c : St w s (N3 G9.f Value.bool [] [] :: pc P (K7 4 []).toArray 143 :: pc K (K7 4 []).toArray 143 :: pc O #[.slice D x0.Day.Trains.length F, .slice E x0.Day.Turns.length G, vi x0.least] 66 :: R) := c
 refine sl [.e,.s,.p,.p,.e,.q,.s,.p,.e] c b fun a b => ?_
 obtain ⟨aH, o, hr⟩ := B4 hr
 refine W.cut (fun a w => ∃ q Q V X n u, s.Le u ∧ (q, Q) = aH ∧ Sl 3 A8 u V X q ∧ Rep a 48 [(4, pp K), (5, pp P)] ∧ St w u (N3 G9.f Value.bool n Q :: pc P (K7 4 n).toArray 143 :: pc K (K7 4 []).toArray 143 :: pc O #[.slice D x0.Day.Trains.length F, .slice E x0.Day.Turns.length G, vi x0.least] 66 :: R)) ?_ ?_
 ·refine W.block ?_
  refine W.loop (fun m a w => ∃ l y q Q V X n u, l = m ∧ y + l = 4 ∧ s.Le u ∧ H2.loop1 x0 l y q Q = some aH ∧ Sl 3 A8 u V X q ∧ Rep a 48 [(2, pp O), (4, pp K), (5, pp P), (6, .slice V q.length X), (13, vi ((y : Nat) : Int))] ∧ St w u (N3 G9.f Value.bool n Q :: pc P (K7 4 n).toArray 143 :: pc K (K7 4 []).toArray 143 :: pc O #[.slice D x0.Day.Trains.length F, .slice E x0.Day.Turns.length G, vi x0.least] 66 :: R)) (m := 4) ⟨4, 0, x1, [], a1, c1, [], s, rfl, by omega, lr, o, h1, b.pk, c⟩ ?_
  clear b c a w o; rintro ba a w ⟨l, y, q, Q, V, X, n, u, rfl, aZ, J, o, A, b, c⟩
  refine W.gen fun bb ap => ?_
  obtain ⟨g, j, h1⟩ := m3 J g j h1
  rcases l with _ | l
  ·skip
   refine sg [.s,.p,.e,.q] c b fun a b => ?_
   refine W.condF b rfl (decide_eq_false (by omega)) ?_
   subst ap
   refine W.exit rfl ?_
   exact ⟨q, Q, V, X, n, u, J, oi o, A, b.pk, c⟩
  have aW : y < 4 := by omega
  rw [H2.loop1] at o
  refine sg [.s,.p,.e,.q] c b fun a b => ?_
  refine W.condT b rfl (decide_eq_true (by omega)) ?_
  refine sg [.k,.q,.o,.s,.p,.p,.e,.s,.p] c b fun a b => ?_
  refine WL.mkMap (fk := G9.f) (fv := Value.bool) b c (A0 rfl) rfl fun aT a w b c => ?_
  obtain ⟨_, aK, o⟩ := B4 o
  obtain ⟨aU, aI⟩ := a6L aK
  have af := c.mapsLen 1 rfl
  refine vP c b (A6.idxA b (n).length rfl rfl a6t (by rw [af]; exact aU) (by rw [af]; exact aI) ⟨_, _, rfl⟩) rfl fun a b => ?_
  refine WL.storeM b c 2 rfl (A0 rfl) rfl rfl a8K (by rw [af]; exact aI) rfl fun a w b c => ?_
  replace c := c.mapsSnoc 1 0 rfl rfl
  refine sl [.e,.s] c b fun a b => ?_
  replace c := c.vecNil 88 3
  refine sl [.p,.e,.q,.s,.p,.l 88 3,.p,.e] c b fun a b => ?_
  obtain ⟨aJ, d, o⟩ := B4 o
  refine W.cut (fun a w => ∃ x H L M S B p I, u.Le I ∧ (x, H) = aJ ∧ Ev 3 A8 I B x ∧ x.length = S ∧ Rep a 48 [(2, pp O), (4, pp K), (5, pp P), (8, .slice L S M), (13, vi ((y : Nat) : Int))] ∧ St w I (B2 88 3 L M S B :: N3 G9.f Value.bool p H :: pc P (K7 4 p).toArray 143 :: pc K (K7 4 []).toArray 143 :: pc O #[.slice D x0.Day.Trains.length F, .slice E x0.Day.Turns.length G, vi x0.least] 66 :: R)) ?_ ?_
  ·refine W.block ?_
   refine W.loop (fun m a w => ∃ f aa x H L M S B p I, f.length = m ∧ q.drop aa = f ∧ u.Le I ∧ H2.loop2 x0 y f x H = some aJ ∧ Ev 3 A8 I B x ∧ x.length = S ∧ Rep a 48 [(2, pp O), (4, pp K), (5, pp P), (7, vi ((y : Nat) : Int)), (8, .slice L S M), (13, vi ((y : Nat) : Int)), (19, .slice V q.length X), (20, vi ((q).length : Int)), (21, vi ((aa : Nat) : Int))] ∧ St w I (B2 88 3 L M S B :: N3 G9.f Value.bool p H :: pc P (K7 4 p).toArray 143 :: pc K (K7 4 []).toArray 143 :: pc O #[.slice D x0.Day.Trains.length F, .slice E x0.Day.Turns.length G, vi x0.least] 66 :: R)) (m := q.length) ⟨q, 0, [], (Q ++ [[]]), none, 0, 0, [], (n ++ [aT]), u, rfl, rfl, lr, d, (Ev.nil), (rfl), b.pk, c⟩ ?_
   clear b c a w d; rintro bc a w ⟨f, aa, x, H, L, M, S, B, p, I, rfl, Y, C, d, T, rfl, b, c⟩
   refine W.gen fun bd ag => ?_
   obtain ⟨A, g, j⟩ := m3 C A g j
   rcases f with _ | ⟨N, f⟩
   ·have av := E8 Y
    refine sg [.s,.p,.e,.q] c b fun a b => ?_
    refine W.condF b rfl (decide_eq_false (by omega)) ?_
    subst ag
    refine W.exit rfl ?_
    exact ⟨x, H, L, M, x.length, B, p, I, C, oi d, T, rfl, b.pk, c⟩
   obtain ⟨av, aL, Y⟩ := C3 Y
   rw [H2.loop2] at d
   refine sg [.s,.p,.e,.q] c b fun a b => ?_
   refine W.condT b rfl (decide_eq_true (by omega)) ?_
   obtain ⟨a0, aX, aw, aV⟩ := A.at aL
   subst aw
   refine sg [.k,.q,.o,.s,.x 88,.h] c b fun a b => ?_
   refine al b c a0Z fun a2 a w b c => ?_
   refine so [.A 0,.e,.s,.f 0,.b 0,.f 2,.b 0] c b fun a w b c => ?_
   refine vP c b (A6.build b (vs := [(0, vi N.Train), (1, vi N.Off)]) [vi N.Train, vi N.Off] rfl (by kernel_rfl)) rfl fun a b => ?_
   refine al b c a8V fun a3 a w b c => ?_
   refine so [.A 0,.e,.q,.q] c b fun a w b c => ?_
   refine rQ c mixed ?_
   refine sq [.p] b fun a b => ?_
   obtain ⟨a4, ax, d⟩ := B4 d
   obtain ⟨ay, aq, ai⟩ := a4F ax
   obtain ⟨a5, aj⟩ := c.mapsAt 3 rfl ai
   refine qP b (A6.idxA b ((((y : Nat) : Int)).toNat) rfl rfl a6t ay aq ⟨_, _, rfl⟩) rfl fun a b => ?_
   refine qP b (A6.load1 b rfl (fun w h => St.mapsSees h 4 rfl aj) a8K) rfl fun a b => ?_
   refine sq [.B 0] b fun a b => ?_
   refine qP b (A6.mapsGetS G9 b 3 (k := (F8.mk N.Train N.Off)) (z := false) aj ai rfl rfl rfl a9T zm4) rfl fun a b => ?_
   refine QL.nil ?_; clear c w; intro w c
   refine W.cond b rfl (fun Z => ?_) (fun Z => ?_)
   ·replace d := iteT Z d
    refine W.exit rfl ?_
    have := A.small
    refine sm [.r,.i,.p,.e,.D 0,.D 0] c b fun a w b c => ?_
    subst ag
    exact ⟨f.length, b2p _, f, aa + 1, x, H, L, M, x.length, B, p, I, rfl, Y, C, d, T, rfl, b.pk, c⟩
   replace d := iteF Z d
   refine sg [.k,.q] c b fun a b => ?_
   refine W.gen fun a6 az => ?_
   refine rE c [] [3, 3] [0, 1, 2, 3] [0, 1, 2, 3, 4] mixed ?_
   replace c := c.drew
   refine sr [.P 0 .p] b c ((c.dropAt 3).dropAt 3) fun a b => ?_
   obtain ⟨aM, aA, d⟩ := B4 d
   obtain ⟨aB, ar, ak⟩ := a4F aA
   obtain ⟨a7, am⟩ := c.mapsAt 3 rfl ak
   refine tP (i := 1) b rfl (by kernel_rfl) (A6.idxA b ((((y : Nat) : Int)).toNat) rfl rfl a6t aB ar ⟨_, _, rfl⟩) rfl c ((c.dropAt 3).dropAt 3) fun a b => ?_
   refine tT (i := 2) true rfl b rfl (by kernel_rfl) (A6.load1 b rfl (fun w h => St.mapsSees h 4 rfl am) a8K) rfl c ((c.dropAt 3).dropAt 3) fun a b => ?_
   refine sr [.T 3 true (.B 0)] b c ((c.dropAt 3).dropAt 3) fun a b => ?_
   refine ro 4 false true ?_
   refine WL.mapsSetS G9 b c 3 (k := (F8.mk N.Train N.Off)) (v := true) (.inl rfl) am ak (A0 rfl) rfl rfl rfl rfl a9T rfl fun a w b c => ?_
   refine WL.nil ?_
   refine rf ((c.dropAt 3).dropAt 3) ?_
   refine Rg.done (by kernel_rfl) ?_
   subst az
   refine sg [.r,.p,.B 6,.B 1] c b fun a b => ?_
   obtain ⟨a8, aC, d⟩ := B4 d
   refine fq b (X4 c g j aC) ?_; rintro _ w ⟨aY, a9, rfl, ad, ah, c⟩; refine ⟨_, rfl, fun a b => ?_⟩
   obtain ⟨A, g, j, T⟩ := m4 ad A g j T
   obtain ⟨au, aD, d⟩ := B4 d
   replace c := c.front 2 rfl
   refine fq b (T3 c T rfl ah aD) ?_; rintro _ w ⟨aN, aO, a_, aE, aP, rfl, U, aQ, rfl, c⟩; refine ⟨_, rfl, fun a b => ?_⟩
   obtain ⟨A, g, j⟩ := m3 U A g j
   replace ah := a2v.mono U ah
   replace T := m1 U T
   have := A.small
   refine so [.p,.e,.r,.i,.p,.e,.D 1,.D 1] c b fun a w b c => ?_
   subst ag
   exact ⟨f.length, b2p _, f, aa + 1, au, (H.set ((((y : Nat) : Int)).toNat) (O1 aM (F8.mk N.Train N.Off) true)), aN, aO, au.length, aE, p, aP, rfl, Y, (Sg.Le.trans (Sg.Le.trans C ad) U), d, aQ, rfl, b.pk, c⟩
  clear b c a w; rintro a w ⟨x, H, L, M, S, B, p, I, C, rfl, T, rfl, b, c⟩
  dsimp only at o
  obtain ⟨A, g, j⟩ := m3 C A g j
  refine sg [.r,.p,.p,.e,.r,.i,.p,.e] c b fun a b => ?_
  have hF := c.fixD A8.mono 0 rfl T rfl; clear c; obtain ⟨aR, ae, c, aS⟩ := hF
  obtain ⟨g, j⟩ := m2 ae g j
  subst ap
  exact ⟨l, b2p _, l, y + 1, x, H, L, M, p, aR, rfl, (by omega), (Sg.Le.trans (Sg.Le.trans J C) ae), o, aS, b.pk, c⟩
 clear b c a w; rintro a w ⟨q, Q, V, X, n, u, J, rfl, A, b, c⟩
 dsimp only at hr
 obtain ⟨g, j, h1⟩ := m3 J g j h1
 refine sg [.s] c b fun a b => ?_
 obtain ⟨_, aF, hr⟩ := B4 hr
 have aG : (n).length = 4 := (c.mapsLen 0 rfl).trans (a6i aF)
 refine vP c b (A6.loadBA b 1 rfl rfl (by rw [R5 (by omega)]; exact a8b)) rfl fun a b => ?_
 refine WL.storeMA b c 2 rfl (A0 rfl) rfl rfl a8b (by decide) (by omega) rfl fun a w b c => ?_
 refine WL.nil ?_
 refine W.ret ?_
 refine a0b (fn := Tryz.f73) (rs := [.cell 4 143]) (vs := [_]) b rfl ⟨⟨_, rfl, .inl ⟨_, rfl, c.seesAt 2 rfl, (by rw [R5 (by omega)]; exact a8b)⟩⟩, trivial⟩ ?_
 obtain rfl := oi hr
 replace c := pm [.D 1,.D 1,.D 1] c
 exact ⟨n, u, rfl, J, aG, c⟩
set_option maxHeartbeats 8000000 in
theorem a0F {w : World} {x0 : Int} (c : St w s (R))  {r : Bool} (d : N2 x0 = r) :
  Calls b2n 76 [vi x0].toArray w (fun e w => e = .returned (.bool r) ∧ St w s (R)) := by
 refine enter Tryz.func76 rfl rfl rfl fun a b => ?_
 rw [N2] at d
 refine sg [.s,.p,.e,.s,.p,.p,.p,.p,.e] c b fun a b => ?_
 refine W.ret ?_
 refine fg [_] b ?_
 subst d
 exact ⟨rfl, c⟩
set_option maxHeartbeats 8000000 in
theorem R1 {w : World} {x0 x1 r : Int} (d : St w s (R))  (c : B3 x0 x1 = r) :
  Calls b2n 59 [vi x0, vi x1].toArray w (fun e w => e = .returned (vi r) ∧ St w s (R)) := by
 refine enter Tryz.func59 rfl rfl rfl fun a b => ?_
 rw [B3] at c
 refine sg [.s,.p,.e,.s,.p] d b fun a b => ?_
 refine fq b (a0F d  rfl (r := N2 x0)) ?_; rintro _ w ⟨rfl, d⟩; refine ⟨_, rfl, fun a b => ?_⟩
 refine sl [.p,.e,.s,.p] d b fun a b => ?_
 refine fq b (a0F d  rfl (r := N2 x1)) ?_; rintro _ w ⟨rfl, d⟩; refine ⟨_, rfl, fun a b => ?_⟩
 refine sl [.p,.e,.q,.s,.p,.e] d b fun a b => ?_
 refine W.cond b rfl (fun f => ?_) (fun f => ?_)
 ·replace c := iteT f c
  refine sg [.q,.s,.p,.e] d b fun a b => ?_
  refine W.cond b rfl (fun g => ?_) (fun g => ?_)
  ·replace c := iteT g c
   refine sg [.s,.p,.e] d b fun a b => ?_
   refine W.ret ?_
   refine fg [_] b ?_
   subst c
   exact ⟨rfl, d⟩
  replace c := iteF g c
  refine sg [.k,.s,.p,.e] d b fun a b => ?_
  refine W.ret ?_
  refine fg [_] b ?_
  subst c
  exact ⟨rfl, d⟩
 replace c := iteF f c
 refine sg [.k,.q,.s,.p,.e] d b fun a b => ?_
 refine W.cond b rfl (fun h => ?_) (fun h => ?_)
 ·replace c := iteT h c
  refine sg [.s,.p,.e] d b fun a b => ?_
  refine W.ret ?_
  refine fg [_] b ?_
  subst c
  exact ⟨rfl, d⟩
 replace c := iteF h c
 refine sg [.k,.q,.s,.p,.p,.p,.e] d b fun a b => ?_
 refine W.cond b rfl (fun i => ?_) (fun i => ?_)
 ·replace c := iteT i c
  refine sg [.s,.p,.e] d b fun a b => ?_
  refine W.ret ?_
  refine fg [_] b ?_
  subst c
  exact ⟨rfl, d⟩
 replace c := iteF i c
 refine sg [.k,.q,.s,.p,.p,.p,.e] d b fun a b => ?_
 refine W.cond b rfl (fun j => ?_) (fun j => ?_)
 ·replace c := iteT j c
  refine sg [.s,.p,.e] d b fun a b => ?_
  refine W.ret ?_
  refine fg [_] b ?_
  subst c
  exact ⟨rfl, d⟩
 replace c := iteF j c
 refine sg [.k,.s,.p,.e] d b fun a b => ?_
 refine W.ret ?_
 refine fg [_] b ?_
 subst c
 exact ⟨rfl, d⟩
set_option maxHeartbeats 8000000 in
theorem a3G {w : World} {x0 : List Int} {o : Option Addr} {p : Nat} (f : St w s (R)) (u : Sl 1 (RI .i64) s o p x0) {r : Int} (h : M4 x0 = r) :
  Calls b2n 58 [.slice o x0.length p].toArray w (fun e w => e = .returned (vi r) ∧ St w s (R)) := by
 refine enter Tryz.func58 rfl rfl rfl fun a b => ?_
 rw [M4] at h
 refine sg [.s,.p,.e,.s,.p,.e,.q,.s,.p,.l 3 1,.p,.e] f b fun a b => ?_
 obtain ⟨n, d, h⟩ := R8 h
 refine W.cut (fun a w => (.next ()) = n ∧ Rep a 18 [(3, vi 0)] ∧ St w s (R)) ?_ ?_
 ·refine W.block ?_
  refine W.loop (fun m a w => ∃ c k, c.length = m ∧ x0.drop k = c ∧ M4.loop1 c = n ∧ Rep a 18 [(3, vi 0), (6, .slice o x0.length p), (7, vi ((x0).length : Int)), (8, vi ((k : Nat) : Int))] ∧ St w s (R)) (m := x0.length) ⟨x0, 0, rfl, rfl, d, b.pk, f⟩ ?_
  clear b f a w d; rintro z a w ⟨c, k, rfl, g, d, b, f⟩
  refine W.gen fun A i => ?_
  rcases c with _ | ⟨B, c⟩
  ·have l := E8 g
   refine sg [.s,.p,.e,.q] f b fun a b => ?_
   refine W.condF b rfl (decide_eq_false (by omega)) ?_
   subst i
   refine W.exit rfl ?_
   exact ⟨d, b.pk, f⟩
  obtain ⟨l, q, g⟩ := C3 g
  rw [M4.loop1] at d
  refine sg [.s,.p,.e,.q] f b fun a b => ?_
  refine W.condT b rfl (decide_eq_true (by omega)) ?_
  obtain ⟨x, y, t, v⟩ := u.at q
  subst t
  refine sg [.k,.q,.o,.s,.x 3,.H,.p,.e,.s,.p,.p,.p,.e] f b fun a b => ?_
  refine W.cond b rfl (fun j => ?_) (fun j => ?_)
  ·replace d := iteT j d
   refine sg [.s,.p,.p,.e] f b fun a b => ?_
   refine W.ret ?_
   subst i
   rw [← d] at h
   dsimp only at h
   refine fg [_] b ?_
   subst h
   exact ⟨rfl, f⟩
  replace d := iteF j d
  have := u.small
  refine sg [.k,.r,.i,.p,.e] f b fun a b => ?_
  subst i
  exact ⟨c.length, b2p _, c, k + 1, rfl, g, d, b.pk, f⟩
 clear b f a w; rintro a w ⟨rfl, b, f⟩
 dsimp only at h
 refine sg [.s,.p,.p,.e] f b fun a b => ?_
 refine W.ret ?_
 refine fg [_] b ?_
 subst h
 exact ⟨rfl, f⟩
end Go.Proofs.YthllfhmpjclplaaGreatDoor
