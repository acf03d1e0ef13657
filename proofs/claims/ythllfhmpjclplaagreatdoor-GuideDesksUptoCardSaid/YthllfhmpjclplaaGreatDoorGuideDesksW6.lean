/- The walks of the functions that GuideDesks reaches: each call comes to what its mirror says. The conditions are those of each contract. -/
import Derived.Test.YthllfhmpjclplaaGreatDoorGuideDesksW5
set_option maxRecDepth 10000
open List renaming eraseIdx → b2E
open Nat renaming lt_succ_self → b2p
open Bool renaming eq_false_or_eq_true → b2o
namespace Go.Proofs.YthllfhmpjclplaaGreatDoor
open Go Go.Fp
variable {s : Sg} {R : List HP}
set_option maxHeartbeats 8000000 in
theorem Z2 {fu K ad ae p q k bh l bB : Nat}  {w : World} {x1 x3 : Int} {x2 : B0} {af ag u v n o : Option Addr} {y0 : F3} {g : a0o} {G : List Value} (c : St w s (pc K #[.slice u y0.Newest.Trains.length p, .slice v y0.Newest.Turns.length q, vi y0.Least, vi y0.Time, .slice n bh k, .slice o bB l] 39 :: M5 83 1 n k bh g :: B2 50 5 o l bB G :: R)) (aE : Sl 4 A7 s af ad x2.Trains) (aF : Sl 1 (RL 1 (RI .i64)) s ag ae x2.Turns) (Y : Sl 4 A7 s u p y0.Newest.Trains) (Z : Sl 1 (RL 1 (RI .i64)) s v q y0.Newest.Turns) (aY : HEv 1 C9 s g y0.sold) (c4 : y0.sold.length = bh) (a4 : Ev 5 A5 s G y0.Told) (c5 : y0.Told.length = bB) {r : (List A4) × (List C4)} (hr : C1 fu x1 x2 x3 y0 = some r) :
  Calls Tryz.prog 33 [pp K, vi x1, .agg (List.toArray [.slice af x2.Trains.length ad, .slice ag x2.Turns.length ae]), vi x3].toArray w (fun e w => ∃ (a0 : Option Addr) (c0 : Nat) (cJ : a0o) (t : Sg), e = .returned (.slice a0 r.1.length c0) ∧ s.Le t ∧ Sl 5 A5 t a0 c0 r.1 ∧ HEv 1 C9 t cJ r.2 ∧ r.2.length = bh ∧ St w t (pc K #[.slice u y0.Newest.Trains.length p, .slice v y0.Newest.Turns.length q, vi y0.Least, vi y0.Time, .slice n bh k, .slice o bB l] 39 :: M5 83 1 n k bh cJ :: B2 50 5 o l bB G :: R)) := by
 refine enter Tryz.func33 rfl rfl rfl fun a d => ?_
 rw [C1] at hr
 subst c4
 subst c5
 refine sg [.s] c d fun a d => ?_
 refine bw d c fun U a w d c => ?_
 refine sl [.p,.e,.s,.p,.n,.f 4,.b 1,.p] c d fun a d => ?_
 obtain ⟨b, eL, gs, cK, hr⟩ := gxS hr
 have c6 := (c.hotOpen 2 rfl).vecAok 0 rfl (by omega : (x1).toNat < y0.sold.length)
 refine vP c d (A6.idx d ((x1).toNat) rfl rfl a9I eL (by omega) c6) rfl fun a d => ?_
 obtain ⟨iy, eM, eN⟩ := HEv.at aY cK
 obtain ⟨aa, z, A, L, M, iz, cL, N, P, iA, cM, Q, S, iB, cN, ck, f5, aO, f6, rfl, f7, rfl, f8, rfl⟩ := eN
 subst f5
 refine vP c d (A6.load1 d rfl (fun w h => (St.hotSees h 2 rfl ck rfl).one (j := 0) rfl) a9q) rfl fun a d => ?_
 refine sl [.p,.e] c d fun a d => ?_
 have bP : (x1).toNat < y0.sold.length := (List.getElem?_eq_some_iff.1 cK).1
 replace c : St _ s (pc aa #[vi b.Promise.From, vi b.Promise.To, vi b.Promise.Dep, vi b.Promise.Arr, vi b.Promise.State, .slice z b.Promise.Journey.Rides.length A, .slice L b.over.length M, .slice N b.came.length P, .slice Q b.offs.length S, vi b.place, vi b.when] 82 :: B2 4 1 L M b.over.length cL :: B2 3 1 N P b.came.length cM :: B2 3 1 Q S b.offs.length cN :: B2 83 1 n k y0.sold.length g.cs :: L5 (b2E g.hs ((x1).toNat)) :: pc U #[.slice af x2.Trains.length ad, .slice ag x2.Turns.length ae] 25 :: pc K #[.slice u y0.Newest.Trains.length p, .slice v y0.Newest.Turns.length q, vi y0.Least, vi y0.Time, .slice n y0.sold.length k, .slice o y0.Told.length l] 39 :: B2 50 5 o l y0.Told.length G :: R) := St.hotObjOpen 2 c rfl eM
 refine sg [.s,.p,.n,.f 0,.f 5,.f 0,.b 0,.p,.e,.s,.p,.l 88 3] c d fun a d => ?_
 obtain ⟨f, c7, hr⟩ := B4 hr
 refine WL.mkD (Rr := RB) d c (A0 rfl) rfl rfl a2d zr4 rfl c7 rfl fun E c8 a w eO d c => ?_
 refine sl [.p,.e,.q,.s,.p,.l 88 3,.p,.e] c d fun a d => ?_
 obtain ⟨cO, aP, hr⟩ := B4 hr
 refine W.cut (fun a w => ∃ aG aq au av H B C D, (aG, aq, au, av) = cO ∧ Ev 1 RB s H aG ∧ aG.length = f.length ∧ Ev 1 RB s B aq ∧ aq.length = b.over.length ∧ Ev 1 (RI .i64) s C au ∧ au.length = b.came.length ∧ Ev 1 (RI .i64) s D av ∧ av.length = b.offs.length ∧ Rep a 328 [(0, pp K), (1, vi x1), (3, vi x3), (6, pp U), (9, pp aa), (10, .slice z b.Promise.Journey.Rides.length A), (11, .slice (some ⟨E, 0, none⟩) f.length f.length)] ∧ St w s (B2 4 1 (some ⟨E, 0, none⟩) f.length f.length H :: pc aa #[vi b.Promise.From, vi b.Promise.To, vi b.Promise.Dep, vi b.Promise.Arr, vi b.Promise.State, .slice z b.Promise.Journey.Rides.length A, .slice L b.over.length M, .slice N b.came.length P, .slice Q b.offs.length S, vi b.place, vi b.when] 82 :: B2 4 1 L M b.over.length B :: B2 3 1 N P b.came.length C :: B2 3 1 Q S b.offs.length D :: B2 83 1 n k y0.sold.length g.cs :: L5 (b2E g.hs ((x1).toNat)) :: pc U #[.slice af x2.Trains.length ad, .slice ag x2.Turns.length ae] 25 :: pc K #[.slice u y0.Newest.Trains.length p, .slice v y0.Newest.Turns.length q, vi y0.Least, vi y0.Time, .slice n y0.sold.length k, .slice o y0.Told.length l] 39 :: B2 50 5 o l y0.Told.length G :: R)) ?_ ?_
 ·refine W.block ?_
  refine W.loop (fun m a w => ∃ aN aM aG aq au av H B C D, aN.length = m ∧ b.Promise.Journey.Rides.drop aM = aN ∧ C1.loop1 x3 y0 aN aM aG aq au av = some cO ∧ Ev 1 RB s H aG ∧ aG.length = f.length ∧ Ev 1 RB s B aq ∧ aq.length = b.over.length ∧ Ev 1 (RI .i64) s C au ∧ au.length = b.came.length ∧ Ev 1 (RI .i64) s D av ∧ av.length = b.offs.length ∧ Rep a 328 [(0, pp K), (1, vi x1), (3, vi x3), (6, pp U), (9, pp aa), (10, .slice z b.Promise.Journey.Rides.length A), (11, .slice (some ⟨E, 0, none⟩) f.length f.length), (44, .slice z b.Promise.Journey.Rides.length A), (45, vi ((b.Promise.Journey.Rides).length : Int)), (46, vi ((aM : Nat) : Int))] ∧ St w s (B2 4 1 (some ⟨E, 0, none⟩) f.length f.length H :: pc aa #[vi b.Promise.From, vi b.Promise.To, vi b.Promise.Dep, vi b.Promise.Arr, vi b.Promise.State, .slice z b.Promise.Journey.Rides.length A, .slice L b.over.length M, .slice N b.came.length P, .slice Q b.offs.length S, vi b.place, vi b.when] 82 :: B2 4 1 L M b.over.length B :: B2 3 1 N P b.came.length C :: B2 3 1 Q S b.offs.length D :: B2 83 1 n k y0.sold.length g.cs :: L5 (b2E g.hs ((x1).toNat)) :: pc U #[.slice af x2.Trains.length ad, .slice ag x2.Turns.length ae] 25 :: pc K #[.slice u y0.Newest.Trains.length p, .slice v y0.Newest.Turns.length q, vi y0.Least, vi y0.Time, .slice n y0.sold.length k, .slice o y0.Told.length l] 39 :: B2 50 5 o l y0.Told.length G :: R)) (m := b.Promise.Journey.Rides.length) ⟨b.Promise.Journey.Rides, 0, f, b.over, b.came, b.offs, c8, cL, cM, cN, rfl, rfl, aP, eO, (rfl), f6, (rfl), f7, (rfl), f8, (rfl), d.pk, c⟩ ?_
  clear d c a w aP; rintro hD a w ⟨aN, aM, aG, aq, au, av, H, B, C, D, rfl, bm, aP, aS, aJ, an, az, aD, aA, aH, aB, d, c⟩
  refine W.gen fun hG cl => ?_
  rcases aN with _ | ⟨cP, aN⟩
  ·have cQ := E8 bm
   refine sg [.s,.p,.e,.q] c d fun a d => ?_
   refine W.condF d rfl (decide_eq_false (by omega)) ?_
   subst cl
   refine W.exit rfl ?_
   exact ⟨aG, aq, au, av, H, B, C, D, oi aP, aS, aJ, an, az, aD, aA, aH, aB, d.pk, c⟩
  obtain ⟨cQ, c9, bm⟩ := C3 bm
  rw [C1.loop1] at aP
  refine sg [.s,.p,.e,.q] c d fun a d => ?_
  refine W.condT d rfl (decide_eq_true (by omega)) ?_
  obtain ⟨gt, gu, c_, f9⟩ := aO.at c9
  subst c_
  refine sg [.k,.q,.o,.s,.p,.x 88,.h] c d fun a d => ?_
  refine al d c a0Z fun cR a w d c => ?_
  obtain ⟨hH, gv, f_, da, aP⟩ := gxS aP
  obtain ⟨gw, gy, db, gz, fU⟩ := an.at da
  subst db
  refine so [.p,.A 0,.e,.s,.p,.n,.f 6,.b 2,.p,.y 3,.g 3,.p,.e] c d fun a w d c => ?_
  obtain ⟨eP, aQ, aP⟩ := B4 aP
  refine W.cut (fun a w => ∃ bC bD bE bF bn bo bp bq, (bC, bD, bE, bF) = eP ∧ Ev 1 RB s bn bC ∧ bC.length = f.length ∧ Ev 1 RB s bo bD ∧ bD.length = b.over.length ∧ Ev 1 (RI .i64) s bp bE ∧ bE.length = b.came.length ∧ Ev 1 (RI .i64) s bq bF ∧ bF.length = b.offs.length ∧ Rep a 328 [(0, pp K), (1, vi x1), (3, vi x3), (6, pp U), (9, pp aa), (10, .slice z b.Promise.Journey.Rides.length A), (11, .slice (some ⟨E, 0, none⟩) f.length f.length), (44, .slice z b.Promise.Journey.Rides.length A), (45, vi ((b.Promise.Journey.Rides).length : Int)), (46, vi ((aM : Nat) : Int))] ∧ St w s (pc cR (A1.cells cP).toArray 88 :: B2 4 1 (some ⟨E, 0, none⟩) f.length f.length bn :: pc aa #[vi b.Promise.From, vi b.Promise.To, vi b.Promise.Dep, vi b.Promise.Arr, vi b.Promise.State, .slice z b.Promise.Journey.Rides.length A, .slice L b.over.length M, .slice N b.came.length P, .slice Q b.offs.length S, vi b.place, vi b.when] 82 :: B2 4 1 L M b.over.length bo :: B2 3 1 N P b.came.length bp :: B2 3 1 Q S b.offs.length bq :: B2 83 1 n k y0.sold.length g.cs :: L5 (b2E g.hs ((x1).toNat)) :: pc U #[.slice af x2.Trains.length ad, .slice ag x2.Turns.length ae] 25 :: pc K #[.slice u y0.Newest.Trains.length p, .slice v y0.Newest.Turns.length q, vi y0.Least, vi y0.Time, .slice n y0.sold.length k, .slice o y0.Told.length l] 39 :: B2 50 5 o l y0.Told.length G :: R)) ?_ ?_
  ·refine W.gen fun hI cm => ?_
   refine W.cond d rfl (fun bQ => ?_) (fun bQ => ?_)
   ·replace aQ := iteT bQ aQ
    refine W.seq ?_
    refine W.gen fun hJ dc => ?_
    refine rE c [] [] [0, 1, 2, 3, 4, 5, 6, 7, 8, 9] [0, 1, 2, 3, 4, 5, 6, 7, 8, 9] mixed ?_
    replace c := c.drew
    refine sr [.P 0 .p,.T 1 true .n,.P 2 (.f 0),.T 3 true (.C 9 0 2),.T 4 true (.B 0),.P 5 (.f 2),.T 6 true (.b 0)] d c c fun a d => ?_
    refine ro 7 true true ?_
    obtain ⟨eQ, dd, aQ⟩ := B4 aQ
    refine fq d (I1 c Y Z dd) ?_; rintro _ w ⟨gA, rfl, eR, c⟩; refine ⟨_, rfl, fun a d => ?_⟩
    subst eR
    refine WL.nil ?_
    refine r3 c ?_
    refine sr [.P 8 (.v 2 3),.P 9 .p] d c c fun a d => ?_
    refine Rg.done (by kernel_rfl) ?_
    subst dc
    refine sg [.s,.p,.p,.p,.e] c d fun a d => ?_
    obtain ⟨eS, F, aQ⟩ := B4 aQ
    refine W.cut (fun a w => ∃ bG bH bI bJ br bs bt bu, (bG, bH, bI, bJ) = eS ∧ Ev 1 RB s br bG ∧ bG.length = f.length ∧ Ev 1 RB s bs bH ∧ bH.length = b.over.length ∧ Ev 1 (RI .i64) s bt bI ∧ bI.length = b.came.length ∧ Ev 1 (RI .i64) s bu bJ ∧ bJ.length = b.offs.length ∧ Rep a 328 [(0, pp K), (1, vi x1), (3, vi x3), (6, pp U), (9, pp aa), (10, .slice z b.Promise.Journey.Rides.length A), (11, .slice (some ⟨E, 0, none⟩) f.length f.length), (44, .slice z b.Promise.Journey.Rides.length A), (45, vi ((b.Promise.Journey.Rides).length : Int)), (46, vi ((aM : Nat) : Int))] ∧ St w s (pc cR (A1.cells cP).toArray 88 :: B2 4 1 (some ⟨E, 0, none⟩) f.length f.length br :: pc aa #[vi b.Promise.From, vi b.Promise.To, vi b.Promise.Dep, vi b.Promise.Arr, vi b.Promise.State, .slice z b.Promise.Journey.Rides.length A, .slice L b.over.length M, .slice N b.came.length P, .slice Q b.offs.length S, vi b.place, vi b.when] 82 :: B2 4 1 L M b.over.length bs :: B2 3 1 N P b.came.length bt :: B2 3 1 Q S b.offs.length bu :: B2 83 1 n k y0.sold.length g.cs :: L5 (b2E g.hs ((x1).toNat)) :: pc U #[.slice af x2.Trains.length ad, .slice ag x2.Turns.length ae] 25 :: pc K #[.slice u y0.Newest.Trains.length p, .slice v y0.Newest.Turns.length q, vi y0.Least, vi y0.Time, .slice n y0.sold.length k, .slice o y0.Told.length l] 39 :: B2 50 5 o l y0.Told.length G :: R)) ?_ ?_
    ·refine W.gen fun hK cn => ?_
     refine W.cond d rfl (fun bR => ?_) (fun bR => ?_)
     ·replace F := iteT bR F
      refine W.gen fun hL de => ?_
      refine rE c [] [3, 3, 3] [0, 1, 2, 3, 4, 5, 6, 7, 8, 9, 10, 11, 12, 13, 14, 15, 16, 17, 18, 19, 20, 21, 22, 23, 24, 25, 27, 29] [0, 1, 2, 3, 4, 5, 6, 7, 8, 9, 10, 11, 12, 13, 14, 15, 16, 17, 18, 19, 20, 21, 22, 23, 24, 25, 26, 27, 28, 29, 30] mixed ?_
      replace c := c.drew
      refine sr [.P 0 .p,.T 1 true .n,.P 2 (.f 6),.T 3 true (.b 2),.P 4 .p,.P 5 .p,.T 6 false .n,.P 7 (.f 7),.T 8 true (.b 2),.P 9 .p,.P 10 .p,.T 11 false .n,.P 12 (.f 8),.T 13 true (.b 2),.P 14 .p,.P 15 .p,.P 16 .p,.T 17 false .n,.P 18 (.f 0),.T 19 true (.C 9 0 2),.T 20 false (.B 0),.P 21 (.f 2),.T 22 false (.b 0)] d c (((c.dropAt 3).dropAt 3).dropAt 3) fun a d => ?_
      refine ro 23 true true ?_
      obtain ⟨eT, df, F⟩ := B4 F
      refine fq d (I1 c Y Z df) ?_; rintro _ w ⟨gB, rfl, eU, c⟩; refine ⟨_, rfl, fun a d => ?_⟩
      subst eU
      refine WL.nil ?_
      refine r2 c (((c.dropAt 3).dropAt 3).dropAt 3) ?_
      refine sr [.P 24 (.v 0 3)] d c (((c.dropAt 3).dropAt 3).dropAt 3) fun a d => ?_
      obtain ⟨_, dg, F⟩ := B4 F
      obtain ⟨eV, hM⟩ := S9 dg
      refine tP (i := 25) d rfl (by kernel_rfl) (A6.idx d ((((aM : Nat) : Int)).toNat) rfl rfl a9L eV (by have := az; omega) (c.vecAok 3 rfl (by have := az; omega : (((aM : Nat) : Int)).toNat < b.over.length))) rfl c (((c.dropAt 3).dropAt 3).dropAt 3) fun a d => ?_
      refine ro 26 false true ?_
      obtain ⟨eW, co, F⟩ := B4 F
      refine WL.setD d c 3 rfl (A0 rfl) rfl rfl (vs := [.bool true]) rfl ty4 rfl rfl rfl an az (S3 co).1 co rfl rfl fun dh a w eX di d c => ?_
      refine WL.nil ?_
      refine rf (((c.dropAt 3).dropAt 3).dropAt 3) ?_
      obtain ⟨_, dj, F⟩ := B4 F
      obtain ⟨eY, hN⟩ := S9 dj
      refine Rg.takeP (i := 27) d rfl (by kernel_rfl) (A0 rfl) (A6.idx d ((((aM : Nat) : Int)).toNat) rfl rfl a8S eY (by have := aA; omega) (c.vecAok 4 rfl (by have := aA; omega : (((aM : Nat) : Int)).toNat < b.came.length))) rfl (G2 (fun h => absurd h (by decide)) (fun _ => (((c.dropAt 3).dropAt 3).dropAt 3))) fun a d => ?_
      refine ro 28 false true ?_
      obtain ⟨eZ, cp, F⟩ := B4 F
      refine WL.setD d c 4 rfl (A0 rfl) rfl rfl (vs := [vi eQ.Arr]) rfl ty3 rfl rfl rfl aD aA (S3 cp).1 cp rfl rfl fun dk a w e0 dl d c => ?_
      refine WL.nil ?_
      refine rf (((c.dropAt 3).dropAt 3).dropAt 3) ?_
      obtain ⟨_, dm, F⟩ := B4 F
      obtain ⟨e1, hO⟩ := S9 dm
      refine Rg.takeP (i := 29) d rfl (by kernel_rfl) (A0 rfl) (A6.idx d ((((aM : Nat) : Int)).toNat) rfl rfl a8S e1 (by have := aB; omega) (c.vecAok 5 rfl (by have := aB; omega : (((aM : Nat) : Int)).toNat < b.offs.length))) rfl (G2 (fun h => absurd h (by decide)) (fun _ => (((c.dropAt 3).dropAt 3).dropAt 3))) fun a d => ?_
      refine ro 30 false true ?_
      obtain ⟨e2, cq, F⟩ := B4 F
      refine WL.setD d c 5 rfl (A0 rfl) rfl rfl (vs := [vi eT.Station]) rfl ty3 rfl rfl rfl aH aB (S3 cq).1 cq rfl rfl fun dn a w e3 dp d c => ?_
      refine WL.nil ?_
      refine rf (((c.dropAt 3).dropAt 3).dropAt 3) ?_
      refine Rg.done (by kernel_rfl) ?_
      subst de
      subst cn
      exact ⟨aG, eW, eZ, e2, H, dh, dk, dn, oi F, aS, aJ, eX, di, e0, dl, e3, dp, d.pk, c⟩
     replace F := iteF bR F
     refine W.gen fun hP dq => ?_
     refine rE c [] [1] [0, 1, 2, 3, 4, 5, 6, 7, 8, 9, 10, 11, 12, 13] [0, 1, 2, 3, 4, 5, 6, 7, 8, 9, 10, 11, 12, 13, 14] mixed ?_
     replace c := c.drew
     refine sr [.P 0 .p,.P 1 .p,.P 2 .p,.T 3 true .n,.P 4 (.f 0),.T 5 true (.C 9 0 2),.T 6 true (.B 0),.P 7 (.f 1),.T 8 true (.b 0),.P 11 .p] d c (c.dropAt 1) fun a d => ?_
     refine ro 9 true true ?_
     obtain ⟨e4, dr, F⟩ := B4 F
     refine fq d (I1 c Y Z dr) ?_; rintro _ w ⟨gC, rfl, e5, c⟩; refine ⟨_, rfl, fun a d => ?_⟩
     subst e5
     refine WL.nil ?_
     refine r2 c (c.dropAt 1) ?_
     refine sr [.P 10 (.v 3 3),.P 12 .p] d c (c.dropAt 1) fun a d => ?_
     obtain ⟨_, ds, F⟩ := B4 F
     obtain ⟨e6, hQ⟩ := S9 ds
     refine tP (i := 13) d rfl (by kernel_rfl) (A6.idx d ((((aM : Nat) : Int)).toNat) rfl rfl a9L e6 (by have := aJ; omega) (c.vecAok 1 rfl (by have := aJ; omega : (((aM : Nat) : Int)).toNat < f.length))) rfl c (c.dropAt 1) fun a d => ?_
     refine ro 14 false true ?_
     obtain ⟨e7, cr, F⟩ := B4 F
     refine WL.setD d c 1 rfl (A0 rfl) rfl rfl (vs := [.bool (decide (e4.Dep ≤ x3))]) rfl ty4 rfl rfl rfl aS aJ (S3 cr).1 cr rfl rfl fun dt a w e8 du d c => ?_
     refine WL.nil ?_
     refine rf (c.dropAt 1) ?_
     refine Rg.done (by kernel_rfl) ?_
     subst dq
     subst cn
     exact ⟨e7, aq, au, av, dt, B, C, D, oi F, e8, du, an, az, aD, aA, aH, aB, d.pk, c⟩
    clear d c a w; rintro a w ⟨bG, bH, bI, bJ, br, bs, bt, bu, rfl, e9, dw, e_, dx, fa, dy, fb, dz, d, c⟩
    dsimp only at aQ
    subst cm
    exact ⟨bG, bH, bI, bJ, br, bs, bt, bu, oi aQ, e9, dw, e_, dx, fa, dy, fb, dz, d.pk, c⟩
   replace aQ := iteF bQ aQ
   refine W.skip ?_
   subst cm
   exact ⟨aG, aq, au, av, H, B, C, D, oi aQ, aS, aJ, an, az, aD, aA, aH, aB, d.pk, c⟩
  clear d c a w; rintro a w ⟨bC, bD, bE, bF, bn, bo, bp, bq, rfl, fc, dA, fd, dB, fe, dC, ff, dD, d, c⟩
  dsimp only at aP
  have := aO.small
  refine sm [.r,.i,.p,.e,.D 0] c d fun a w d c => ?_
  subst cl
  exact ⟨aN.length, b2p _, aN, aM + 1, bC, bD, bE, bF, bn, bo, bp, bq, rfl, bm, aP, fc, dA, fd, dB, fe, dC, ff, dD, d.pk, c⟩
 clear d c a w; rintro a w ⟨aG, aq, au, av, H, B, C, D, rfl, aS, aJ, an, az, aD, aA, aH, aB, d, c⟩
 dsimp only at hr
 obtain ⟨hR, gD, ga, dE, hr⟩ := gxS hr
 obtain ⟨gE, gF, dF, gG, fV⟩ := an.at dE
 subst dF
 refine sg [.s,.p,.l 88 3,.p,.p,.e,.q,.s,.p,.n,.f 6,.b 1,.p,.y 2,.g 2,.e] c d fun a d => ?_
 refine W.cond d rfl (fun bS => ?_) (fun bS => ?_)
 ·replace hr := iteT bS hr
  refine sm [.s,.p,.n,.f 0,.f 4,.S 1,.e,.s,.p,.e] c d fun a w d c => ?_
  refine W.ret ?_
  replace c := pm [.F 6,.F 6,.F 6,.F 6,.F 6,.F 6] c
  have hF := St.hotObjClose (ps := [B2 4 1 L M b.over.length B, B2 3 1 N P b.came.length C, B2 3 1 Q S b.offs.length D]) (O := C9) (x := (C4.mk (C2.mk b.Promise.From b.Promise.To b.Promise.Dep b.Promise.Arr 3 b.Promise.Journey) aq au av b.place b.when)) c aY (rfl) bP ck ⟨_, _, _, _, _, _, _, _, _, _, _, _, _, _, _, rfl, rfl, aO, an, az, aD, aA, aH, aB⟩; clear c; obtain ⟨ct, c, fh, dG⟩ := hF
  replace c : St _ s (M5 83 1 n k y0.sold.length ct :: B2 4 1 (some ⟨E, 0, none⟩) f.length f.length H :: pc U #[.slice af x2.Trains.length ad, .slice ag x2.Turns.length ae] 25 :: pc K #[.slice u y0.Newest.Trains.length p, .slice v y0.Newest.Turns.length q, vi y0.Least, vi y0.Time, .slice n y0.sold.length k, .slice o y0.Told.length l] 39 :: B2 50 5 o l y0.Told.length G :: R) := c
  refine fg [_] d ?_
  obtain rfl := oi hr
  replace c := pm [.F 4,.F 1,.F 4,.D 3,.D 3] c
  exact ⟨none, 0, ct, s, rfl, lr, Sl.nil, fh, dG, c⟩
 replace hr := iteF bS hr
 refine sg [.k,.s,.p] c d fun a d => ?_
 obtain ⟨y, dH, hr⟩ := B4 hr
 refine fq d (G4 c aO dH) ?_; rintro _ w ⟨V, X, hT, dI, rfl, fi, rfl, c⟩; refine ⟨_, rfl, fun a d => ?_⟩
 refine sl [.p,.e,.q,.s,.p,.l 88 3,.p,.e] c d fun a d => ?_
 obtain ⟨cS, I, hr⟩ := B4 hr
 refine W.cut (fun a w => ∃ aI ak ai aj am, (.next (aI, ak, ai, aj)) = cS ∧ Ev 3 A8 s am aI ∧ aI.length = y.length ∧ Rep a 328 [(0, pp K), (1, vi x1), (3, vi x3), (6, pp U), (9, pp aa), (10, .slice z b.Promise.Journey.Rides.length A), (11, .slice (some ⟨E, 0, none⟩) f.length f.length), (15, vi (w64 (((b.Promise.Journey.Rides).length : Int) - 1))), (16, .slice V y.length X)] ∧ St w s (B2 88 3 V X y.length am :: B2 4 1 (some ⟨E, 0, none⟩) f.length f.length H :: pc aa #[vi b.Promise.From, vi b.Promise.To, vi b.Promise.Dep, vi b.Promise.Arr, vi ak, .slice z b.Promise.Journey.Rides.length A, .slice L b.over.length M, .slice N b.came.length P, .slice Q b.offs.length S, vi ai, vi aj] 82 :: B2 4 1 L M b.over.length B :: B2 3 1 N P b.came.length C :: B2 3 1 Q S b.offs.length D :: B2 83 1 n k y0.sold.length g.cs :: L5 (b2E g.hs ((x1).toNat)) :: pc U #[.slice af x2.Trains.length ad, .slice ag x2.Turns.length ae] 25 :: pc K #[.slice u y0.Newest.Trains.length p, .slice v y0.Newest.Turns.length q, vi y0.Least, vi y0.Time, .slice n y0.sold.length k, .slice o y0.Told.length l] 39 :: B2 50 5 o l y0.Told.length G :: R)) ?_ ?_
 ·refine W.block ?_
  refine W.loop (fun m a w => ∃ ax J aI ak ai aj am, ax.length = m ∧ b.Promise.Journey.Rides.drop J = ax ∧ C1.loop2 x1 x2 x3 y0 fu b aG aq au av ax J aI ak ai aj = some cS ∧ Ev 3 A8 s am aI ∧ aI.length = y.length ∧ Rep a 328 [(0, pp K), (1, vi x1), (3, vi x3), (6, pp U), (9, pp aa), (10, .slice z b.Promise.Journey.Rides.length A), (11, .slice (some ⟨E, 0, none⟩) f.length f.length), (15, vi (w64 (((b.Promise.Journey.Rides).length : Int) - 1))), (16, .slice V y.length X), (130, .slice z b.Promise.Journey.Rides.length A), (131, vi ((b.Promise.Journey.Rides).length : Int)), (132, vi ((J : Nat) : Int))] ∧ St w s (B2 88 3 V X y.length am :: B2 4 1 (some ⟨E, 0, none⟩) f.length f.length H :: pc aa #[vi b.Promise.From, vi b.Promise.To, vi b.Promise.Dep, vi b.Promise.Arr, vi ak, .slice z b.Promise.Journey.Rides.length A, .slice L b.over.length M, .slice N b.came.length P, .slice Q b.offs.length S, vi ai, vi aj] 82 :: B2 4 1 L M b.over.length B :: B2 3 1 N P b.came.length C :: B2 3 1 Q S b.offs.length D :: B2 83 1 n k y0.sold.length g.cs :: L5 (b2E g.hs ((x1).toNat)) :: pc U #[.slice af x2.Trains.length ad, .slice ag x2.Turns.length ae] 25 :: pc K #[.slice u y0.Newest.Trains.length p, .slice v y0.Newest.Turns.length q, vi y0.Least, vi y0.Time, .slice n y0.sold.length k, .slice o y0.Told.length l] 39 :: B2 50 5 o l y0.Told.length G :: R)) (m := b.Promise.Journey.Rides.length) ⟨b.Promise.Journey.Rides, 0, y, b.Promise.State, b.place, b.when, dI, rfl, rfl, I, fi, rfl, d.pk, c⟩ ?_
  clear d c a w I; rintro hU a w ⟨ax, J, aI, ak, ai, aj, am, rfl, ba, I, aT, ah, d, c⟩
  refine W.gen fun hV bv => ?_
  rcases ax with _ | ⟨a8, ax⟩
  ·have cT := E8 ba
   refine sg [.s,.p,.e,.q] c d fun a d => ?_
   refine W.condF d rfl (decide_eq_false (by omega)) ?_
   subst bv
   refine W.exit rfl ?_
   exact ⟨aI, ak, ai, aj, am, oi I, aT, ah, d.pk, c⟩
  obtain ⟨cT, dJ, ba⟩ := C3 ba
  rw [C1.loop2] at I
  refine sg [.s,.p,.e,.q] c d fun a d => ?_
  refine W.condT d rfl (decide_eq_true (by omega)) ?_
  obtain ⟨gH, gI, dK, gb⟩ := aO.at dJ
  subst dK
  refine sg [.k,.q,.o,.s,.p,.x 88,.h] c d fun a d => ?_
  refine al d c a0Z fun a9 a w d c => ?_
  obtain ⟨hW, gJ, gc, dL, I⟩ := gxS I
  obtain ⟨gK, gL, dM, gM, fW⟩ := an.at dL
  subst dM
  refine so [.p,.A 0,.e,.q,.s,.p,.n,.f 6,.b 3,.p,.y 4,.g 4,.e] c d fun a w d c => ?_
  refine W.cond d rfl (fun bT => ?_) (fun bT => ?_)
  ·replace I := iteT bT I
   refine W.exit rfl ?_
   have := aO.small
   refine sm [.r,.i,.p,.e,.D 0] c d fun a w d c => ?_
   subst bv
   exact ⟨ax.length, b2p _, ax, J + 1, aI, ak, ai, aj, am, rfl, ba, I, aT, ah, d.pk, c⟩
  replace I := iteF bT I
  refine sg [.k,.q] c d fun a d => ?_
  refine W.gen fun fj dN => ?_
  refine rE c [] [] [0, 1, 2, 3, 4, 5, 6, 7, 8, 9, 10, 11, 12] [0, 1, 2, 3, 4, 5, 6, 7, 8, 9, 10, 11, 12] mixed ?_
  replace c := c.drew
  refine sr [.P 0 .p,.T 1 true .n,.P 2 (.f 0),.T 3 true (.C 10 0 2),.T 4 true (.B 9),.T 5 true (.B 0)] d c c fun a d => ?_
  obtain ⟨aZ, cu, I⟩ := B4 I
  suffices key : ∀ aU (a : Act) (w : World), Sl 3 A8 s z A b.Promise.Journey.Rides → Ev 3 A8 s am aI → (aI).length = y.length → Ev 1 RB s H aG → (aG).length = f.length → HEv 1 C9 s g y0.sold → Ev 1 RB s B aq → (aq).length = b.over.length → Ev 1 (RI .i64) s C au → (au).length = b.came.length → Ev 1 (RI .i64) s D av → (av).length = b.offs.length → Sl 4 A7 s af ad x2.Trains → Sl 1 (RL 1 (RI .i64)) s ag ae x2.Turns → Sl 4 A7 s u p y0.Newest.Trains → Sl 1 (RL 1 (RI .i64)) s v q y0.Newest.Turns → Ev 5 A5 s G y0.Told → Rep a 328 [(0, pp K), (1, vi x1), (3, vi x3), (6, pp U), (9, pp aa), (10, .slice z b.Promise.Journey.Rides.length A), (11, .slice (some ⟨E, 0, none⟩) f.length f.length), (15, vi (w64 (((b.Promise.Journey.Rides).length : Int) - 1))), (16, .slice V y.length X), (17, vi ((J : Nat) : Int)), (19, pp aU), (20, .bool aZ.2), (130, .slice z b.Promise.Journey.Rides.length A), (131, vi ((b.Promise.Journey.Rides).length : Int)), (132, vi ((J : Nat) : Int))] → St w s (pc aU (A1.cells aZ.1).toArray 88 :: pc a9 (A1.cells a8).toArray 88 :: B2 88 3 V X y.length am :: B2 4 1 (some ⟨E, 0, none⟩) f.length f.length H :: pc aa #[vi b.Promise.From, vi b.Promise.To, vi b.Promise.Dep, vi b.Promise.Arr, vi ak, .slice z b.Promise.Journey.Rides.length A, .slice L b.over.length M, .slice N b.came.length P, .slice Q b.offs.length S, vi ai, vi aj] 82 :: B2 4 1 L M b.over.length B :: B2 3 1 N P b.came.length C :: B2 3 1 Q S b.offs.length D :: B2 83 1 n k y0.sold.length g.cs :: L5 (b2E g.hs ((x1).toNat)) :: pc U #[.slice af x2.Trains.length ad, .slice ag x2.Turns.length ae] 25 :: pc K #[.slice u y0.Newest.Trains.length p, .slice v y0.Newest.Turns.length q, vi y0.Least, vi y0.Time, .slice n y0.sold.length k, .slice o y0.Told.length l] 39 :: B2 50 5 o l y0.Told.length G :: R) → fj.nor a w by
   refine Rg.many 6 [10] (by kernel_rfl) ⟨?_, ?_, trivial⟩
   ·refine bk 6 true true ?_
    refine fq d (Y8 c Y Z aE aF cu) ?_; rintro _ w ⟨dO, rfl, ca, c⟩; refine ⟨_, rfl, fun a d => ?_⟩
    subst ca
    refine WL.nil ?_
    refine r3 c ?_
    refine sr [.P 7 .p,.P 8 .p,.P 9 .p] d c c fun a d => ?_
    refine ro 10 true true ?_
    refine al d c a0Z fun aU a w d c => ?_
    refine WL.nil ?_
    refine r3 (c.tail) ?_
    refine ro 11 true true ?_
    refine so [.A 0,.e] c d fun a w d c => ?_
    refine r3 (c.tail) ?_
    refine sr [.P 12 .p] d (c.tail) (c.tail) fun a d => ?_
    refine Rg.done (by kernel_rfl) ?_
    exact key _ _ _ aO aT ah aS aJ aY an az aD aA aH aB aE aF Y Z a4 d.pk c
   refine bk 10 true true ?_
   refine al d c a0Z fun aU a w d c => ?_
   refine WL.nil ?_
   refine r3 (c.tail) ?_
   refine ro 6 true true ?_
   refine fq d (Y8 c Y Z aE aF cu) ?_; rintro _ w ⟨dO, rfl, ca, c⟩; refine ⟨_, rfl, fun a d => ?_⟩
   subst ca
   refine WL.nil ?_
   refine r3 (c.tail) ?_
   refine sr [.P 7 .p,.P 8 .p,.P 9 .p] d (c.tail) (c.tail) fun a d => ?_
   refine ro 11 true true ?_
   refine so [.A 0,.e] c d fun a w d c => ?_
   refine r3 (c.tail) ?_
   refine sr [.P 12 .p] d (c.tail) (c.tail) fun a d => ?_
   refine Rg.done (by kernel_rfl) ?_
   exact key _ _ _ aO aT ah aS aJ aY an az aD aA aH aB aE aF Y Z a4 d.pk c
  clear d c a w; intro aU a w aO aT ah aS aJ aY an az aD aA aH aB aE aF Y Z a4 d c
  subst dN
  refine sg [.s,.p,.e,.q,.s,.p,.p,.e] c d fun a d => ?_
  obtain ⟨fk, aC, I⟩ := B4 I
  refine W.cut (fun a w => ∃ a5 bK bb, (a5, bK) = fk ∧ Ev 3 A8 s bb bK ∧ bK.length = y.length ∧ Rep a 328 [(0, pp K), (1, vi x1), (3, vi x3), (6, pp U), (9, pp aa), (10, .slice z b.Promise.Journey.Rides.length A), (11, .slice (some ⟨E, 0, none⟩) f.length f.length), (15, vi (w64 (((b.Promise.Journey.Rides).length : Int) - 1))), (16, .slice V y.length X), (17, vi ((J : Nat) : Int)), (21, vi a5), (130, .slice z b.Promise.Journey.Rides.length A), (131, vi ((b.Promise.Journey.Rides).length : Int)), (132, vi ((J : Nat) : Int))] ∧ St w s (pc aU (A1.cells aZ.1).toArray 88 :: pc a9 (A1.cells a8).toArray 88 :: B2 88 3 V X y.length bb :: B2 4 1 (some ⟨E, 0, none⟩) f.length f.length H :: pc aa #[vi b.Promise.From, vi b.Promise.To, vi b.Promise.Dep, vi b.Promise.Arr, vi ak, .slice z b.Promise.Journey.Rides.length A, .slice L b.over.length M, .slice N b.came.length P, .slice Q b.offs.length S, vi ai, vi aj] 82 :: B2 4 1 L M b.over.length B :: B2 3 1 N P b.came.length C :: B2 3 1 Q S b.offs.length D :: B2 83 1 n k y0.sold.length g.cs :: L5 (b2E g.hs ((x1).toNat)) :: pc U #[.slice af x2.Trains.length ad, .slice ag x2.Turns.length ae] 25 :: pc K #[.slice u y0.Newest.Trains.length p, .slice v y0.Newest.Turns.length q, vi y0.Least, vi y0.Time, .slice n y0.sold.length k, .slice o y0.Told.length l] 39 :: B2 50 5 o l y0.Told.length G :: R)) ?_ ?_
  ·refine W.gen fun hX cv => ?_
   refine W.cond d rfl (fun bU => ?_) (fun bU => ?_)
   ·replace aC := iteT bU aC
    refine sg [.r,.p,.e] c d fun a d => ?_
    subst cv
    exact ⟨1, aI, am, oi aC, aT, ah, d.pk, c⟩
   replace aC := iteF bU aC
   obtain ⟨_, dP, aC⟩ := B4 aC
   obtain ⟨hY, hZ⟩ := S9 dP
   refine sg [.s,.p,.p,.B 0,.y 2] c d fun a d => ?_
   obtain ⟨fl, cw, aC⟩ := B4 aC
   refine WL.setD d c 2 rfl (A0 rfl) rfl rfl (vs := [vi aZ.1.Train, vi aZ.1.On, vi aZ.1.Off]) rfl a4Z rfl rfl rfl aT ah (S3 cw).1 cw rfl rfl fun bc a w cb bd d c => ?_
   refine sl [.e,.q] c d fun a d => ?_
   obtain ⟨fm, a1, aC⟩ := B4 aC
   refine W.cut (fun a w => ∃ cc, cc = fm ∧ Rep a 328 [(0, pp K), (1, vi x1), (3, vi x3), (6, pp U), (9, pp aa), (10, .slice z b.Promise.Journey.Rides.length A), (11, .slice (some ⟨E, 0, none⟩) f.length f.length), (15, vi (w64 (((b.Promise.Journey.Rides).length : Int) - 1))), (16, .slice V y.length X), (17, vi ((J : Nat) : Int)), (19, pp aU), (21, vi 0), (130, .slice z b.Promise.Journey.Rides.length A), (131, vi ((b.Promise.Journey.Rides).length : Int)), (132, vi ((J : Nat) : Int)), (168, .bool cc)] ∧ St w s (pc aU (A1.cells aZ.1).toArray 88 :: pc a9 (A1.cells a8).toArray 88 :: B2 88 3 V X y.length bc :: B2 4 1 (some ⟨E, 0, none⟩) f.length f.length H :: pc aa #[vi b.Promise.From, vi b.Promise.To, vi b.Promise.Dep, vi b.Promise.Arr, vi ak, .slice z b.Promise.Journey.Rides.length A, .slice L b.over.length M, .slice N b.came.length P, .slice Q b.offs.length S, vi ai, vi aj] 82 :: B2 4 1 L M b.over.length B :: B2 3 1 N P b.came.length C :: B2 3 1 Q S b.offs.length D :: B2 83 1 n k y0.sold.length g.cs :: L5 (b2E g.hs ((x1).toNat)) :: pc U #[.slice af x2.Trains.length ad, .slice ag x2.Turns.length ae] 25 :: pc K #[.slice u y0.Newest.Trains.length p, .slice v y0.Newest.Turns.length q, vi y0.Least, vi y0.Time, .slice n y0.sold.length k, .slice o y0.Told.length l] 39 :: B2 50 5 o l y0.Told.length G :: R)) ?_ ?_
   ·refine W.gen fun h0 cx => ?_
    obtain ⟨fn, gN, gd, dQ, a1⟩ := gxS a1
    obtain ⟨gO, gP, dR, gQ, fX⟩ := aS.at dQ
    subst dR
    refine sg [.r,.p,.p,.y 3,.g 3,.p,.p] c d fun a d => ?_
    rcases b2o !fn with bV | bV
    ·replace a1 := iteT bV a1
     refine sl [.p,.p,.T,.e] c d fun a d => ?_
     subst cx
     exact ⟨decide (((J : Nat) : Int) > 0), oi a1, d.pk, c⟩
    replace a1 := iteF bV a1
    refine sl [.O,.O,.N,.e] c d fun a d => ?_
    subst cx
    exact ⟨false, oi a1, d.pk, c⟩
   clear d c a w; rintro a w ⟨cc, rfl, d, c⟩
   obtain ⟨fo, ap, aC⟩ := B4 aC
   refine W.cut (fun a w => ∃ bW, bW = fo ∧ Rep a 328 [(0, pp K), (1, vi x1), (3, vi x3), (6, pp U), (9, pp aa), (10, .slice z b.Promise.Journey.Rides.length A), (11, .slice (some ⟨E, 0, none⟩) f.length f.length), (15, vi (w64 (((b.Promise.Journey.Rides).length : Int) - 1))), (16, .slice V y.length X), (17, vi ((J : Nat) : Int)), (21, vi bW), (130, .slice z b.Promise.Journey.Rides.length A), (131, vi ((b.Promise.Journey.Rides).length : Int)), (132, vi ((J : Nat) : Int))] ∧ St w s (pc aU (A1.cells aZ.1).toArray 88 :: pc a9 (A1.cells a8).toArray 88 :: B2 88 3 V X y.length bc :: B2 4 1 (some ⟨E, 0, none⟩) f.length f.length H :: pc aa #[vi b.Promise.From, vi b.Promise.To, vi b.Promise.Dep, vi b.Promise.Arr, vi ak, .slice z b.Promise.Journey.Rides.length A, .slice L b.over.length M, .slice N b.came.length P, .slice Q b.offs.length S, vi ai, vi aj] 82 :: B2 4 1 L M b.over.length B :: B2 3 1 N P b.came.length C :: B2 3 1 Q S b.offs.length D :: B2 83 1 n k y0.sold.length g.cs :: L5 (b2E g.hs ((x1).toNat)) :: pc U #[.slice af x2.Trains.length ad, .slice ag x2.Turns.length ae] 25 :: pc K #[.slice u y0.Newest.Trains.length p, .slice v y0.Newest.Turns.length q, vi y0.Least, vi y0.Time, .slice n y0.sold.length k, .slice o y0.Told.length l] 39 :: B2 50 5 o l y0.Told.length G :: R)) ?_ ?_
   ·refine W.gen fun h1 cy => ?_
    refine W.cond d rfl (fun bX => ?_) (fun bX => ?_)
    ·replace ap := iteT bX ap
     obtain ⟨fp, gR, ge, dS, ap⟩ := gxS ap
     obtain ⟨gS, gT, dT, gU, fY⟩ := aD.at dS
     subst dT
     obtain ⟨h2, gV, gf, dU, ap⟩ := gxS ap
     obtain ⟨gW, gX, dV, gY, fZ⟩ := an.at dU
     subst dV
     refine sg [.s,.p,.n,.f 7,.b 4,.p,.p,.y 6,.g 6,.p,.e,.q,.s,.p,.n,.f 6,.b 4,.p,.p,.y 5,.g 5,.p,.e] c d fun a d => ?_
     obtain ⟨fr, aK, ap⟩ := B4 ap
     refine W.cut (fun a w => ∃ cd, cd = fr ∧ Rep a 328 [(0, pp K), (1, vi x1), (3, vi x3), (6, pp U), (9, pp aa), (10, .slice z b.Promise.Journey.Rides.length A), (11, .slice (some ⟨E, 0, none⟩) f.length f.length), (15, vi (w64 (((b.Promise.Journey.Rides).length : Int) - 1))), (16, .slice V y.length X), (17, vi ((J : Nat) : Int)), (19, pp aU), (21, vi 0), (22, vi cd), (130, .slice z b.Promise.Journey.Rides.length A), (131, vi ((b.Promise.Journey.Rides).length : Int)), (132, vi ((J : Nat) : Int))] ∧ St w s (pc aU (A1.cells aZ.1).toArray 88 :: pc a9 (A1.cells a8).toArray 88 :: B2 88 3 V X y.length bc :: B2 4 1 (some ⟨E, 0, none⟩) f.length f.length H :: pc aa #[vi b.Promise.From, vi b.Promise.To, vi b.Promise.Dep, vi b.Promise.Arr, vi ak, .slice z b.Promise.Journey.Rides.length A, .slice L b.over.length M, .slice N b.came.length P, .slice Q b.offs.length S, vi ai, vi aj] 82 :: B2 4 1 L M b.over.length B :: B2 3 1 N P b.came.length C :: B2 3 1 Q S b.offs.length D :: B2 83 1 n k y0.sold.length g.cs :: L5 (b2E g.hs ((x1).toNat)) :: pc U #[.slice af x2.Trains.length ad, .slice ag x2.Turns.length ae] 25 :: pc K #[.slice u y0.Newest.Trains.length p, .slice v y0.Newest.Turns.length q, vi y0.Least, vi y0.Time, .slice n y0.sold.length k, .slice o y0.Told.length l] 39 :: B2 50 5 o l y0.Told.length G :: R)) ?_ ?_
     ·refine W.gen fun h3 cz => ?_
      refine W.cond d rfl (fun bY => ?_) (fun bY => ?_)
      ·replace aK := iteT bY aK
       refine W.gen fun h4 dW => ?_
       refine rE c [] [] [0, 1, 2, 3, 4, 5, 6, 7, 8, 9, 10, 11, 12, 13, 14] [0, 1, 2, 3, 4, 5, 6, 7, 8, 9, 10, 11, 12, 13, 14] mixed ?_
       replace c := c.drew
       refine sr [.T 0 true (.B 10),.P 1 .p,.P 2 .p,.P 3 .p] d c c fun a d => ?_
       obtain ⟨h5, dX, gg, dY, aK⟩ := gxS aK
       obtain ⟨gZ, g0, dZ, g1, f0⟩ := cb.at dY
       subst dZ
       refine tP (i := 4) d rfl (by kernel_rfl) (A6.idx d ((w64 (((J : Nat) : Int) - 1)).toNat) rfl rfl a6s dX (by have := bd; omega) (c.vecAok 2 rfl (by have := bd; omega : (w64 (((J : Nat) : Int) - 1)).toNat < y.length))) rfl c c fun a d => ?_
       refine sr [.T 5 true (.G 2),.P 6 .p,.P 7 .p,.P 8 .p] d c c fun a d => ?_
       obtain ⟨h6, d0, gh, d1, aK⟩ := gxS aK
       obtain ⟨g2, g3, d2, g4, cG⟩ := cb.at d1
       subst d2
       refine tP (i := 9) d rfl (by kernel_rfl) (A6.idx d ((w64 (((J : Nat) : Int) - 1)).toNat) rfl rfl a6s d0 (by have := bd; omega) (c.vecAok 2 rfl (by have := bd; omega : (w64 (((J : Nat) : Int) - 1)).toNat < y.length))) rfl c c fun a d => ?_
       refine sr [.P 10 (.f 2)] d c c fun a d => ?_
       refine tT (i := 11) true rfl d rfl (by kernel_rfl) (A6.load1 d rfl (fun w h => (St.vecSees h 2 rfl ((w64 (((J : Nat) : Int) - 1)).toNat * 3) _ cG).one rfl) ty3) rfl c c fun a d => ?_
       refine ro 12 true true ?_
       obtain ⟨fs, d3, aK⟩ := B4 aK
       refine fq d (I1 c aE aF d3) ?_; rintro _ w ⟨g5, rfl, ft, c⟩; refine ⟨_, rfl, fun a d => ?_⟩
       subst ft
       refine WL.nil ?_
       refine r3 c ?_
       refine sr [.P 13 (.v 2 3),.P 14 .p] d c c fun a d => ?_
       refine Rg.done (by kernel_rfl) ?_
       subst dW
       subst cz
       exact ⟨fs.Arr, oi aK, d.pk, c⟩
      replace aK := iteF bY aK
      refine W.skip ?_
      subst cz
      exact ⟨fp, oi aK, d.pk, c⟩
     clear d c a w; rintro a w ⟨cd, rfl, d, c⟩
     refine W.seq ?_
     refine W.gen fun h7 d4 => ?_
     refine rE c [] [] [0, 1, 2, 3, 4, 5, 6, 7, 8, 9, 10, 11, 12] [0, 1, 2, 3, 4, 5, 6, 7, 8, 9, 10, 11, 12] mixed ?_
     replace c := c.drew
     refine sr [.T 0 true (.B 10),.T 1 true (.B 0),.P 2 (.f 1),.T 3 true (.b 0),.P 6 .p,.P 7 .p,.T 8 true .n,.P 9 (.f 2),.T 10 true (.b 11),.P 11 .p] d c c fun a d => ?_
     refine ro 4 true true ?_
     obtain ⟨h8, d5, ap⟩ := B4 ap
     refine fq d (I1 c aE aF d5) ?_; rintro _ w ⟨g6, rfl, fv, c⟩; refine ⟨_, rfl, fun a d => ?_⟩
     subst fv
     refine WL.nil ?_
     refine r3 c ?_
     refine sr [.P 5 (.v 3 3),.P 12 .p] d c c fun a d => ?_
     refine Rg.done (by kernel_rfl) ?_
     subst d4
     obtain ⟨fw, a7, ap⟩ := R8 ap
     refine W.cut (fun a w => ∃ bZ, bZ = fw ∧ Rep a 328 [(0, pp K), (1, vi x1), (3, vi x3), (6, pp U), (9, pp aa), (10, .slice z b.Promise.Journey.Rides.length A), (11, .slice (some ⟨E, 0, none⟩) f.length f.length), (15, vi (w64 (((b.Promise.Journey.Rides).length : Int) - 1))), (16, .slice V y.length X), (17, vi ((J : Nat) : Int)), (21, vi bZ), (130, .slice z b.Promise.Journey.Rides.length A), (131, vi ((b.Promise.Journey.Rides).length : Int)), (132, vi ((J : Nat) : Int))] ∧ St w s (pc aU (A1.cells aZ.1).toArray 88 :: pc a9 (A1.cells a8).toArray 88 :: B2 88 3 V X y.length bc :: B2 4 1 (some ⟨E, 0, none⟩) f.length f.length H :: pc aa #[vi b.Promise.From, vi b.Promise.To, vi b.Promise.Dep, vi b.Promise.Arr, vi ak, .slice z b.Promise.Journey.Rides.length A, .slice L b.over.length M, .slice N b.came.length P, .slice Q b.offs.length S, vi ai, vi aj] 82 :: B2 4 1 L M b.over.length B :: B2 3 1 N P b.came.length C :: B2 3 1 Q S b.offs.length D :: B2 83 1 n k y0.sold.length g.cs :: L5 (b2E g.hs ((x1).toNat)) :: pc U #[.slice af x2.Trains.length ad, .slice ag x2.Turns.length ae] 25 :: pc K #[.slice u y0.Newest.Trains.length p, .slice v y0.Newest.Turns.length q, vi y0.Least, vi y0.Time, .slice n y0.sold.length k, .slice o y0.Told.length l] 39 :: B2 50 5 o l y0.Told.length G :: R)) ?_ ?_
     ·refine W.gen fun h9 cA => ?_
      refine W.cond d rfl (fun b0 => ?_) (fun b0 => ?_)
      ·replace a7 := iteT b0 a7
       refine sg [.r,.p,.e] c d fun a d => ?_
       subst cA
       exact ⟨2, a7, d.pk, c⟩
      replace a7 := iteF b0 a7
      refine W.skip ?_
      subst cA
      exact ⟨0, a7, d.pk, c⟩
     clear d c a w; rintro a w ⟨bZ, rfl, d, c⟩
     subst cy
     exact ⟨bZ, oi ap, d.pk, c⟩
    replace ap := iteF bX ap
    refine W.skip ?_
    subst cy
    exact ⟨0, oi ap, d.pk, c⟩
   clear d c a w; rintro a w ⟨bW, rfl, d, c⟩
   subst cv
   exact ⟨bW, fl, bc, oi aC, cb, bd, d.pk, c⟩
  clear d c a w; rintro a w ⟨a5, bK, bb, rfl, ce, d6, d, c⟩
  dsimp only at I
  refine sg [.s,.p,.p,.e] c d fun a d => ?_
  refine W.cond d rfl (fun b1 => ?_) (fun b1 => ?_)
  ·replace I := iteT b1 I
   refine sm [.s,.p,.n,.f 0,.f 4,.S 4,.e,.s,.p,.p,.B 10,.p,.p] c d fun a w d c => ?_
   obtain ⟨cU, d7, I⟩ := B4 I
   have hF := c.lendV RB.mono 3 rfl aS aJ; clear c; obtain ⟨h_, aR, c, d8, d9⟩ := hF
   replace c := pm [.F 6,.F 6,.F 6,.F 11,.F 7,.F 11] c
   refine fq d ((by have eK := Z4 (y1 := (C4.mk (C2.mk b.Promise.From b.Promise.To b.Promise.Dep b.Promise.Arr 2 b.Promise.Journey) aq au av ai aj)) c (Sl.mono A7.mono aR aE) (Sl.mono (RL.mono RI.mono) aR aF) d8 (Sl.mono A7.mono aR Y) (Sl.mono (RL.mono RI.mono) aR Z) (Ev.mono A5.mono aR a4) (rfl) (Sl.mono A8.mono aR aO) (Ev.mono RB.mono aR an) az (Ev.mono RI.mono aR aD) aA (Ev.mono RI.mono aR aH) aB d7; rw [aJ] at eK; exact eK)) ?_; rintro _ w ⟨rfl, c⟩; refine ⟨_, rfl, fun a d => ?_⟩
   replace c := d9 _ _ c
   refine sl [.e,.s,.p,.p,.p,.p] c d fun a d => ?_
   refine vP c d (A6.build d (vs := [(0, vi x3), (1, vi x1), (2, vi ((J : Nat) : Int)), (3, vi a5)]) [vi x3, vi x1, vi ((J : Nat) : Int), vi a5, vi 0] rfl (by kernel_rfl)) rfl fun a d => ?_
   refine WL.lit d c (e := 50) (es := 5) (vs := [(0, .agg (List.toArray [vi x3, vi x1, vi ((J : Nat) : Int), vi a5, vi 0]))]) (cs := [vi x3, vi x1, vi ((J : Nat) : Int), vi a5, vi 0]) (A0 rfl) rfl (by kernel_rfl) rfl fun fx a w d c => ?_
   replace c := c.ptVec (es := 5) (m := 1) rfl (by decide)
   have fy : Ev 5 A5 s [vi x3, vi x1, vi ((J : Nat) : Int), vi a5, vi 0] [(A4.mk x3 x1 ((J : Nat) : Int) a5 0)] := (Ev.cons (c1 := [vi x3, vi x1, vi ((J : Nat) : Int), vi a5, vi 0]) rfl rfl (Ev.nil))
   have hF := c.fixD A5.mono 0 rfl fy (rfl); clear c; obtain ⟨cV, be, c, fz⟩ := hF
   obtain ⟨aO, aE, aF, aS⟩ := m4 be aO aE aF aS
   obtain ⟨Y, Z, aY, a4⟩ := m4 be Y Z aY a4
   obtain ⟨an, aD, aH, ce⟩ := m4 be an aD aH ce
   refine sl [.p,.e] c d fun a d => ?_
   refine W.ret ?_
   subst bv
   replace c := pm [.F 11,.F 11,.F 8,.F 8,.F 8,.F 7] c
   have hF := St.hotObjClose (ps := [B2 4 1 L M b.over.length B, B2 3 1 N P b.came.length C, B2 3 1 Q S b.offs.length D]) (O := C9) (x := (C4.mk (C2.mk b.Promise.From b.Promise.To b.Promise.Dep b.Promise.Arr 2 b.Promise.Journey) aq au av cU.1 cU.2)) c aY (rfl) bP ck ⟨_, _, _, _, _, _, _, _, _, _, _, _, _, _, _, rfl, rfl, aO, an, az, aD, aA, aH, aB⟩; clear c; obtain ⟨cB, c, fA, d_⟩ := hF
   replace c : St _ cV (M5 83 1 n k y0.sold.length cB :: B2 4 1 (some ⟨E, 0, none⟩) f.length f.length H :: pc K #[.slice u y0.Newest.Trains.length p, .slice v y0.Newest.Turns.length q, vi y0.Least, vi y0.Time, .slice n y0.sold.length k, .slice o y0.Told.length l] 39 :: B2 50 5 o l y0.Told.length G :: pc aU (A1.cells aZ.1).toArray 88 :: pc a9 (A1.cells a8).toArray 88 :: B2 88 3 V X y.length bb :: pc U #[.slice af x2.Trains.length ad, .slice ag x2.Turns.length ae] 25 :: R) := c
   rw [← oi I] at hr
   dsimp only at hr
   refine fg [_] d ?_
   obtain rfl := oi hr
   replace c := pm [.F 3,.F 1,.F 3,.D 3,.D 3,.D 3,.D 3,.D 3] c
   exact ⟨(some ⟨fx, 0, none⟩), 1, cB, cV, rfl, be, fz, fA, d_, c⟩
  replace I := iteF b1 I
  have := aO.small
  refine sm [.k,.r,.i,.p,.e,.D 0,.D 0] c d fun a w d c => ?_
  subst bv
  exact ⟨ax.length, b2p _, ax, J + 1, bK, ak, ai, aj, bb, rfl, ba, I, ce, d6, d.pk, c⟩
 clear d c a w; rintro a w ⟨aI, ak, ai, aj, am, rfl, aT, ah, d, c⟩
 dsimp only at hr
 refine sg [.s] c d fun a d => ?_
 replace c := c.vecNil 50 5
 refine sl [.p,.e,.q,.s,.p,.l 88 3,.p,.e] c d fun a d => ?_
 obtain ⟨cW, T, hr⟩ := B4 hr
 refine W.cut (fun a w => ∃ aw aV aW a6 aL, aw = cW ∧ Ev 5 A5 s aL aw ∧ aw.length = a6 ∧ Rep a 328 [(0, pp K), (1, vi x1), (3, vi x3), (6, pp U), (9, pp aa), (10, .slice z b.Promise.Journey.Rides.length A), (15, vi (w64 (((b.Promise.Journey.Rides).length : Int) - 1))), (16, .slice V y.length X), (23, .slice aV a6 aW)] ∧ St w s (B2 50 5 aV aW a6 aL :: B2 88 3 V X y.length am :: B2 4 1 (some ⟨E, 0, none⟩) f.length f.length H :: pc aa #[vi b.Promise.From, vi b.Promise.To, vi b.Promise.Dep, vi b.Promise.Arr, vi ak, .slice z b.Promise.Journey.Rides.length A, .slice L b.over.length M, .slice N b.came.length P, .slice Q b.offs.length S, vi ai, vi aj] 82 :: B2 4 1 L M b.over.length B :: B2 3 1 N P b.came.length C :: B2 3 1 Q S b.offs.length D :: B2 83 1 n k y0.sold.length g.cs :: L5 (b2E g.hs ((x1).toNat)) :: pc U #[.slice af x2.Trains.length ad, .slice ag x2.Turns.length ae] 25 :: pc K #[.slice u y0.Newest.Trains.length p, .slice v y0.Newest.Turns.length q, vi y0.Least, vi y0.Time, .slice n y0.sold.length k, .slice o y0.Told.length l] 39 :: B2 50 5 o l y0.Told.length G :: R)) ?_ ?_
 ·refine W.block ?_
  refine W.loop (fun m a w => ∃ ay ar aw aV aW a6 aL, ay.length = m ∧ b.Promise.Journey.Rides.drop ar = ay ∧ C1.loop3 x1 x2 x3 y0 aG aq aI ay ar aw = some cW ∧ Ev 5 A5 s aL aw ∧ aw.length = a6 ∧ Rep a 328 [(0, pp K), (1, vi x1), (3, vi x3), (6, pp U), (9, pp aa), (10, .slice z b.Promise.Journey.Rides.length A), (11, .slice (some ⟨E, 0, none⟩) f.length f.length), (15, vi (w64 (((b.Promise.Journey.Rides).length : Int) - 1))), (16, .slice V y.length X), (23, .slice aV a6 aW), (232, .slice z b.Promise.Journey.Rides.length A), (233, vi ((b.Promise.Journey.Rides).length : Int)), (234, vi ((ar : Nat) : Int))] ∧ St w s (B2 50 5 aV aW a6 aL :: B2 88 3 V X y.length am :: B2 4 1 (some ⟨E, 0, none⟩) f.length f.length H :: pc aa #[vi b.Promise.From, vi b.Promise.To, vi b.Promise.Dep, vi b.Promise.Arr, vi ak, .slice z b.Promise.Journey.Rides.length A, .slice L b.over.length M, .slice N b.came.length P, .slice Q b.offs.length S, vi ai, vi aj] 82 :: B2 4 1 L M b.over.length B :: B2 3 1 N P b.came.length C :: B2 3 1 Q S b.offs.length D :: B2 83 1 n k y0.sold.length g.cs :: L5 (b2E g.hs ((x1).toNat)) :: pc U #[.slice af x2.Trains.length ad, .slice ag x2.Turns.length ae] 25 :: pc K #[.slice u y0.Newest.Trains.length p, .slice v y0.Newest.Turns.length q, vi y0.Least, vi y0.Time, .slice n y0.sold.length k, .slice o y0.Told.length l] 39 :: B2 50 5 o l y0.Told.length G :: R)) (m := b.Promise.Journey.Rides.length) ⟨b.Promise.Journey.Rides, 0, [], none, 0, 0, [], rfl, rfl, T, (Ev.nil), (rfl), d.pk, c⟩ ?_
  clear d c a w T; rintro ia a w ⟨ay, ar, aw, aV, aW, a6, aL, rfl, bf, T, a_, rfl, d, c⟩
  refine W.gen fun ib b2 => ?_
  rcases ay with _ | ⟨cX, ay⟩
  ·have cY := E8 bf
   refine sg [.s,.p,.e,.q] c d fun a d => ?_
   refine W.condF d rfl (decide_eq_false (by omega)) ?_
   subst b2
   refine W.exit rfl ?_
   exact ⟨aw, aV, aW, aw.length, aL, oi T, a_, rfl, d.pk, c⟩
  obtain ⟨cY, ea, bf⟩ := C3 bf
  rw [C1.loop3] at T
  refine sg [.s,.p,.e,.q] c d fun a d => ?_
  refine W.condT d rfl (decide_eq_true (by omega)) ?_
  obtain ⟨g7, g8, eb, gi⟩ := aO.at ea
  subst eb
  refine sg [.k,.q,.o,.s,.p,.x 88,.h] c d fun a d => ?_
  refine al d c a0Z fun cf a w d c => ?_
  refine so [.p,.A 0,.e,.q,.q] c d fun a w d c => ?_
  obtain ⟨fB, aX, T⟩ := B4 T
  refine W.cut (fun a w => ∃ cg, cg = fB ∧ Rep a 328 [(0, pp K), (1, vi x1), (3, vi x3), (6, pp U), (9, pp aa), (10, .slice z b.Promise.Journey.Rides.length A), (11, .slice (some ⟨E, 0, none⟩) f.length f.length), (15, vi (w64 (((b.Promise.Journey.Rides).length : Int) - 1))), (16, .slice V y.length X), (23, .slice aV aw.length aW), (24, vi ((ar : Nat) : Int)), (25, pp cf), (232, .slice z b.Promise.Journey.Rides.length A), (233, vi ((b.Promise.Journey.Rides).length : Int)), (234, vi ((ar : Nat) : Int)), (251, .bool cg)] ∧ St w s (pc cf (A1.cells cX).toArray 88 :: B2 50 5 aV aW aw.length aL :: B2 88 3 V X y.length am :: B2 4 1 (some ⟨E, 0, none⟩) f.length f.length H :: pc aa #[vi b.Promise.From, vi b.Promise.To, vi b.Promise.Dep, vi b.Promise.Arr, vi ak, .slice z b.Promise.Journey.Rides.length A, .slice L b.over.length M, .slice N b.came.length P, .slice Q b.offs.length S, vi ai, vi aj] 82 :: B2 4 1 L M b.over.length B :: B2 3 1 N P b.came.length C :: B2 3 1 Q S b.offs.length D :: B2 83 1 n k y0.sold.length g.cs :: L5 (b2E g.hs ((x1).toNat)) :: pc U #[.slice af x2.Trains.length ad, .slice ag x2.Turns.length ae] 25 :: pc K #[.slice u y0.Newest.Trains.length p, .slice v y0.Newest.Turns.length q, vi y0.Least, vi y0.Time, .slice n y0.sold.length k, .slice o y0.Told.length l] 39 :: B2 50 5 o l y0.Told.length G :: R)) ?_ ?_
  ·refine W.gen fun ic cC => ?_
   obtain ⟨fC, g9, gj, ec, aX⟩ := gxS aX
   obtain ⟨g_, ha, ed, hb, f1⟩ := an.at ec
   subst ed
   refine sg [.r,.p,.n,.f 6,.b 4,.p,.y 5,.g 5,.p] c d fun a d => ?_
   rcases b2o fC with b3 | b3
   ·replace aX := iteT b3 aX
    refine sl [.O,.O,.O,.O,.T,.e] c d fun a d => ?_
    subst cC
    exact ⟨true, oi aX, d.pk, c⟩
   replace aX := iteF b3 aX
   obtain ⟨fD, hc, gk, ee, aX⟩ := gxS aX
   obtain ⟨hd, he, ef, hf, f2⟩ := aS.at ee
   subst ef
   refine sl [.p,.p,.y 3,.g 3,.N,.e] c d fun a d => ?_
   subst cC
   exact ⟨fD, oi aX, d.pk, c⟩
  clear d c a w; rintro a w ⟨cg, rfl, d, c⟩
  refine W.cond d rfl (fun b4 => ?_) (fun b4 => ?_)
  ·replace T := iteT b4 T
   refine W.exit rfl ?_
   have := aO.small
   refine sm [.r,.i,.p,.e,.D 0] c d fun a w d c => ?_
   subst b2
   exact ⟨ay.length, b2p _, ay, ar + 1, aw, aV, aW, aw.length, aL, rfl, bf, T, a_, rfl, d.pk, c⟩
  replace T := iteF b4 T
  refine sg [.k,.q] c d fun a d => ?_
  refine W.gen fun ie eg => ?_
  refine rE c [] [] [0, 1, 2, 3, 4, 5, 6, 7, 8, 9, 10, 11, 12] [0, 1, 2, 3, 4, 5, 6, 7, 8, 9, 10, 11, 12] mixed ?_
  replace c := c.drew
  refine sr [.T 0 true (.B 10),.P 1 .p,.P 2 .p] d c c fun a d => ?_
  obtain ⟨ig, eh, gl, ei, T⟩ := gxS T
  obtain ⟨hg, hh, ej, hi, f3⟩ := aT.at ei
  subst ej
  refine tP (i := 3) d rfl (by kernel_rfl) (A6.idx d ((((ar : Nat) : Int)).toNat) rfl rfl a6s eh (by have := ah; omega) (c.vecAok 2 rfl (by have := ah; omega : (((ar : Nat) : Int)).toNat < y.length))) rfl c c fun a d => ?_
  refine sr [.T 4 true (.G 2),.P 5 .p,.P 6 .p] d c c fun a d => ?_
  obtain ⟨ih, ek, gm, el, T⟩ := gxS T
  obtain ⟨hj, hk, em, hl, cH⟩ := aT.at el
  subst em
  refine tP (i := 7) d rfl (by kernel_rfl) (A6.idx d ((((ar : Nat) : Int)).toNat) rfl rfl a6s ek (by have := ah; omega) (c.vecAok 2 rfl (by have := ah; omega : (((ar : Nat) : Int)).toNat < y.length))) rfl c c fun a d => ?_
  refine sr [.P 8 (.f 1)] d c c fun a d => ?_
  refine tT (i := 9) true rfl d rfl (by kernel_rfl) (A6.load1 d rfl (fun w h => (St.vecSees h 2 rfl ((((ar : Nat) : Int)).toNat * 3) _ cH).one rfl) ty3) rfl c c fun a d => ?_
  refine ro 10 true true ?_
  obtain ⟨bi, en, T⟩ := B4 T
  refine fq d (I1 c aE aF en) ?_; rintro _ w ⟨hm, rfl, fE, c⟩; refine ⟨_, rfl, fun a d => ?_⟩
  subst fE
  refine WL.nil ?_
  refine r3 c ?_
  refine sr [.P 11 (.v 1 3),.P 12 .p] d c c fun a d => ?_
  refine Rg.done (by kernel_rfl) ?_
  subst eg
  refine W.seq ?_
  refine W.gen fun ii eo => ?_
  refine rE c [] [] [0, 1, 2, 3, 4, 5, 6, 7, 8, 9, 10] [0, 1, 2, 3, 4, 5, 6, 7, 8, 9, 10] mixed ?_
  replace c := c.drew
  refine sr [.P 0 .p,.P 1 .p,.T 2 true .n,.P 3 (.f 0),.T 4 true (.C 11 0 2),.T 5 true (.B 0),.P 6 (.f 1),.T 7 true (.b 0)] d c c fun a d => ?_
  refine ro 8 true true ?_
  obtain ⟨ij, ep, T⟩ := B4 T
  refine fq d (I1 c Y Z ep) ?_; rintro _ w ⟨hn, rfl, fF, c⟩; refine ⟨_, rfl, fun a d => ?_⟩
  subst fF
  refine WL.nil ?_
  refine r3 c ?_
  refine sr [.P 9 (.v 1 3),.P 10 .p] d c c fun a d => ?_
  refine Rg.done (by kernel_rfl) ?_
  subst eo
  obtain ⟨fG, a2, T⟩ := B4 T
  refine W.cut (fun a w => ∃ bj b5 b6 b7 bz, bj = fG ∧ Ev 5 A5 s bz bj ∧ bj.length = b7 ∧ Rep a 328 [(0, pp K), (1, vi x1), (3, vi x3), (6, pp U), (9, pp aa), (10, .slice z b.Promise.Journey.Rides.length A), (11, .slice (some ⟨E, 0, none⟩) f.length f.length), (15, vi (w64 (((b.Promise.Journey.Rides).length : Int) - 1))), (16, .slice V y.length X), (23, .slice b5 b7 b6), (232, .slice z b.Promise.Journey.Rides.length A), (233, vi ((b.Promise.Journey.Rides).length : Int)), (234, vi ((ar : Nat) : Int))] ∧ St w s (pc cf (A1.cells cX).toArray 88 :: B2 50 5 b5 b6 b7 bz :: B2 88 3 V X y.length am :: B2 4 1 (some ⟨E, 0, none⟩) f.length f.length H :: pc aa #[vi b.Promise.From, vi b.Promise.To, vi b.Promise.Dep, vi b.Promise.Arr, vi ak, .slice z b.Promise.Journey.Rides.length A, .slice L b.over.length M, .slice N b.came.length P, .slice Q b.offs.length S, vi ai, vi aj] 82 :: B2 4 1 L M b.over.length B :: B2 3 1 N P b.came.length C :: B2 3 1 Q S b.offs.length D :: B2 83 1 n k y0.sold.length g.cs :: L5 (b2E g.hs ((x1).toNat)) :: pc U #[.slice af x2.Trains.length ad, .slice ag x2.Turns.length ae] 25 :: pc K #[.slice u y0.Newest.Trains.length p, .slice v y0.Newest.Turns.length q, vi y0.Least, vi y0.Time, .slice n y0.sold.length k, .slice o y0.Told.length l] 39 :: B2 50 5 o l y0.Told.length G :: R)) ?_ ?_
  ·refine W.gen fun ik cD => ?_
   refine W.cond d rfl (fun b8 => ?_) (fun b8 => ?_)
   ·replace a2 := iteT b8 a2
    refine sg [.r,.p,.p,.p,.p,.p] c d fun a d => ?_
    refine vP c d (A6.build d (vs := [(0, vi x3), (1, vi x1), (2, vi ((ar : Nat) : Int)), (3, vi 4), (4, vi bi.Track)]) [vi x3, vi x1, vi ((ar : Nat) : Int), vi 4, vi bi.Track] rfl (by kernel_rfl)) rfl fun a d => ?_
    refine WL.lit d c (e := 50) (es := 5) (vs := [(0, .agg (List.toArray [vi x3, vi x1, vi ((ar : Nat) : Int), vi 4, vi bi.Track]))]) (cs := [vi x3, vi x1, vi ((ar : Nat) : Int), vi 4, vi bi.Track]) (A0 rfl) rfl (by kernel_rfl) rfl fun il a w d c => ?_
    obtain ⟨cZ, eq, a2⟩ := B4 a2
    refine WL.appD d c 1 (m := 1) (A0 rfl) rfl rfl rfl a6K rfl a_ rfl (xs := [(A4.mk x3 x1 ((ar : Nat) : Int) 4 bi.Track)]) (Ev.cons (c1 := [vi x3, vi x1, vi ((ar : Nat) : Int), vi 4, vi bi.Track]) rfl rfl (Ev.nil)) rfl rfl eq rfl fun fH fI er a w fJ d c => ?_
    refine sl [.p,.e] c d fun a d => ?_
    subst cD
    exact ⟨cZ, fH, fI, cZ.length, er, oi a2, fJ, (rfl), d.pk, c⟩
   replace a2 := iteF b8 a2
   refine W.skip ?_
   subst cD
   exact ⟨aw, aV, aW, aw.length, aL, oi a2, a_, rfl, d.pk, c⟩
  clear d c a w; rintro a w ⟨bj, b5, b6, b7, bz, rfl, fK, rfl, d, c⟩
  have := aO.small
  refine sm [.r,.i,.p,.e,.D 0] c d fun a w d c => ?_
  subst b2
  exact ⟨ay.length, b2p _, ay, ar + 1, bj, b5, b6, bj.length, bz, rfl, bf, T, fK, rfl, d.pk, c⟩
 clear d c a w; rintro a w ⟨aw, aV, aW, a6, aL, rfl, a_, rfl, d, c⟩
 refine sg [.q,.q] c d fun a d => ?_
 refine W.gen fun im et => ?_
 refine rE c [] [] [0, 1, 2, 3, 4, 5, 6, 7, 8, 9, 10, 11, 12] [0, 1, 2, 3, 4, 5, 6, 7, 8, 9, 10, 11, 12] mixed ?_
 replace c := c.drew
 refine sr [.T 0 true (.B 9),.P 1 .p,.P 2 .p] d c c fun a d => ?_
 obtain ⟨io, eu, gn, ev, hr⟩ := gxS hr
 obtain ⟨ho, hp, ew, hq, f4⟩ := aT.at ev
 subst ew
 refine tP (i := 3) d rfl (by kernel_rfl) (A6.idx d ((w64 (((b.Promise.Journey.Rides).length : Int) - 1)).toNat) rfl rfl a6s eu (by have := ah; omega) (c.vecAok 1 rfl (by have := ah; omega : (w64 (((b.Promise.Journey.Rides).length : Int) - 1)).toNat < y.length))) rfl c c fun a d => ?_
 refine sr [.T 4 true (.G 1),.P 5 .p,.P 6 .p] d c c fun a d => ?_
 obtain ⟨ip, ex, go, ey, hr⟩ := gxS hr
 obtain ⟨hs, ht, ez, hu, cI⟩ := aT.at ey
 subst ez
 refine tP (i := 7) d rfl (by kernel_rfl) (A6.idx d ((w64 (((b.Promise.Journey.Rides).length : Int) - 1)).toNat) rfl rfl a6s ex (by have := ah; omega) (c.vecAok 1 rfl (by have := ah; omega : (w64 (((b.Promise.Journey.Rides).length : Int) - 1)).toNat < y.length))) rfl c c fun a d => ?_
 refine sr [.P 8 (.f 2)] d c c fun a d => ?_
 refine tT (i := 9) true rfl d rfl (by kernel_rfl) (A6.load1 d rfl (fun w h => (St.vecSees h 1 rfl ((w64 (((b.Promise.Journey.Rides).length : Int) - 1)).toNat * 3) _ cI).one rfl) ty3) rfl c c fun a d => ?_
 refine ro 10 true true ?_
 obtain ⟨bl, eA, hr⟩ := B4 hr
 refine fq d (I1 c aE aF eA) ?_; rintro _ w ⟨hv, rfl, fL, c⟩; refine ⟨_, rfl, fun a d => ?_⟩
 subst fL
 refine WL.nil ?_
 refine r3 c ?_
 refine sr [.P 11 (.v 2 3),.P 12 .p] d c c fun a d => ?_
 refine Rg.done (by kernel_rfl) ?_
 subst et
 refine W.seq ?_
 refine W.gen fun iq eB => ?_
 refine rE c [] [] [0, 1, 2, 3, 4, 5, 6, 7, 8, 9, 10, 11, 12, 13, 14, 15, 16] [0, 1, 2, 3, 4, 5, 6, 7, 8, 9, 10, 11, 12, 13, 14, 15, 16] mixed ?_
 replace c := c.drew
 obtain ⟨ir, hw, gp, eC, hr⟩ := gxS hr
 obtain ⟨hx, hy, eD, gq⟩ := aO.at eC
 subst eD
 refine sr [.P 0 .p,.P 1 .p,.T 2 true .n,.P 3 (.f 0),.T 4 true (.C 10 0 2),.P 5 .p,.P 6 .p,.P 7 (.x 88),.T 8 true .h,.P 9 .p,.P 10 .p] d c c fun a d => ?_
 obtain ⟨it, hz, gr, eE, hr⟩ := gxS hr
 obtain ⟨hA, hB, eF, c2⟩ := aO.at eE
 subst eF
 refine sr [.P 11 (.x 88),.P 12 (.f 2)] d c c fun a d => ?_
 refine tT (i := 13) true rfl d rfl (by kernel_rfl) (A6.load1 d rfl (fun w h => (c2 w _ h).one rfl) ty3) rfl c c fun a d => ?_
 refine ro 14 true true ?_
 obtain ⟨iu, eG, hr⟩ := B4 hr
 refine fq d (I1 c Y Z eG) ?_; rintro _ w ⟨hC, rfl, fM, c⟩; refine ⟨_, rfl, fun a d => ?_⟩
 subst fM
 refine WL.nil ?_
 refine r3 c ?_
 refine sr [.P 15 (.v 2 3),.P 16 .p] d c c fun a d => ?_
 refine Rg.done (by kernel_rfl) ?_
 subst eB
 obtain ⟨fN, a3, hr⟩ := B4 hr
 refine W.cut (fun a w => ∃ bL bM bN b9 bA, bL = fN ∧ Ev 5 A5 s bA bL ∧ bL.length = b9 ∧ Rep a 328 [(9, pp aa), (16, .slice V y.length X), (23, .slice bM b9 bN)] ∧ St w s (B2 50 5 bM bN b9 bA :: B2 88 3 V X y.length am :: pc aa #[vi b.Promise.From, vi b.Promise.To, vi b.Promise.Dep, vi b.Promise.Arr, vi ak, .slice z b.Promise.Journey.Rides.length A, .slice L b.over.length M, .slice N b.came.length P, .slice Q b.offs.length S, vi ai, vi aj] 82 :: B2 4 1 L M b.over.length B :: B2 3 1 N P b.came.length C :: B2 3 1 Q S b.offs.length D :: B2 83 1 n k y0.sold.length g.cs :: L5 (b2E g.hs ((x1).toNat)) :: pc U #[.slice af x2.Trains.length ad, .slice ag x2.Turns.length ae] 25 :: pc K #[.slice u y0.Newest.Trains.length p, .slice v y0.Newest.Turns.length q, vi y0.Least, vi y0.Time, .slice n y0.sold.length k, .slice o y0.Told.length l] 39 :: B2 50 5 o l y0.Told.length G :: R)) ?_ ?_
 ·refine W.gen fun iv cE => ?_
  refine W.cond d rfl (fun b_ => ?_) (fun b_ => ?_)
  ·replace a3 := iteT b_ a3
   refine sg [.r,.p,.p,.p,.p,.p] c d fun a d => ?_
   refine vP c d (A6.build d (vs := [(0, vi x3), (1, vi x1), (2, vi (w64 (((b.Promise.Journey.Rides).length : Int) - 1))), (3, vi 3), (4, vi bl.Arr)]) [vi x3, vi x1, vi (w64 (((b.Promise.Journey.Rides).length : Int) - 1)), vi 3, vi bl.Arr] rfl (by kernel_rfl)) rfl fun a d => ?_
   refine WL.lit d c (e := 50) (es := 5) (vs := [(0, .agg (List.toArray [vi x3, vi x1, vi (w64 (((b.Promise.Journey.Rides).length : Int) - 1)), vi 3, vi bl.Arr]))]) (cs := [vi x3, vi x1, vi (w64 (((b.Promise.Journey.Rides).length : Int) - 1)), vi 3, vi bl.Arr]) (A0 rfl) rfl (by kernel_rfl) rfl fun iw a w d c => ?_
   obtain ⟨c3, eH, a3⟩ := B4 a3
   refine WL.appD d c 0 (m := 1) (A0 rfl) rfl rfl rfl a6K rfl a_ rfl (xs := [(A4.mk x3 x1 (w64 (((b.Promise.Journey.Rides).length : Int) - 1)) 3 bl.Arr)]) (Ev.cons (c1 := [vi x3, vi x1, vi (w64 (((b.Promise.Journey.Rides).length : Int) - 1)), vi 3, vi bl.Arr]) rfl rfl (Ev.nil)) rfl rfl eH rfl fun fO fP eI a w fQ d c => ?_
   refine so [.p,.e,.D 2] c d fun a w d c => ?_
   subst cE
   exact ⟨c3, fO, fP, c3.length, eI, oi a3, fQ, (rfl), d.pk, c⟩
  replace a3 := iteF b_ a3
  refine sm [.k,.D 2] c d fun a w d c => ?_
  subst cE
  exact ⟨aw, aV, aW, aw.length, aL, oi a3, a_, rfl, d.pk, c⟩
 clear d c a w; rintro a w ⟨bL, bM, bN, b9, bA, rfl, ch, rfl, d, c⟩
 refine sm [.s,.p,.p,.n,.f 0,.f 5,.f 0,.S 2,.e,.s,.p,.p,.e] c d fun a w d c => ?_
 refine W.ret ?_
 have hF := c.fixD A8.mono 1 rfl aT ah; clear c; obtain ⟨fR, bg, c, ci⟩ := hF
 (try rw [← ah] at d)
 (try rw [← ah] at c)
 obtain ⟨ch, aY, an, aD⟩ := m4 bg ch aY an aD
 obtain ⟨aH, aE, aF, Y⟩ := m4 bg aH aE aF Y
 obtain ⟨Z, a4⟩ := m2 bg Z a4
 replace c := pm [.F 6,.F 6,.F 6,.F 6,.F 6,.F 6] c
 have hF := St.hotObjClose (ps := [B2 4 1 L M b.over.length B, B2 3 1 N P b.came.length C, B2 3 1 Q S b.offs.length D]) (O := C9) (x := (C4.mk (C2.mk b.Promise.From b.Promise.To b.Promise.Dep b.Promise.Arr ak (A3.mk aI)) aq au av ai aj)) c aY (rfl) bP ck ⟨_, _, _, _, _, _, _, _, _, _, _, _, _, _, _, rfl, rfl, ci, an, az, aD, aA, aH, aB⟩; clear c; obtain ⟨cF, c, cj, eJ⟩ := hF
 replace c : St _ fR (M5 83 1 n k y0.sold.length cF :: B2 50 5 bM bN bL.length bA :: pc U #[.slice af x2.Trains.length ad, .slice ag x2.Turns.length ae] 25 :: pc K #[.slice u y0.Newest.Trains.length p, .slice v y0.Newest.Turns.length q, vi y0.Least, vi y0.Time, .slice n y0.sold.length k, .slice o y0.Told.length l] 39 :: B2 50 5 o l y0.Told.length G :: R) := c
 have hF := c.fixD A5.mono 1 rfl ch rfl; clear c; obtain ⟨fS, bO, c, fT⟩ := hF
 obtain ⟨ci, cj, aE, aF⟩ := m4 bO ci cj aE aF
 obtain ⟨Y, Z, a4⟩ := m3 bO Y Z a4
 refine fg [_] d ?_
 obtain rfl := oi hr
 replace c := pm [.F 3,.F 1,.F 3,.D 3] c
 exact ⟨bM, bN, cF, fS, rfl, (Sg.Le.trans bg bO), fT, cj, eJ, c⟩
set_option maxHeartbeats 8000000 in
theorem Z5 {fu S U V z A u X D aq : Nat}  {w : World} {x1 : B0} {Y Z B C v E : Option Addr} {x2 : Int} {y0 : F3} {T : a0o} {L : List Value} (c : St w s (pc S #[.slice B y0.Newest.Trains.length z, .slice C y0.Newest.Turns.length A, vi y0.Least, vi y0.Time, .slice v X u, .slice E aq D] 39 :: M5 83 1 v u X T :: B2 50 5 E D aq L :: R)) (F : Sl 4 A7 s Y U x1.Trains) (G : Sl 1 (RL 1 (RI .i64)) s Z V x1.Turns) (d : Sl 4 A7 s B z y0.Newest.Trains) (f : Sl 1 (RL 1 (RI .i64)) s C A y0.Newest.Turns) (Q : HEv 1 C9 s T y0.sold) (aD : y0.sold.length = X) (x : Ev 5 A5 s L y0.Told) (aE : y0.Told.length = aq) {r : (List A4) × Int × (List C4) × (List B1) × (List (List Int)) × Int × (List A4)} (P : G6 fu x1 x2 y0 = some r) :
  Calls Tryz.prog 11 [pp S, .agg (List.toArray [.slice Y x1.Trains.length U, .slice Z x1.Turns.length V]), vi x2].toArray w (fun e w => ∃ (a0 : Option Addr) (c0 n0 : Nat) (aS : List Value) (ax : a0o) (aT : Option Addr) (aU : Nat) (aV : Option Addr) (aW : Nat) (aX : Option Addr) (aY : Nat) (ay : Nat) (az : List Value) (t : Sg), e = .returned (.tuple #[.slice a0 n0 c0, vi r.2.1]) ∧ s.Le t ∧ Ev 5 A5 t aS r.1 ∧ r.1.length = n0 ∧ HEv 1 C9 t ax r.2.2.1 ∧ r.2.2.1.length = X ∧ Sl 4 A7 t aT aU r.2.2.2.1 ∧ Sl 1 (RL 1 (RI .i64)) t aV aW r.2.2.2.2.1 ∧ Ev 5 A5 t az r.2.2.2.2.2.2 ∧ r.2.2.2.2.2.2.length = ay ∧ St w t (B2 50 5 a0 c0 n0 aS :: pc S #[.slice aT r.2.2.2.1.length aU, .slice aV r.2.2.2.2.1.length aW, vi y0.Least, vi r.2.2.2.2.2.1, .slice v X u, .slice aX ay aY] 39 :: M5 83 1 v u X ax :: B2 50 5 aX aY ay az :: R)) := by
 refine enter Tryz.func11 rfl rfl rfl fun a b => ?_
 rw [G6] at P
 subst aD
 subst aE
 refine sg [.s] c b fun a b => ?_
 refine bw b c fun aj a w b c => ?_
 refine sl [.p,.p,.e,.q,.s,.p,.p,.n,.f 3,.b 1,.p,.e] c b fun a b => ?_
 refine W.cond b rfl (fun ar => ?_) (fun ar => ?_)
 ·replace P := iteT ar P
  refine sg [.s,.p,.p,.e] c b fun a b => ?_
  refine W.ret ?_
  replace c := c.vecNil 50 5
  refine fg [_, _] b ?_
  obtain rfl := oi P
  replace c := c.dropAt 1
  exact ⟨none, 0, 0, [], T, B, z, C, A, E, D, y0.Told.length, L, s, rfl, lr, (Ev.nil), (rfl), Q, (rfl), d, f, x, (rfl), c⟩
 replace P := iteF ar P
 refine sg [.k,.q,.s,.p,.p,.e] c b fun a b => ?_
 refine W.cond b rfl (fun au => ?_) (fun au => ?_)
 ·replace P := iteT au P
  refine sg [.s,.p,.p,.e] c b fun a b => ?_
  refine W.ret ?_
  replace c := c.vecNil 50 5
  refine fg [_, _] b ?_
  obtain rfl := oi P
  replace c := c.dropAt 1
  exact ⟨none, 0, 0, [], T, B, z, C, A, E, D, y0.Told.length, L, s, rfl, lr, (Ev.nil), (rfl), Q, (rfl), d, f, x, (rfl), c⟩
 replace P := iteF au P
 refine sm [.k,.s,.p,.p,.n,.f 3,.S 1,.e,.s] c b fun a w b c => ?_
 replace c := c.vecNil 50 5
 refine sl [.p,.e,.q,.s,.p,.n,.f 4,.b 2,.l 83 1,.p,.e] c b fun a b => ?_
 have bg : y0.sold.length ≤ 9223372036854775807 := by have := (c.hotOpen 3 rfl).vecCap 0 rfl; unfold maxLen at this; omega
 obtain ⟨aA, k, P⟩ := B4 P
 refine W.cut (fun a w => ∃ l y H I M n o g, s.Le g ∧ (l, y) = aA ∧ Ev 5 A5 g n l ∧ l.length = M ∧ HEv 1 C9 g o y ∧ y.length = y0.sold.length ∧ Rep a 61 [(0, pp S), (4, pp aj), (8, .slice H M I)] ∧ St w g (B2 50 5 H I M n :: pc aj #[.slice Y x1.Trains.length U, .slice Z x1.Turns.length V] 25 :: pc S #[.slice B y0.Newest.Trains.length z, .slice C y0.Newest.Turns.length A, vi y0.Least, vi x2, .slice v y0.sold.length u, .slice E y0.Told.length D] 39 :: M5 83 1 v u y0.sold.length o :: B2 50 5 E D y0.Told.length L :: R)) ?_ ?_
 ·refine W.block ?_
  refine W.loop (fun m a w => ∃ i N l y H I M n o g, i = m ∧ N + i = y0.sold.length ∧ s.Le g ∧ G6.loop1 x1 x2 y0 fu i N l y = some aA ∧ Ev 5 A5 g n l ∧ l.length = M ∧ HEv 1 C9 g o y ∧ y.length = y0.sold.length ∧ Rep a 61 [(0, pp S), (2, vi x2), (4, pp aj), (8, .slice H M I), (26, .slice v y0.sold.length u), (27, vi ((y0.sold.length : Nat) : Int)), (28, vi ((N : Nat) : Int))] ∧ St w g (B2 50 5 H I M n :: pc aj #[.slice Y x1.Trains.length U, .slice Z x1.Turns.length V] 25 :: pc S #[.slice B y0.Newest.Trains.length z, .slice C y0.Newest.Turns.length A, vi y0.Least, vi x2, .slice v y0.sold.length u, .slice E y0.Told.length D] 39 :: M5 83 1 v u y0.sold.length o :: B2 50 5 E D y0.Told.length L :: R)) (m := y0.sold.length) ⟨y0.sold.length, 0, [], y0.sold, none, 0, 0, [], T, s, rfl, by omega, lr, k, (Ev.nil), (rfl), Q, (rfl), b.pk, c⟩ ?_
  clear b c a w k; rintro bm a w ⟨i, N, l, y, H, I, M, n, o, g, rfl, bh, q, k, J, rfl, K, O, b, c⟩
  refine W.gen fun bn av => ?_
  obtain ⟨F, G, d, f⟩ := m4 q F G d f
  obtain ⟨Q, x⟩ := m2 q Q x
  rcases i with _ | i
  ·skip
   refine sg [.s,.p,.e,.q] c b fun a b => ?_
   refine W.condF b rfl (decide_eq_false (by omega)) ?_
   subst av
   refine W.exit rfl ?_
   exact ⟨l, y, H, I, l.length, n, o, g, q, oi k, J, rfl, K, O, b.pk, c⟩
  have be : N < y0.sold.length := by omega
  rw [G6.loop1] at k
  refine sg [.s,.p,.e,.q] c b fun a b => ?_
  refine W.condT b rfl (decide_eq_true (by omega)) ?_
  refine sg [.k,.q,.o,.s,.p] c b fun a b => ?_
  obtain ⟨bo, aF, bf, aG, k⟩ := gxS k
  have aH := (c.hotOpen 3 rfl).vecAok 0 rfl (by have := O; omega : (((N : Nat) : Int)).toNat < y0.sold.length)
  refine vP c b (A6.idx b ((((N : Nat) : Int)).toNat) rfl rfl a9I aF (by have := O; omega) aH) rfl fun a b => ?_
  obtain ⟨bp, aI, aJ⟩ := HEv.at K aG
  obtain ⟨bq, br, bs, bt, bu, bv, bi, bz, bA, bB, bj, bC, bD, bE, bl, aZ, a1, bF, bG, rfl, bH, rfl, bI, rfl⟩ := aJ
  subst a1
  refine vP c b (A6.load1 b rfl (fun w h => (St.hotSees h 3 rfl aZ rfl).one (j := 0) rfl) a9q) rfl fun a b => ?_
  refine sl [.p,.p,.e,.s,.p,.n,.f 0,.f 4] c b fun a b => ?_
  refine vP c b (A6.load1 b rfl (fun w h => (St.hotObjSees 3 h rfl aI).one (j := 4) rfl) ty3) rfl fun a b => ?_
  refine sl [.p,.e] c b fun a b => ?_
  obtain ⟨a2, p, k⟩ := B4 k
  refine W.cut (fun a w => ∃ aa ag ak am an ae af ad, g.Le ad ∧ (aa, ag) = a2 ∧ Ev 5 A5 ad ae aa ∧ aa.length = an ∧ HEv 1 C9 ad af ag ∧ ag.length = y0.sold.length ∧ Rep a 61 [(0, pp S), (2, vi x2), (4, pp aj), (8, .slice ak an am), (26, .slice v y0.sold.length u), (27, vi ((y0.sold.length : Nat) : Int)), (28, vi ((N : Nat) : Int))] ∧ St w ad (B2 50 5 ak am an ae :: pc aj #[.slice Y x1.Trains.length U, .slice Z x1.Turns.length V] 25 :: pc S #[.slice B y0.Newest.Trains.length z, .slice C y0.Newest.Turns.length A, vi y0.Least, vi x2, .slice v y0.sold.length u, .slice E y0.Told.length D] 39 :: M5 83 1 v u y0.sold.length af :: B2 50 5 E D y0.Told.length L :: R)) ?_ ?_
  ·refine W.gen fun bJ aw => ?_
   refine W.cond b rfl (fun ap => ?_) (fun ap => ?_)
   ·replace p := iteT ap p
    obtain ⟨aB, aK, p⟩ := B4 p
    refine sm [.r,.p,.p,.p,.B 1,.p,.F 4,.F 4,.F 4] c b fun a w b c => ?_
    refine fq b (Z2 (y0 := (F3.mk y0.Newest y0.Least x2 y y0.Told)) c F G d f K O x (rfl) aK) ?_; rintro _ w ⟨bK, bL, aL, a3, rfl, ah, a4, a5, aM, c⟩; refine ⟨_, rfl, fun a b => ?_⟩
    obtain ⟨F, G, d, f⟩ := m4 ah F G d f
    obtain ⟨K, x, J⟩ := m3 ah K x J
    obtain ⟨aC, aN, p⟩ := B4 p
    refine WL.appS b c 3 (A0 rfl) rfl rfl (xs := aB.1) rfl rfl a6K A5.one J rfl a4 aN rfl fun a6 a7 aO a w a8 b c => ?_
    refine so [.p,.e,.F 2,.F 2,.F 2,.F 4,.F 4] c b fun a w b c => ?_
    subst aw
    exact ⟨aC, aB.2, a6, a7, aC.length, aO, aL, a3, ah, oi p, a8, (rfl), a5, aM, b.pk, c⟩
   replace p := iteF ap p
   refine W.skip ?_
   subst aw
   exact ⟨l, y, H, I, l.length, n, o, g, lr, oi p, J, rfl, K, O, b.pk, c⟩
  clear b c a w; rintro a w ⟨aa, ag, ak, am, an, ae, af, ad, ai, rfl, a9, rfl, a_, aP, b, c⟩
  dsimp only at k
  obtain ⟨J, F, G, d⟩ := m4 ai J F G d
  obtain ⟨f, K, x⟩ := m3 ai f K x
  refine sg [.r,.i,.p,.e] c b fun a b => ?_
  subst av
  exact ⟨i, b2p _, i, N + 1, aa, ag, ak, am, aa.length, ae, af, ad, rfl, (by omega), (Sg.Le.trans q ai), k, a9, rfl, a_, aP, b.pk, c⟩
 clear b c a w; rintro a w ⟨l, y, H, I, M, n, o, g, q, rfl, J, rfl, K, O, b, c⟩
 dsimp only at P
 obtain ⟨F, G, d, f⟩ := m4 q F G d f
 obtain ⟨Q, x⟩ := m2 q Q x
 refine sm [.s,.p,.B 1,.n,.f 0,.A 2,.e,.s,.p,.p,.n,.f 5,.b 2,.p] c b fun a w b c => ?_
 obtain ⟨ba, aQ, P⟩ := B4 P
 refine WL.appO b c 4 0 (A0 rfl) rfl rfl rfl rfl a6K A5.one x (rfl) J rfl aQ rfl fun bb bc aR a w bd b c => ?_
 refine so [.n,.f 5,.S 2,.e,.s,.p,.p,.p,.e] c b fun a w b c => ?_
 refine W.ret ?_
 refine fg [_, _] b ?_
 obtain rfl := oi P
 replace c := c.dropAt 1
 exact ⟨H, I, l.length, n, o, Y, U, Z, V, bb, bc, ba.length, aR, g, rfl, q, J, rfl, K, O, F, G, bd, (rfl), c⟩
set_option maxHeartbeats 8000000 in
theorem P6 {w : World} {x0 : List A4} {t u : Option Addr} {v x : Nat} {x1 : List A4} (f : St w s (R)) (C : Sl 5 A5 s t v x0) (G : Sl 5 A5 s u x x1) {r : Bool} (i : E9 x0 x1 = some r) :
  Calls Tryz.prog 12 [.slice t x0.length v, .slice u x1.length x].toArray w (fun e w => e = .returned (.bool r) ∧ St w s (R)) := by
 refine enter Tryz.func12 rfl rfl rfl fun a b => ?_
 rw [E9] at i
 refine sg [.s,.p,.e,.q,.s,.p,.l 50 5,.p,.l 50 5,.p,.e] f b fun a b => ?_
 refine W.cond b rfl (fun l => ?_) (fun l => ?_)
 ·replace i := iteT l i
  refine sg [.s,.p,.e] f b fun a b => ?_
  refine W.ret ?_
  refine fg [_] b ?_
  obtain rfl := oi i
  exact ⟨rfl, f⟩
 replace i := iteF l i
 refine sg [.k,.q,.s,.p,.l 50 5,.p,.e] f b fun a b => ?_
 obtain ⟨q, c, i⟩ := B4 i
 refine W.cut (fun a w => (.next ()) = q ∧ Rep a 26 [] ∧ St w s (R)) ?_ ?_
 ·refine W.block ?_
  refine W.loop (fun m a w => ∃ d k, d.length = m ∧ x0.drop k = d ∧ E9.loop1 x1 d k = some q ∧ Rep a 26 [(0, .slice t x0.length v), (1, .slice u x1.length x), (12, vi ((x0).length : Int)), (13, vi ((k : Nat) : Int))] ∧ St w s (R)) (m := x0.length) ⟨x0, 0, rfl, rfl, c, b.pk, f⟩ ?_
  clear b f a w c; rintro M a w ⟨d, k, rfl, j, c, b, f⟩
  refine W.gen fun N n => ?_
  rcases d with _ | ⟨g, d⟩
  ·have p := E8 j
   refine sg [.s,.p,.e,.q] f b fun a b => ?_
   refine W.condF b rfl (decide_eq_false (by omega)) ?_
   subst n
   refine W.exit rfl ?_
   exact ⟨oi c, b.pk, f⟩
  obtain ⟨p, y, j⟩ := C3 j
  rw [E9.loop1] at c
  refine sg [.s,.p,.e,.q] f b fun a b => ?_
  refine W.condT b rfl (decide_eq_true (by omega)) ?_
  refine sg [.k,.q,.o,.s,.p,.p,.e,.q] f b fun a b => ?_
  refine rQ f mixed ?_
  obtain ⟨H, I, z, D⟩ := C.at y
  subst z
  obtain ⟨h, J, E, A, c⟩ := gxS c
  obtain ⟨K, L, B, F⟩ := G.at A
  subst B
  refine sq [.p,.p,.x 50,.h,.p,.p,.x 50,.h] b fun a b => ?_
  refine qP b (show A6 _ _ _ _ (Value.bool (!((g.At == h.At) && ((g.Promise == h.Promise) && ((g.Ride == h.Ride) && ((g.Kind == h.Kind) && (g.Value == h.Value))))))) from A6.neS b [.i .i64, .i .i64, .i .i64, .i .i64, .i .i64] [.i .i64 g.At, .i .i64 g.Promise, .i .i64 g.Ride, .i .i64 g.Kind, .i .i64 g.Value] [.i .i64 h.At, .i .i64 h.Promise, .i .i64 h.Ride, .i .i64 h.Kind, .i .i64 h.Value] rfl rfl b1Q rfl rfl rfl rfl) rfl fun a b => ?_
  refine QL.nil ?_; clear f w; intro w f
  refine W.cond b rfl (fun o => ?_) (fun o => ?_)
  ·replace c := iteT o c
   refine sg [.s,.p,.e] f b fun a b => ?_
   refine W.ret ?_
   subst n
   rw [← oi c] at i
   dsimp only at i
   refine fg [_] b ?_
   obtain rfl := oi i
   exact ⟨rfl, f⟩
  replace c := iteF o c
  have := C.small
  refine sg [.k,.r,.i,.p,.e] f b fun a b => ?_
  subst n
  exact ⟨d.length, b2p _, d, k + 1, rfl, j, c, b.pk, f⟩
 clear b f a w; rintro a w ⟨rfl, b, f⟩
 dsimp only at i
 refine sg [.s,.p,.e] f b fun a b => ?_
 refine W.ret ?_
 refine fg [_] b ?_
 obtain rfl := oi i
 exact ⟨rfl, f⟩
set_option maxHeartbeats 8000000 in
theorem a1g {w : World} {x0 : D7} {v x o : Option Addr} {y z p : Nat} {x1 : A3} {x2 : Bool} (c : St w s (R)) (E : Sl 4 A7 s v y x0.Day.Trains) (G : Sl 1 (RL 1 (RI .i64)) s x z x0.Day.Turns) (H : Sl 3 A8 s o p x1.Rides) {r : Int} (n : I6 x0 x1 x2 = some r) :
  Calls Tryz.prog 34 [.agg (List.toArray [.slice v x0.Day.Trains.length y, .slice x x0.Day.Turns.length z, vi x0.least]), .agg (List.toArray [.slice o x1.Rides.length p]), .bool x2].toArray w (fun e w => e = .returned (vi r) ∧ St w s (R)) := by
 refine enter Tryz.func34 rfl rfl rfl fun a b => ?_
 rw [I6] at n
 refine sg [.s] c b fun a b => ?_
 refine bw b c fun A a w b c => ?_
 refine bw b c fun B a w b c => ?_
 refine sl [.p,.e,.q,.s,.f 0,.b 0,.l 88 3] c b fun a b => ?_
 refine fq b (K3 c  rfl (r := D5 ((x1.Rides).length : Int) 1 4)) ?_; rintro _ w ⟨rfl, c⟩; refine ⟨_, rfl, fun a b => ?_⟩
 refine sl [.p,.e] c b fun a b => ?_
 refine W.cond b rfl (fun M => ?_) (fun M => ?_)
 ·replace n := iteT M n
  refine sg [.s,.p,.e] c b fun a b => ?_
  refine W.ret ?_
  refine fg [_] b ?_
  obtain rfl := oi n
  replace c := pm [.D 0,.D 0] c
  exact ⟨rfl, c⟩
 replace n := iteF M n
 refine sg [.k,.q,.s,.f 0,.b 0,.l 88 3,.p,.e] c b fun a b => ?_
 obtain ⟨aq, d, n⟩ := B4 n
 refine W.cut (fun a w => (.next ()) = aq ∧ Rep a 104 [] ∧ St w s (pc B #[.slice o x1.Rides.length p] 42 :: pc A #[.slice v x0.Day.Trains.length y, .slice x x0.Day.Turns.length z, vi x0.least] 66 :: R)) ?_ ?_
 ·refine W.block ?_
  refine W.loop (fun m a w => ∃ j u, j.length = m ∧ x1.Rides.drop u = j ∧ I6.loop1 x0 x1 x2 j u = some aq ∧ Rep a 104 [(2, .bool x2), (3, pp A), (4, pp B), (17, .slice o x1.Rides.length p), (18, vi ((x1.Rides).length : Int)), (19, vi ((u : Nat) : Int))] ∧ St w s (pc B #[.slice o x1.Rides.length p] 42 :: pc A #[.slice v x0.Day.Trains.length y, .slice x x0.Day.Turns.length z, vi x0.least] 66 :: R)) (m := x1.Rides.length) ⟨x1.Rides, 0, rfl, rfl, d, b.pk, c⟩ ?_
  clear b c a w d; rintro a2 a w ⟨j, u, rfl, F, d, b, c⟩
  refine W.gen fun a3 q => ?_
  rcases j with _ | ⟨C, j⟩
  ·have ag := E8 F
   refine sg [.s,.p,.e,.q] c b fun a b => ?_
   refine W.condF b rfl (decide_eq_false (by omega)) ?_
   subst q
   refine W.exit rfl ?_
   exact ⟨oi d, b.pk, c⟩
  obtain ⟨ag, ar, F⟩ := C3 F
  rw [I6.loop1] at d
  refine sg [.s,.p,.e,.q] c b fun a b => ?_
  refine W.condT b rfl (decide_eq_true (by omega)) ?_
  obtain ⟨aS, aT, au, aK⟩ := H.at ar
  subst au
  refine sg [.k,.q,.o,.s,.p,.x 88,.h] c b fun a b => ?_
  refine al b c a0Z fun L a w b c => ?_
  refine so [.p,.A 0,.e,.q,.s,.f 0,.b 0,.f 0,.f 0,.b 2,.l 72 4,.p] c b fun a w b c => ?_
  refine fq b (K3 c  rfl (r := D5 C.Train 0 (w64 (((x0.Day.Trains).length : Int) - 1)))) ?_; rintro _ w ⟨rfl, c⟩; refine ⟨_, rfl, fun a b => ?_⟩
  refine sl [.p,.e] c b fun a b => ?_
  refine W.cond b rfl (fun N => ?_) (fun N => ?_)
  ·replace d := iteT N d
   refine sg [.s,.p,.e] c b fun a b => ?_
   refine W.ret ?_
   subst q
   rw [← oi d] at n
   dsimp only at n
   refine fg [_] b ?_
   obtain rfl := oi n
   replace c := pm [.D 0,.D 0,.D 0] c
   exact ⟨rfl, c⟩
  replace d := iteF N d
  obtain ⟨V, aU, aL, av, d⟩ := gxS d
  obtain ⟨aV, aW, aw, ah⟩ := E.at av
  obtain ⟨a4, a5, a6, a7, rfl, a8, a9⟩ := aw
  refine sg [.k,.s,.f 0,.f 0,.b 2,.f 0,.b 0,.x 72,.f 2] c b fun a b => ?_
  refine vP c b (A6.load1 b rfl (fun w h => (ah w _ h).one rfl) a3P) rfl fun a b => ?_
  refine sl [.l 75 4,.p,.p,.e,.q,.o,.q] c b fun a b => ?_
  obtain ⟨aH, D, d⟩ := R8 d
  refine W.cut (fun a w => ∃ ad, ad = aH ∧ Rep a 104 [(2, .bool x2), (3, pp A), (4, pp B), (7, vi ((u : Nat) : Int)), (8, pp L), (17, .slice o x1.Rides.length p), (18, vi ((x1.Rides).length : Int)), (19, vi ((u : Nat) : Int)), (43, .bool ad)] ∧ St w s (pc L (A1.cells C).toArray 88 :: pc B #[.slice o x1.Rides.length p] 42 :: pc A #[.slice v x0.Day.Trains.length y, .slice x x0.Day.Turns.length z, vi x0.least] 66 :: R)) ?_ ?_
  ·refine W.gen fun a_ ae => ?_
   refine sg [.r,.f 1,.b 0,.p] c b fun a b => ?_
   refine fq b (K3 c  rfl (r := D5 C.On 0 (w64 (((V.Stops).length : Int) - 1)))) ?_; rintro _ w ⟨rfl, c⟩; refine ⟨_, rfl, fun a b => ?_⟩
   refine sl [.p,.p] c b fun a b => ?_
   rcases b2o (!(D5 C.On 0 (w64 (((V.Stops).length : Int) - 1)))) with I | I
   ·replace D := iteT I D
    refine sl [.O,.O,.O,.O,.O,.T,.p,.e] c b fun a b => ?_
    subst ae
    exact ⟨true, D, b.pk, c⟩
   replace D := iteF I D
   refine sl [.f 2,.b 0,.p] c b fun a b => ?_
   refine WL.fnq b (K3 c  rfl (r := D5 C.Off 0 (w64 (((V.Stops).length : Int) - 1)))) (F9 b rfl rfl rfl I) b0E rfl rfl rfl ?_
   clear b c; rintro e w ⟨rfl, c⟩; refine ⟨_, rfl, ?_⟩; clear a; intro a b
   refine sl [.p,.N,.p,.e] c b fun a b => ?_
   subst ae
   exact ⟨!(D5 C.Off 0 (w64 (((V.Stops).length : Int) - 1))), D, b.pk, c⟩
  clear b c a w; rintro a w ⟨ad, rfl, b, c⟩
  refine W.cond b rfl (fun O => ?_) (fun O => ?_)
  ·replace d := iteT O d
   refine sg [.s,.p,.e] c b fun a b => ?_
   refine W.ret ?_
   subst q
   rw [← oi d] at n
   dsimp only at n
   refine fg [_] b ?_
   obtain rfl := oi n
   replace c := pm [.D 0,.D 0,.D 0] c
   exact ⟨rfl, c⟩
  replace d := iteF O d
  refine sg [.s,.f 1,.b 0,.f 2,.b 0,.p,.p,.e] c b fun a b => ?_
  refine W.cond b rfl (fun P => ?_) (fun P => ?_)
  ·replace d := iteT P d
   refine sg [.s,.p,.e] c b fun a b => ?_
   refine W.ret ?_
   subst q
   rw [← oi d] at n
   dsimp only at n
   refine fg [_] b ?_
   obtain rfl := oi n
   replace c := pm [.D 0,.D 0,.D 0] c
   exact ⟨rfl, c⟩
  replace d := iteF P d
  refine sg [.k,.q,.s,.p,.p,.e] c b fun a b => ?_
  refine W.cond b rfl (fun Q => ?_) (fun Q => ?_)
  ·replace d := iteT Q d
   refine W.exit rfl ?_
   have := H.small
   refine sm [.r,.i,.p,.e,.D 0] c b fun a w b c => ?_
   subst q
   exact ⟨j.length, b2p _, j, u + 1, rfl, F, d, b.pk, c⟩
  replace d := iteF Q d
  obtain ⟨af, aX, aI, ai, d⟩ := gxS d
  obtain ⟨aM, aN, aj, aJ⟩ := H.at ai
  subst aj
  refine sg [.k,.s,.f 0,.b 1,.p,.p,.x 88,.h] c b fun a b => ?_
  refine al b c a0Z fun S a w b c => ?_
  refine so [.A 0,.e,.o,.q] c b fun a w b c => ?_
  obtain ⟨ax, k, d⟩ := B4 d
  refine W.cut (fun a w => ∃ T, T = ax ∧ Rep a 104 [(2, .bool x2), (3, pp A), (4, pp B), (8, pp L), (10, pp S), (17, .slice o x1.Rides.length p), (18, vi ((x1.Rides).length : Int)), (19, vi ((u : Nat) : Int)), (70, .bool T)] ∧ St w s (pc S (A1.cells af).toArray 88 :: pc L (A1.cells C).toArray 88 :: pc B #[.slice o x1.Rides.length p] 42 :: pc A #[.slice v x0.Day.Trains.length y, .slice x x0.Day.Turns.length z, vi x0.least] 66 :: R)) ?_ ?_
  ·refine W.gen fun aY X => ?_
   refine W.gen fun aZ Y => ?_
   refine rE c [] [] [0, 1, 2, 3, 4, 5, 6, 7, 8, 9, 10, 11, 12, 13, 14, 15, 16] [0, 1, 2, 3, 4, 5, 6, 7, 8, 9, 10, 11, 12, 13, 14, 15, 16] mixed ?_
   replace c := c.drew
   refine sr [.P 0 (.f 0),.T 1 true (.b 1),.P 2 (.f 0),.T 3 true (.b 0),.P 4 .p,.P 5 .p] b c c fun a b => ?_
   rcases b2o (C.Train == af.Train) with g | g
   ·replace k := iteT g k
    refine Rg.no (i := 6) b rfl (by kernel_rfl) (K0 b rfl rfl rfl (by rw [g]; decide)) rfl (G2 (fun _ => c) (fun _ => c)) fun a b => ?_
    refine Rg.no (i := 7) b rfl (by kernel_rfl) (K0 b rfl rfl rfl (by rw [g]; decide)) rfl (G2 (fun _ => c) (fun _ => c)) fun a b => ?_
    refine Rg.no (i := 10) b rfl (by kernel_rfl) (K0 b rfl rfl rfl (by rw [g]; decide)) rfl (G2 (fun _ => c) (fun _ => c)) fun a b => ?_
    refine Rg.no (i := 11) b rfl (by kernel_rfl) (K0 b rfl rfl rfl (by rw [g]; decide)) rfl (G2 (fun _ => c) (fun _ => c)) fun a b => ?_
    refine ro 8 true true ?_
    refine sl [.O,.e] c b fun a b => ?_
    refine r3 c ?_
    refine Rg.no (i := 9) b rfl (by kernel_rfl) (K0 b rfl rfl rfl (by rw [g]; decide)) rfl (G2 (fun _ => c) (fun _ => c)) fun a b => ?_
    refine ro 12 true true ?_
    refine sl [.O,.e] c b fun a b => ?_
    refine r3 c ?_
    refine Rg.no (i := 13) b rfl (by kernel_rfl) (K0 b rfl rfl rfl (by rw [g]; decide)) rfl (G2 (fun _ => c) (fun _ => c)) fun a b => ?_
    refine Rg.no (i := 14) b rfl (by kernel_rfl) (K0 b rfl rfl rfl (by rw [g]; decide)) rfl (G2 (fun _ => c) (fun _ => c)) fun a b => ?_
    refine sr [.P 15 .T,.P 16 .p] b c c fun a b => ?_
    refine Rg.done (by kernel_rfl) ?_
    subst Y
    subst X
    exact ⟨true, oi k, b.pk, c⟩
   replace k := iteF g k
   refine Rg.take (i := 6) true rfl b rfl (by kernel_rfl) (F9 b rfl rfl rfl g) (A6.loadBA b 3 rfl rfl a9Z) rfl (G2 (fun _ => c) (fun _ => c)) fun a b => ?_
   refine Rg.take (i := 7) true rfl b rfl (by kernel_rfl) (F9 b rfl rfl rfl g) (A6.loadBA b 1 rfl rfl a4Z) rfl (G2 (fun _ => c) (fun _ => c)) fun a b => ?_
   refine Rg.take (i := 10) true rfl b rfl (by kernel_rfl) (F9 b rfl rfl rfl g) (A6.loadBA b 3 rfl rfl a9Z) rfl (G2 (fun _ => c) (fun _ => c)) fun a b => ?_
   refine Rg.take (i := 11) true rfl b rfl (by kernel_rfl) (F9 b rfl rfl rfl g) (A6.loadBA b 0 rfl rfl a4Z) rfl (G2 (fun _ => c) (fun _ => c)) fun a b => ?_
   refine ro 8 true true ?_
   obtain ⟨ay, ak, k⟩ := B4 k
   have t := I5 c E G ak
   refine WL.fnq b (t) (F9 b rfl rfl rfl g) b1n rfl rfl rfl ?_
   clear b c t; rintro e w ⟨aO, rfl, az, c⟩; refine ⟨_, rfl, ?_⟩; clear a; intro a b
   subst az
   refine WL.nil ?_
   refine r3 c ?_
   refine Rg.takeP (i := 9) b rfl (by kernel_rfl) (F9 b rfl rfl rfl g) (A6.field1 b rfl a7J ty3 rfl) rfl (G2 (fun _ => c) (fun _ => c)) fun a b => ?_
   refine ro 12 true true ?_
   obtain ⟨aA, am, k⟩ := B4 k
   have t := J3 c E G am
   refine WL.fnq b (t) (F9 b rfl rfl rfl g) b1t rfl rfl rfl ?_
   clear b c t; rintro e w ⟨aP, rfl, aB, c⟩; refine ⟨_, rfl, ?_⟩; clear a; intro a b
   subst aB
   refine WL.nil ?_
   refine r3 c ?_
   refine Rg.takeP (i := 13) b rfl (by kernel_rfl) (F9 b rfl rfl rfl g) (A6.field1 b rfl a7J ty3 rfl) rfl (G2 (fun _ => c) (fun _ => c)) fun a b => ?_
   refine Rg.takeP (i := 14) b rfl (by kernel_rfl) (F9 b rfl rfl rfl g) (A6.p b rfl) rfl (G2 (fun _ => c) (fun _ => c)) fun a b => ?_
   refine sr [.P 15 .N,.P 16 .p] b c c fun a b => ?_
   refine Rg.done (by kernel_rfl) ?_
   subst Y
   subst X
   exact ⟨(ay.Station != aA.Station), oi k, b.pk, c⟩
  clear b c a w; rintro a w ⟨T, rfl, b, c⟩
  refine W.cond b rfl (fun J => ?_) (fun J => ?_)
  ·replace d := iteT J d
   refine sg [.s,.p,.e] c b fun a b => ?_
   refine W.ret ?_
   subst q
   rw [← oi d] at n
   dsimp only at n
   refine fg [_] b ?_
   obtain rfl := oi n
   replace c := pm [.D 0,.D 0,.D 0,.D 0] c
   exact ⟨rfl, c⟩
  replace d := iteF J d
  refine W.seq ?_
  obtain ⟨aC, l, d⟩ := B4 d
  refine W.cut (fun a w => ∃ U, U = aC ∧ Rep a 104 [(2, .bool x2), (3, pp A), (4, pp B), (17, .slice o x1.Rides.length p), (18, vi ((x1.Rides).length : Int)), (19, vi ((u : Nat) : Int)), (87, .bool U)] ∧ St w s (pc S (A1.cells af).toArray 88 :: pc L (A1.cells C).toArray 88 :: pc B #[.slice o x1.Rides.length p] 42 :: pc A #[.slice v x0.Day.Trains.length y, .slice x x0.Day.Turns.length z, vi x0.least] 66 :: R)) ?_ ?_
  ·refine W.gen fun a0 Z => ?_
   refine W.gen fun a1 aa => ?_
   refine rE c [] [] [0, 1, 2, 3, 4, 5, 6, 7, 8, 9, 10, 11, 12, 13, 14, 15] [0, 1, 2, 3, 4, 5, 6, 7, 8, 9, 10, 11, 12, 13, 14, 15] mixed ?_
   replace c := c.drew
   refine sr [.P 0 .p,.P 1 .p] b c c fun a b => ?_
   rcases b2o x2 with f | f
   ·replace l := iteT f l
    refine Rg.take (i := 2) true rfl b rfl (by kernel_rfl) (F9 b rfl rfl rfl f) (A6.loadBA b 3 rfl rfl a9Z) rfl (G2 (fun _ => c) (fun _ => c)) fun a b => ?_
    refine Rg.take (i := 3) true rfl b rfl (by kernel_rfl) (F9 b rfl rfl rfl f) (A6.loadBA b 1 rfl rfl a4Z) rfl (G2 (fun _ => c) (fun _ => c)) fun a b => ?_
    refine Rg.take (i := 6) true rfl b rfl (by kernel_rfl) (F9 b rfl rfl rfl f) (A6.loadBA b 3 rfl rfl a9Z) rfl (G2 (fun _ => c) (fun _ => c)) fun a b => ?_
    refine Rg.take (i := 7) true rfl b rfl (by kernel_rfl) (F9 b rfl rfl rfl f) (A6.loadBA b 0 rfl rfl a4Z) rfl (G2 (fun _ => c) (fun _ => c)) fun a b => ?_
    refine Rg.takeP (i := 10) b rfl (by kernel_rfl) (F9 b rfl rfl rfl f) (A6.fld b rfl a9N) rfl (G2 (fun _ => c) (fun _ => c)) fun a b => ?_
    refine Rg.take (i := 11) true rfl b rfl (by kernel_rfl) (F9 b rfl rfl rfl f) (A6.loadB b 3 rfl rfl rfl ty3) rfl (G2 (fun _ => c) (fun _ => c)) fun a b => ?_
    refine ro 4 true true ?_
    obtain ⟨aD, an, l⟩ := B4 l
    have t := I5 c E G an
    refine WL.fnq b (t) (F9 b rfl rfl rfl f) b1n rfl rfl rfl ?_
    clear b c t; rintro e w ⟨aQ, rfl, aE, c⟩; refine ⟨_, rfl, ?_⟩; clear a; intro a b
    subst aE
    refine WL.nil ?_
    refine r3 c ?_
    refine Rg.takeP (i := 5) b rfl (by kernel_rfl) (F9 b rfl rfl rfl f) (A6.field1 b rfl a9l ty3 rfl) rfl (G2 (fun _ => c) (fun _ => c)) fun a b => ?_
    refine ro 8 true true ?_
    obtain ⟨aF, ap, l⟩ := B4 l
    have t := J3 c E G ap
    refine WL.fnq b (t) (F9 b rfl rfl rfl f) b1t rfl rfl rfl ?_
    clear b c t; rintro e w ⟨aR, rfl, aG, c⟩; refine ⟨_, rfl, ?_⟩; clear a; intro a b
    subst aG
    refine WL.nil ?_
    refine r3 c ?_
    refine Rg.takeP (i := 9) b rfl (by kernel_rfl) (F9 b rfl rfl rfl f) (A6.field1 b rfl a9C ty3 rfl) rfl (G2 (fun _ => c) (fun _ => c)) fun a b => ?_
    refine Rg.takeP (i := 12) b rfl (by kernel_rfl) (F9 b rfl rfl rfl f) (A6.p b rfl) rfl (G2 (fun _ => c) (fun _ => c)) fun a b => ?_
    refine Rg.takeP (i := 13) b rfl (by kernel_rfl) (F9 b rfl rfl rfl f) (A6.p b rfl) rfl (G2 (fun _ => c) (fun _ => c)) fun a b => ?_
    refine sr [.P 14 .T,.P 15 .p] b c c fun a b => ?_
    refine Rg.done (by kernel_rfl) ?_
    subst aa
    subst Z
    exact ⟨decide (aD.Dep < (w64 (aF.Arr + x0.least))), oi l, b.pk, c⟩
   replace l := iteF f l
   refine Rg.no (i := 2) b rfl (by kernel_rfl) (K0 b rfl rfl rfl (by rw [f]; decide)) rfl (G2 (fun _ => c) (fun _ => c)) fun a b => ?_
   refine Rg.no (i := 3) b rfl (by kernel_rfl) (K0 b rfl rfl rfl (by rw [f]; decide)) rfl (G2 (fun _ => c) (fun _ => c)) fun a b => ?_
   refine Rg.no (i := 6) b rfl (by kernel_rfl) (K0 b rfl rfl rfl (by rw [f]; decide)) rfl (G2 (fun _ => c) (fun _ => c)) fun a b => ?_
   refine Rg.no (i := 7) b rfl (by kernel_rfl) (K0 b rfl rfl rfl (by rw [f]; decide)) rfl (G2 (fun _ => c) (fun _ => c)) fun a b => ?_
   refine Rg.no (i := 10) b rfl (by kernel_rfl) (K0 b rfl rfl rfl (by rw [f]; decide)) rfl (G2 (fun _ => c) (fun _ => c)) fun a b => ?_
   refine Rg.no (i := 11) b rfl (by kernel_rfl) (K0 b rfl rfl rfl (by rw [f]; decide)) rfl (G2 (fun _ => c) (fun _ => c)) fun a b => ?_
   refine ro 4 true true ?_
   refine sl [.O,.e] c b fun a b => ?_
   refine r3 c ?_
   refine Rg.no (i := 5) b rfl (by kernel_rfl) (K0 b rfl rfl rfl (by rw [f]; decide)) rfl (G2 (fun _ => c) (fun _ => c)) fun a b => ?_
   refine ro 8 true true ?_
   refine sl [.O,.e] c b fun a b => ?_
   refine r3 c ?_
   refine Rg.no (i := 9) b rfl (by kernel_rfl) (K0 b rfl rfl rfl (by rw [f]; decide)) rfl (G2 (fun _ => c) (fun _ => c)) fun a b => ?_
   refine Rg.no (i := 12) b rfl (by kernel_rfl) (K0 b rfl rfl rfl (by rw [f]; decide)) rfl (G2 (fun _ => c) (fun _ => c)) fun a b => ?_
   refine Rg.no (i := 13) b rfl (by kernel_rfl) (K0 b rfl rfl rfl (by rw [f]; decide)) rfl (G2 (fun _ => c) (fun _ => c)) fun a b => ?_
   refine sr [.P 14 .N,.P 15 .p] b c c fun a b => ?_
   refine Rg.done (by kernel_rfl) ?_
   subst aa
   subst Z
   exact ⟨false, oi l, b.pk, c⟩
  clear b c a w; rintro a w ⟨U, rfl, b, c⟩
  refine W.cond b rfl (fun K => ?_) (fun K => ?_)
  ·replace d := iteT K d
   refine sg [.s,.p,.e] c b fun a b => ?_
   refine W.ret ?_
   subst q
   rw [← oi d] at n
   dsimp only at n
   refine fg [_] b ?_
   obtain rfl := oi n
   replace c := pm [.D 0,.D 0,.D 0,.D 0] c
   exact ⟨rfl, c⟩
  replace d := iteF K d
  have := H.small
  refine sm [.k,.r,.i,.p,.e,.D 0,.D 0] c b fun a w b c => ?_
  subst q
  exact ⟨j.length, b2p _, j, u + 1, rfl, F, d, b.pk, c⟩
 clear b c a w; rintro a w ⟨rfl, b, c⟩
 dsimp only at n
 refine sg [.s,.p,.e] c b fun a b => ?_
 refine W.ret ?_
 refine fg [_] b ?_
 obtain rfl := oi n
 replace c := pm [.D 0,.D 0] c
 exact ⟨rfl, c⟩
end Go.Proofs.YthllfhmpjclplaaGreatDoor
