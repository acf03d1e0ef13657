/- The walks of the functions that GuideDesks reaches: each call comes to what its mirror says. The conditions are those of each contract. -/
import Derived.Test.YthllfhmpjclplaaGreatDoorGuideDesksW2
set_option maxRecDepth 10000
open List renaming eraseIdx → b2E
open Bool renaming eq_false_or_eq_true → b2o
open Nat renaming lt_succ_self → b2p
namespace Go.Proofs.YthllfhmpjclplaaGreatDoor
open Tryz renaming prog → b2n
open Go Go.Fp
variable {s : Sg} {R : List HP}
set_option maxHeartbeats 8000000 in
theorem a1y {w : World} {x0 : D7} {A B : Option Addr} {C D : Nat} {x1 x2 : Int} (c : St w s (R)) (o : Sl 4 A7 s A C x0.Day.Trains) (q : Sl 1 (RL 1 (RI .i64)) s B D x0.Day.Turns) {r : (List A2)} (hr : B5 x0 x1 x2 = some r) :
  Calls b2n 54 [.agg (List.toArray [.slice A x0.Day.Trains.length C, .slice B x0.Day.Turns.length D, vi x0.least]), vi x1, vi x2].toArray w (fun e w => ∃ (a0 : Option Addr) (c0 n0 : Nat) (cE : List Value) (t : Sg), e = .returned (.slice a0 n0 c0) ∧ s.Le t ∧ Ev 3 G8 t cE r ∧ r.length = n0 ∧ St w t (B2 113 3 a0 c0 n0 cE :: R)) := by
 refine enter Tryz.func54 rfl rfl rfl fun a d => ?_
 rw [B5] at hr
 replace hr := a6c hr; unfold B5.o at hr
 refine sg [.s] c d fun a d => ?_
 refine bw d c fun E a w d c => ?_
 refine sl [.p,.e,.s] c d fun a d => ?_
 refine WL.mkMap (fk := P2.f) (fv := In.cell) d c (A0 rfl) rfl fun u a w d c => ?_
 replace c := c.msNew (Te := 88) (es := 3)
 refine al d c b0R fun ag a w d c => ?_
 refine so [.S 0,.e,.q,.s,.B 2,.p] c d fun a w d c => ?_
 obtain ⟨bU, cH, hr⟩ := P4.bnd hr
 refine fq d (T9 c o q cH) ?_; rintro _ w ⟨da, cF, rfl, bE, bn, c⟩; refine ⟨_, rfl, fun a d => ?_⟩
 obtain ⟨o, q⟩ := m2 bE o q
 refine sl [.e,.o] c d fun a d => ?_
 obtain ⟨cG, K, hr⟩ := P4.bind hr
 refine W.cut (fun a w => ∃ am F H S, cF.Le S ∧ am = cG ∧ MEv 3 A8 S F am ∧ Rep a 96 [(2, vi x2), (3, pp E), (7, pp ag), (4294967295, vi (H : Nat))] ∧ St w S (pt H (.deferred (some [])) :: pc ag #[.map (some u)] 137 :: a1v P2.f 88 3 u F :: pc E #[.slice A x0.Day.Trains.length C, .slice B x0.Day.Turns.length D, vi x0.least] 66 :: R)) ?_ ?_
 ·refine W.rangeFunc (l := bU) (ps := [22]) [] rfl d rfl c rfl bn a9X (fun _ => rfl) rfl (fun bF S Q_ => ∃ (aq : List A1), ∃ (am : List (Int × (List A1))), ∃ (F : List (Int × In)), bU = bF ++ aq ∧ B5.loop1 x0 aq am = some cG ∧ cF.Le S ∧ MEv 3 A8 S F am ∧ Q_ = pc ag #[.map (some u)] 137 :: a1v P2.f 88 3 u F :: pc E #[.slice A x0.Day.Trains.length C, .slice B x0.Day.Turns.length D, vi x0.least] 66 :: R) (fun _ _ _ => False) (fun _ _ _ h => (by obtain ⟨aq, am, F, _, _, hle_, _⟩ := h; exact hle_)) ⟨bU, [], ([] : List (Int × In)), rfl, K, Sg.Le.refl _, (show MEv 3 A8 s ([] : List (Int × In)) ([] : List (Int × List A1)) from trivial), rfl⟩ (fun n (aI : Nat) => [(3, pp E), (7, pp ag), (8, pp aI)]) (fun n (aI : Nat) => [pc aI (A1.cells n).toArray 88]) ?_ ?_ ?_ ?_
  ·intro n a w dy R cV d c
   refine W.region ?_
   refine al d c a0Z fun aI a w d c => ?_
   refine so [.A 0,.e] c d fun a w d c => ?_
   exact ⟨aI, d.pk, c⟩
  ·intro bF n aI S Q_ T_ cV a w hpre_ hI_ d c
   obtain ⟨aq, am, F, a6, K, an, aN, rfl⟩ := hI_
   obtain ⟨aq, rfl⟩ := a1K a6 hpre_
   rw [B5.loop1] at K
   replace c : St w S (pc aI (A1.cells n).toArray 88 :: pc ag #[.map (some u)] 137 :: a1v P2.f 88 3 u F :: pc E #[.slice A x0.Day.Trains.length C, .slice B x0.Day.Turns.length D, vi x0.least] 66 :: (R ++ T_)) := c
   generalize cI : R ++ T_ = R at c
   refine W.gen fun dz cJ => ?_
   obtain ⟨o, q⟩ := m2 an o q
   replace bn := a2v.mono an bn
   refine W.block ?_
   refine W.gen fun cW cK => ?_
   refine rE c [] [2] [0, 1, 2, 3, 4, 5, 6, 7, 8, 9, 10, 11, 12] [0, 1, 2, 3, 4, 5, 6, 7, 8, 9, 10, 11, 12, 13, 14] mixed ?_
   replace c := c.drew
   refine sr [.T 0 false (.b 1),.T 1 false (.B 2),.T 2 false (.B 0),.T 5 false (.b 1),.T 6 false (.B 2),.T 7 false (.B 0),.T 11 false (.B 0)] d c (c.dropAt 2) fun a d => ?_
   obtain ⟨P, bu, K⟩ := B4 K
   obtain ⟨dA, a7, K⟩ := B4 K
   obtain rfl := oi (bu.symm.trans a7)
   obtain ⟨bV, bv, K⟩ := R8 K
   obtain ⟨bo, bz, K⟩ := B4 K
   suffices key : ∀ aY aO aD (a : Act) (w : World), MEv 3 A8 S (O1 F P.Dep ⟨aY, aO, bo.length, aD⟩) (O1 am P.Dep bo) → Sl 4 A7 S A C x0.Day.Trains → Sl 1 (RL 1 (RI .i64)) S B D x0.Day.Turns → Rep a 96 [] → St w S (pc aI (A1.cells n).toArray 88 :: pc ag #[.map (some u)] 137 :: a1v P2.f 88 3 u (O1 F P.Dep ⟨aY, aO, bo.length, aD⟩) :: pc E #[.slice A x0.Day.Trains.length C, .slice B x0.Day.Turns.length D, vi x0.least] 66 :: R) → cW.nor a w by
    refine Rg.many 3 [12] (by kernel_rfl) ⟨?_, ?_, trivial⟩
    ·refine bk 3 true true ?_
     refine fq d (I5 c o q bu) ?_; rintro _ w ⟨cL, rfl, bW, c⟩; refine ⟨_, rfl, fun a d => ?_⟩
     subst bW
     refine WL.nil ?_
     refine r2 c (c.dropAt 2) ?_
     refine sr [.P 4 (.v 3 3)] d c (c.dropAt 2) fun a d => ?_
     refine Rg.many 8 [12] (by kernel_rfl) ⟨?_, ?_, trivial⟩
     ·refine bk 8 true true ?_
      refine fq d (I5 c o q a7) ?_; rintro _ w ⟨bX, rfl, bp, c⟩; refine ⟨_, rfl, fun a d => ?_⟩
      subst bp
      refine WL.nil ?_
      refine r2 c (c.dropAt 2) ?_
      refine sr [.P 9 (.v 3 3)] d c (c.dropAt 2) fun a d => ?_
      have hF := c; replace c := c
      obtain ⟨bq, br, aZ, aJ, aw⟩ := MEv.at aN P.Dep
      rw [bv] at aJ aw
      refine tT (i := 10) true rfl d rfl (by kernel_rfl) (A6.msGet P2 d 2 (k := P.Dep) rfl rfl rfl a5c b0L aJ) rfl hF (hF.dropAt 2) fun a d => ?_
      replace c := hF; clear hF
      refine ro 12 true true ?_
      refine WL.lit d c (e := 88) (es := 3) (vs := [(0, .agg (A1.cells n).toArray)]) (cs := [vi n.Train, vi n.On, vi n.Off]) (A0 rfl) rfl (by kernel_rfl) rfl fun bs a w d c => ?_
      refine WL.nil ?_
      refine r2 (c.tail) ((c.tail).dropAt 2) ?_
      refine ro 13 false true ?_
      replace c := c.msOpen 3 rfl aJ
      replace c : St w S (B2 88 3 bq br bV.length aZ :: pc bs #[vi n.Train, vi n.On, vi n.Off] 88 :: pc aI (A1.cells n).toArray 88 :: pc ag #[.map (some u)] 137 :: a2l P2.f 88 3 u F P.Dep :: pc E #[.slice A x0.Day.Trains.length C, .slice B x0.Day.Turns.length D, vi x0.least] 66 :: R) := c
      replace c := c.front 1 rfl
      refine WL.appD d c 0 (m := 1) (A0 rfl) rfl rfl rfl a7F rfl aw (rfl) (xs := [n]) (Ev.cons (c1 := [vi n.Train, vi n.On, vi n.Off]) rfl rfl (Ev.nil)) rfl rfl bz rfl fun aY aO aD a w a1 d c => ?_
      refine WL.nil ?_
      refine rf ((c.tail).dropAt 2) ?_
      refine ro 14 false true ?_
      refine WL.msSet P2 d c 2 (k := P.Dep) (.inl rfl) (A0 rfl) rfl rfl rfl rfl a5c rfl fun a w d c => ?_
      refine WL.nil ?_
      refine rf (c.dropAt 2) ?_
      refine Rg.done (by kernel_rfl) ?_
      exact key _ _ _ _ _ (MEv.put a1 (rfl) aN P.Dep) o q d.pk c
     refine bk 12 true true ?_
     refine WL.lit d c (e := 88) (es := 3) (vs := [(0, .agg (A1.cells n).toArray)]) (cs := [vi n.Train, vi n.On, vi n.Off]) (A0 rfl) rfl (by kernel_rfl) rfl fun bs a w d c => ?_
     refine WL.nil ?_
     refine r2 (c.tail) ((c.tail).dropAt 2) ?_
     refine ro 8 true true ?_
     refine fq d (I5 c o q a7) ?_; rintro _ w ⟨bX, rfl, bp, c⟩; refine ⟨_, rfl, fun a d => ?_⟩
     subst bp
     refine WL.nil ?_
     refine r2 (c.tail) ((c.tail).dropAt 2) ?_
     refine sr [.P 9 (.v 3 3)] d (c.tail) ((c.tail).dropAt 2) fun a d => ?_
     have hF := c; replace c := (c.tail)
     obtain ⟨bq, br, aZ, aJ, aw⟩ := MEv.at aN P.Dep
     rw [bv] at aJ aw
     refine tT (i := 10) true rfl d rfl (by kernel_rfl) (A6.msGet P2 d 2 (k := P.Dep) rfl rfl rfl a5c b0L aJ) rfl (hF.tail) ((hF.tail).dropAt 2) fun a d => ?_
     replace c := hF; clear hF
     refine ro 13 false true ?_
     replace c := c.msOpen 3 rfl aJ
     replace c : St w S (B2 88 3 bq br bV.length aZ :: pc bs #[vi n.Train, vi n.On, vi n.Off] 88 :: pc aI (A1.cells n).toArray 88 :: pc ag #[.map (some u)] 137 :: a2l P2.f 88 3 u F P.Dep :: pc E #[.slice A x0.Day.Trains.length C, .slice B x0.Day.Turns.length D, vi x0.least] 66 :: R) := c
     replace c := c.front 1 rfl
     refine WL.appD d c 0 (m := 1) (A0 rfl) rfl rfl rfl a7F rfl aw (rfl) (xs := [n]) (Ev.cons (c1 := [vi n.Train, vi n.On, vi n.Off]) rfl rfl (Ev.nil)) rfl rfl bz rfl fun aY aO aD a w a1 d c => ?_
     refine WL.nil ?_
     refine rf ((c.tail).dropAt 2) ?_
     refine ro 14 false true ?_
     refine WL.msSet P2 d c 2 (k := P.Dep) (.inl rfl) (A0 rfl) rfl rfl rfl rfl a5c rfl fun a w d c => ?_
     refine WL.nil ?_
     refine rf (c.dropAt 2) ?_
     refine Rg.done (by kernel_rfl) ?_
     exact key _ _ _ _ _ (MEv.put a1 (rfl) aN P.Dep) o q d.pk c
    refine bk 12 true true ?_
    refine WL.lit d c (e := 88) (es := 3) (vs := [(0, .agg (A1.cells n).toArray)]) (cs := [vi n.Train, vi n.On, vi n.Off]) (A0 rfl) rfl (by kernel_rfl) rfl fun bs a w d c => ?_
    refine WL.nil ?_
    refine r2 (c.tail) ((c.tail).dropAt 2) ?_
    refine ro 3 true true ?_
    refine fq d (I5 c o q bu) ?_; rintro _ w ⟨cL, rfl, bW, c⟩; refine ⟨_, rfl, fun a d => ?_⟩
    subst bW
    refine WL.nil ?_
    refine r2 (c.tail) ((c.tail).dropAt 2) ?_
    refine sr [.P 4 (.v 3 3)] d (c.tail) ((c.tail).dropAt 2) fun a d => ?_
    refine ro 8 true true ?_
    refine fq d (I5 c o q a7) ?_; rintro _ w ⟨bX, rfl, bp, c⟩; refine ⟨_, rfl, fun a d => ?_⟩
    subst bp
    refine WL.nil ?_
    refine r2 (c.tail) ((c.tail).dropAt 2) ?_
    refine sr [.P 9 (.v 3 3)] d (c.tail) ((c.tail).dropAt 2) fun a d => ?_
    have hF := c; replace c := (c.tail)
    obtain ⟨bq, br, aZ, aJ, aw⟩ := MEv.at aN P.Dep
    rw [bv] at aJ aw
    refine tT (i := 10) true rfl d rfl (by kernel_rfl) (A6.msGet P2 d 2 (k := P.Dep) rfl rfl rfl a5c b0L aJ) rfl (hF.tail) ((hF.tail).dropAt 2) fun a d => ?_
    replace c := hF; clear hF
    refine ro 13 false true ?_
    replace c := c.msOpen 3 rfl aJ
    replace c : St w S (B2 88 3 bq br bV.length aZ :: pc bs #[vi n.Train, vi n.On, vi n.Off] 88 :: pc aI (A1.cells n).toArray 88 :: pc ag #[.map (some u)] 137 :: a2l P2.f 88 3 u F P.Dep :: pc E #[.slice A x0.Day.Trains.length C, .slice B x0.Day.Turns.length D, vi x0.least] 66 :: R) := c
    replace c := c.front 1 rfl
    refine WL.appD d c 0 (m := 1) (A0 rfl) rfl rfl rfl a7F rfl aw (rfl) (xs := [n]) (Ev.cons (c1 := [vi n.Train, vi n.On, vi n.Off]) rfl rfl (Ev.nil)) rfl rfl bz rfl fun aY aO aD a w a1 d c => ?_
    refine WL.nil ?_
    refine rf ((c.tail).dropAt 2) ?_
    refine ro 14 false true ?_
    refine WL.msSet P2 d c 2 (k := P.Dep) (.inl rfl) (A0 rfl) rfl rfl rfl rfl a5c rfl fun a w d c => ?_
    refine WL.nil ?_
    refine rf (c.dropAt 2) ?_
    refine Rg.done (by kernel_rfl) ?_
    exact key _ _ _ _ _ (MEv.put a1 (rfl) aN P.Dep) o q d.pk c
   clear d c a w; intro aY aO aD a w cM o q d c
   subst cK
   replace c := c.tail
   subst cJ
   subst cI
   exact ⟨S, _, ⟨aq, (O1 am P.Dep bo), (O1 F P.Dep ⟨aY, aO, bo.length, aD⟩), a6.trans (by simp), K, an, cM, rfl⟩, c⟩
  ·intro S Q_ H a w hI_ d c
   obtain ⟨aq, am, F, a6, K, an, aN, rfl⟩ := hI_
   obtain rfl := a2S a6
   rw [B5.loop1] at K
   exact ⟨am, _, H, S, an, oi K, aN, d.pk, c⟩
  exact fun _ _ _ _ _ _ _ h => h.elim
 clear d c a w; rintro a w ⟨am, F, H, S, an, rfl, aN, d, c⟩
 obtain ⟨o, q⟩ := m2 an o q
 replace bn := a2v.mono an bn
 refine sg [.s] c d fun a d => ?_
 refine WL.mkMap (fk := J9.f) (fv := Value.bool) d c (A0 rfl) rfl fun L a w d c => ?_
 refine sl [.p,.e,.s] c d fun a d => ?_
 replace c := c.vecNil 113 3
 refine sl [.p,.e,.q,.s,.b 3] c d fun a d => ?_
 have hF := c.msFix A8.mono 4 rfl aN; clear c; obtain ⟨bA, bt, c, aK⟩ := hF
 obtain ⟨o, q⟩ := m2 bt o q
 refine WL.rangeI d c 4 rfl rfl b0N (A0 rfl) rfl fun T a w d c => ?_
 refine WL.nil ?_
 obtain ⟨bY, X, hr⟩ := P4.bindP hr
 refine W.cut (fun a w => ∃ M aE ar au aF ap av, bA.Le av ∧ bY (M, aE) ∧ Ev 3 G8 av ap M ∧ M.length = aF ∧ Rep a 96 [(10, .slice ar aF au), (4294967295, vi (H : Nat))] ∧ St w av (B2 113 3 ar au aF ap :: L0 J9.f Value.bool L aE :: pt H (.deferred (some [])) :: pc ag #[.map (some u)] 137 :: L0 P2.f In.cell u F :: pc E #[.slice A x0.Day.Trains.length C, .slice B x0.Day.Turns.length D, vi x0.least] 66 :: R)) ?_ ?_
 ·unfold B5.loop2 at X
  refine W.block ?_
  refine W.loop (fun m a w => ∃ aB Y a8 M aE ar au aF ap av, aB.length = m ∧ aB.Perm (a7d Y am) ∧ aB.length ≤ a8 ∧ bA.Le av ∧ P4 (a2V (fun x st => B5.loop2.step x0 x2 x.1 x.2 st.1 st.2) a8 aB (M, aE)) bY ∧ Ev 3 G8 av ap M ∧ M.length = aF ∧ Rep a 96 [(2, vi x2), (3, pp E), (9, .map (some L)), (10, .slice ar aF au), (39, pp T), (4294967295, vi (H : Nat))] ∧ St w av (B2 113 3 ar au aF ap :: L0 J9.f Value.bool L aE :: pt H (.deferred (some [])) :: pc ag #[.map (some u)] 137 :: Y4 P2.f In.cell u T F Y :: pc E #[.slice A x0.Day.Trains.length C, .slice B x0.Day.Turns.length D, vi x0.least] 66 :: R)) (m := (am).length) ⟨am, [], (am).length, [], [], none, 0, 0, [], bA, rfl, by rw [a4q], Nat.le_refl _, lr, X, (Ev.nil), (rfl), d.pk, c⟩ ?_
  clear d c a w X; rintro db a w ⟨aB, Y, a8, M, aE, ar, au, aF, ap, av, rfl, bG, b_, ah, X, aS, rfl, d, c⟩
  refine W.gen fun dc bH => ?_
  replace aK := MSl.mono A8.mono ah aK
  obtain ⟨o, q⟩ := m2 ah o q
  refine sg [.s] c d fun a d => ?_
  refine WL.nextI d c 4 rfl rfl (A0 rfl) rfl ?_ ?_
  ·intro aT; clear d a; intro a d
   replace aT := fun j hj => aT j (by rw [MSl.len aK]; exact hj)
   have bI := bG; rw [a4x aT] at bI; obtain rfl := bI.eq_nil; replace X := a4E X
   refine sl [.p,.e,.q] c d fun a d => ?_
   refine W.condF d rfl rfl ?_
   subst bH
   refine W.exit rfl ?_
   replace c := c.iDone 4 rfl
   exact ⟨M, aE, ar, au, M.length, ap, av, ah, X, aS, rfl, d.pk, c⟩
  clear d c a w; intro aP a9 a w bJ ca d c
  obtain ⟨y, bZ, b0, dd, cb⟩ := a9
  obtain ⟨a9, bK, a_, bL⟩ := MSl.at aK bJ; dsimp only at bK a_ bL; subst bL
  obtain ⟨cc, a4, de, cd, ce, b1, Z, cf⟩ := a3c b_ (bG.trans (a3d bK ca)) X
  (try dsimp only at Z); unfold B5.loop2.step at Z
  refine sl [.p,.e,.q] c d fun a d => ?_
  refine W.condT d rfl rfl ?_
  refine sg [.k,.o,.s] c d fun a d => ?_
  refine vP c d (show A6 _ _ _ _ (Value.tuple #[vi y, .slice bZ a9.length b0]) from A6.entryI (fk := P2.f) (fv := In.cell) d 4 (p := (y, (⟨bZ, b0, a9.length, cb⟩ : In))) rfl bJ rfl) rfl fun a d => ?_
  refine sl [.p,.p,.p,.p,.e,.s,.B 5,.p] c d fun a d => ?_
  obtain ⟨aQ, cg, Z⟩ := P4.bind Z
  refine fq d (a1U c o q a_ cg) ?_; rintro _ w ⟨I, ai, rfl, a2, b2, c⟩; refine ⟨_, rfl, fun a d => ?_⟩
  obtain ⟨a_, o, q, aS⟩ := m4 a2 a_ o q aS
  replace aK := MSl.mono A8.mono a2 aK
  refine sl [.p,.e] c d fun a d => ?_
  obtain ⟨b3, aa, Z⟩ := P4.bindP Z
  refine W.cut (fun a w => ∃ N ay az aA aG ad, b3 (N, ay) ∧ Ev 3 G8 ai ad N ∧ N.length = aG ∧ Rep a 96 [(2, vi x2), (3, pp E), (9, .map (some L)), (10, .slice az aG aA), (39, pp T), (4294967295, vi (H : Nat))] ∧ St w ai (N3 G9.f Value.bool I aQ :: B2 113 3 az aA aG ad :: L0 J9.f Value.bool L ay :: pt H (.deferred (some [])) :: pc ag #[.map (some u)] 137 :: Y4 P2.f In.cell u T F (Y ++ [aP]) :: pc E #[.slice A x0.Day.Trains.length C, .slice B x0.Day.Turns.length D, vi x0.least] 66 :: R)) ?_ ?_
  ·unfold B5.loop3 at aa
   refine W.block ?_
   refine W.loop (fun m a w => ∃ Q g N ay az aA aG ad, Q = m ∧ g + Q = 4 ∧ P4 (a6F (fun x st => B5.loop3.step x0 x2 y aQ x st.1 st.2) Q g (N, ay)) b3 ∧ Ev 3 G8 ai ad N ∧ N.length = aG ∧ Rep a 96 [(2, vi x2), (3, pp E), (9, .map (some L)), (10, .slice az aG aA), (11, vi y), (39, pp T), (47, .agg (K7 4 I).toArray), (48, vi ((g : Nat) : Int)), (4294967295, vi (H : Nat))] ∧ St w ai (N3 G9.f Value.bool I aQ :: B2 113 3 az aA aG ad :: L0 J9.f Value.bool L ay :: pt H (.deferred (some [])) :: pc ag #[.map (some u)] 137 :: Y4 P2.f In.cell u T F (Y ++ [aP]) :: pc E #[.slice A x0.Day.Trains.length C, .slice B x0.Day.Turns.length D, vi x0.least] 66 :: R)) (m := 4) ⟨4, 0, M, aE, ar, au, M.length, ap, rfl, by omega, aa, aS, rfl, d.pk, c⟩ ?_
   clear d c a w aa; rintro df a w ⟨Q, g, N, ay, az, aA, aG, ad, rfl, c4, aa, ba, rfl, d, c⟩
   refine W.gen fun dg bM => ?_
   rcases Q with _ | Q
   ·replace aa := a6H aa
    refine sg [.s,.p,.e,.q] c d fun a d => ?_
    refine W.condF d rfl (decide_eq_false (by omega)) ?_
    subst bM
    refine W.exit rfl ?_
    exact ⟨N, ay, az, aA, N.length, ad, aa, ba, rfl, d.pk, c⟩
   have cX : g < 4 := by omega
   obtain ⟨dh, ae, ch⟩ := a6m aa
   (try dsimp only at ae); unfold B5.loop3.step at ae
   refine sg [.s,.p,.e,.q] c d fun a d => ?_
   refine W.condT d rfl (decide_eq_true (by omega)) ?_
   refine sg [.k,.q,.o,.s,.p] c d fun a d => ?_
   obtain ⟨aR, ci, ae⟩ := P4.bind ae
   obtain ⟨cj, cY, bb⟩ := W8 ci
   obtain ⟨bc, bd⟩ := c.mapsAt 0 rfl bb
   refine vP c d (show A6 _ _ _ _ (Value.map (some bc)) from A6.indexMi d (f := fun b => Value.map (some b)) (l := I) a6t rfl rfl (a4X b2) b2 cj bd) rfl fun a d => ?_
   refine sl [.p,.p,.e,.s,.p] c d fun a d => ?_
   replace c := c.mapsTake 0 rfl bb bd
   refine WL.rangeI d c 0 rfl rfl b0C (A0 rfl) rfl fun aU a w d c => ?_
   refine WL.nil ?_
   obtain ⟨b4, af, ae⟩ := P4.bindP ae
   refine W.cut (fun a w => ∃ G V aj ak aH U, b4 (G, V) ∧ Ev 3 G8 ai U G ∧ G.length = aH ∧ Rep a 96 [(2, vi x2), (3, pp E), (9, .map (some L)), (10, .slice aj aH ak), (11, vi y), (39, pp T), (47, .agg (K7 4 I).toArray), (48, vi ((g : Nat) : Int)), (4294967295, vi (H : Nat))] ∧ St w ai (N3 G9.f Value.bool I aQ :: B2 113 3 aj ak aH U :: L0 J9.f Value.bool L V :: pt H (.deferred (some [])) :: pc ag #[.map (some u)] 137 :: Y4 P2.f In.cell u T F (Y ++ [aP]) :: pc E #[.slice A x0.Day.Trains.length C, .slice B x0.Day.Turns.length D, vi x0.least] 66 :: R)) ?_ ?_
   ·unfold B5.loop4 at af
    refine W.block ?_
    refine W.loop (fun m a w => ∃ aC aL be G V aj ak aH U, aC.length = m ∧ aC.Perm (a7d aL aR) ∧ aC.length ≤ be ∧ P4 (a2V (fun x st => B5.loop4.step x0 x2 y g x.1 x.2 st.1 st.2) be aC (G, V)) b4 ∧ Ev 3 G8 ai U G ∧ G.length = aH ∧ Rep a 96 [(2, vi x2), (3, pp E), (9, .map (some L)), (10, .slice aj aH ak), (11, vi y), (13, vi ((g : Nat) : Int)), (39, pp T), (47, .agg (K7 4 I).toArray), (48, vi ((g : Nat) : Int)), (53, pp aU), (4294967295, vi (H : Nat))] ∧ St w ai (Y4 G9.f Value.bool bc aU aR aL :: N3 G9.f Value.bool (b2E I ((((g : Nat) : Int)).toNat)) (b2E aQ ((((g : Nat) : Int)).toNat)) :: B2 113 3 aj ak aH U :: L0 J9.f Value.bool L V :: pt H (.deferred (some [])) :: pc ag #[.map (some u)] 137 :: Y4 P2.f In.cell u T F (Y ++ [aP]) :: pc E #[.slice A x0.Day.Trains.length C, .slice B x0.Day.Turns.length D, vi x0.least] 66 :: R)) (m := (aR).length) ⟨aR, [], (aR).length, N, ay, az, aA, N.length, ad, rfl, by rw [a4q], Nat.le_refl _, af, ba, rfl, d.pk, c⟩ ?_
    clear d c a w af; rintro di a w ⟨aC, aL, be, G, V, aj, ak, aH, U, rfl, bN, ck, af, a3, rfl, d, c⟩
    refine W.gen fun dj bO => ?_
    refine sg [.s] c d fun a d => ?_
    refine WL.nextI d c 0 rfl rfl (A0 rfl) rfl ?_ ?_
    ·intro bT; clear d a; intro a d
     have bP := bN; rw [a4x bT] at bP; obtain rfl := bP.eq_nil; replace af := a4E af
     refine sl [.p,.e,.q] c d fun a d => ?_
     refine W.condF d rfl rfl ?_
     subst bO
     refine W.exit rfl ?_
     replace c := c.iDone 0 rfl
     replace c := St.mapsBack c bb bd
     exact ⟨G, V, aj, ak, G.length, U, af, a3, rfl, d.pk, c⟩
    clear d c a w; intro bB bf a w bQ cl d c
    obtain ⟨bg, bf⟩ := bf
    have cm := bQ
    obtain ⟨cn, a5, dk, co, cp, b5, J, cq⟩ := a3c ck (bN.trans (a3d cm cl)) af
    (try dsimp only at J); unfold B5.loop4.step at J
    refine sl [.p,.e,.q] c d fun a d => ?_
    refine W.condT d rfl rfl ?_
    refine sg [.k,.o,.s] c d fun a d => ?_
    refine vP c d (show A6 _ _ _ _ (Value.tuple #[.agg (F8.cells bg).toArray, .bool bf]) from A6.entryI (fk := G9.f) (fv := Value.bool) d 0 (p := (bg, bf)) rfl bQ rfl) rfl fun a d => ?_
    refine sl [.p] c d fun a d => ?_
    refine al d c a8V fun b6 a w d c => ?_
    refine so [.A 0,.e,.q] c d fun a w d c => ?_
    refine W.gen fun dl cr => ?_
    refine rE c [] [] [0, 1, 2, 3, 4, 5, 6, 7, 8, 9, 10, 11, 12, 13] [0, 1, 2, 3, 4, 5, 6, 7, 8, 9, 10, 11, 12, 13] mixed ?_
    replace c := c.drew
    obtain ⟨dm, ct, J⟩ := P4.bind J
    obtain ⟨c5, cZ, cu⟩ := W8 ct
    obtain ⟨c6, c7, cv, b7⟩ := o.at cu
    obtain ⟨dn, dp, dq, dr, rfl, cN, ds⟩ := cv
    refine sr [.P 0 (.f 0),.P 1 (.f 0),.T 2 true (.b 8),.P 3 (.f 0),.T 4 true (.b 0),.P 5 (.x 72),.P 6 (.f 2)] d c c fun a d => ?_
    refine tT (i := 7) true rfl d rfl (by kernel_rfl) (A6.load1 d rfl (fun w h => (b7 w _ h).one rfl) a3P) rfl c c fun a d => ?_
    obtain ⟨O, cw, J⟩ := P4.bind J
    obtain ⟨c8, c2, cx⟩ := W8 cw
    obtain ⟨c9, c_, cy, c3⟩ := cN.at cx
    subst cy
    refine sr [.P 8 (.f 1),.T 9 true (.b 0),.P 10 (.x 75),.T 11 true .h] d c c fun a d => ?_
    refine ro 12 true true ?_
    refine al d c a3O fun b8 a w d c => ?_
    refine WL.nil ?_
    refine r3 (c.tail) ?_
    refine ro 13 true true ?_
    refine so [.A 0,.e] c d fun a w d c => ?_
    refine r3 (c.tail) ?_
    refine Rg.done (by kernel_rfl) ?_
    subst cr
    refine sg [.s,.p,.f 2,.b 0,.p,.i] c d fun a d => ?_
    refine vP c d (A6.build d (vs := [(0, vi y), (1, vi O.Arr), (2, vi ((g + 1 : Nat) : Int))]) [vi y, vi O.Arr, vi ((g + 1 : Nat) : Int)] rfl (by kernel_rfl)) rfl fun a d => ?_
    refine al d c a5H fun bC a w d c => ?_
    refine so [.A 0,.e,.q] c d fun a w d c => ?_
    obtain ⟨cO, aM, J⟩ := P4.bnd J
    refine W.cut (fun a w => ∃ bD, bD = cO ∧ Rep a 96 [(2, vi x2), (3, pp E), (9, .map (some L)), (10, .slice aj G.length ak), (11, vi y), (13, vi ((g : Nat) : Int)), (17, pp bC), (39, pp T), (47, .agg (K7 4 I).toArray), (48, vi ((g : Nat) : Int)), (53, pp aU), (85, .bool bD), (4294967295, vi (H : Nat))] ∧ St w ai (pc bC #[vi y, vi O.Arr, vi ((g + 1 : Nat) : Int)] 113 :: pc b8 (B9.cells O).toArray 75 :: pc b6 (F8.cells bg).toArray 146 :: Y4 G9.f Value.bool bc aU aR (aL ++ [bB]) :: N3 G9.f Value.bool (b2E I ((((g : Nat) : Int)).toNat)) (b2E aQ ((((g : Nat) : Int)).toNat)) :: B2 113 3 aj ak G.length U :: L0 J9.f Value.bool L V :: pt H (.deferred (some [])) :: pc ag #[.map (some u)] 137 :: Y4 P2.f In.cell u T F (Y ++ [aP]) :: pc E #[.slice A x0.Day.Trains.length C, .slice B x0.Day.Turns.length D, vi x0.least] 66 :: R)) ?_ ?_
    ·refine W.gen fun dt bR => ?_
     refine sg [.r,.f 0,.b 1,.p,.p,.p] c d fun a d => ?_
     rcases b2o (O.Station == x2) with aW | aW
     ·replace aM := iteT aW aM
      refine sl [.p,.B 0] c d fun a d => ?_
      refine WL.vS c d (F9 d rfl rfl rfl aW) (A6.mapGetS J9 d 6 (k := (A2.mk y O.Arr ((g + 1 : Nat) : Int))) (z := false) rfl rfl rfl a9U zm4) rfl fun a d => ?_
      refine sl [.p,.T,.e] c d fun a d => ?_
      subst bR
      exact ⟨!((O2 V (A2.mk y O.Arr ((g + 1 : Nat) : Int))).getD false), aM, d.pk, c⟩
     replace aM := iteF aW aM
     refine sl [.O,.O,.O,.O,.N,.e] c d fun a d => ?_
     subst bR
     exact ⟨false, aM, d.pk, c⟩
    clear d c a w; rintro a w ⟨bD, rfl, d, c⟩
    obtain ⟨cP, ax, J⟩ := P4.bind J
    refine W.cut (fun a w => ∃ aV bh bi bj bl aX, (aV, bh) = cP ∧ Ev 3 G8 ai aX aV ∧ aV.length = bl ∧ Rep a 96 [(2, vi x2), (3, pp E), (9, .map (some L)), (10, .slice bi bl bj), (11, vi y), (13, vi ((g : Nat) : Int)), (39, pp T), (47, .agg (K7 4 I).toArray), (48, vi ((g : Nat) : Int)), (53, pp aU), (4294967295, vi (H : Nat))] ∧ St w ai (pc bC #[vi y, vi O.Arr, vi ((g + 1 : Nat) : Int)] 113 :: pc b8 (B9.cells O).toArray 75 :: pc b6 (F8.cells bg).toArray 146 :: Y4 G9.f Value.bool bc aU aR (aL ++ [bB]) :: N3 G9.f Value.bool (b2E I ((((g : Nat) : Int)).toNat)) (b2E aQ ((((g : Nat) : Int)).toNat)) :: B2 113 3 bi bj bl aX :: L0 J9.f Value.bool L bh :: pt H (.deferred (some [])) :: pc ag #[.map (some u)] 137 :: Y4 P2.f In.cell u T F (Y ++ [aP]) :: pc E #[.slice A x0.Day.Trains.length C, .slice B x0.Day.Turns.length D, vi x0.least] 66 :: R)) ?_ ?_
    ·refine W.gen fun du bS => ?_
     refine W.cond d rfl (fun bm => ?_) (fun bm => ?_)
     ·replace ax := iteT bm ax
      refine sg [.s,.p,.B 0] c d fun a d => ?_
      refine WL.mapSetS J9 d c 6 (k := (A2.mk y O.Arr ((g + 1 : Nat) : Int))) (v := true) (.inl rfl) (A0 rfl) rfl rfl rfl rfl a9U rfl fun a w d c => ?_
      refine sl [.e,.r,.p,.B 0] c d fun a d => ?_
      refine WL.lit d c (e := 113) (es := 3) (vs := [(0, .agg (List.toArray [vi y, vi O.Arr, vi ((g + 1 : Nat) : Int)]))]) (cs := [vi y, vi O.Arr, vi ((g + 1 : Nat) : Int)]) (A0 rfl) rfl (by kernel_rfl) rfl fun dw a w d c => ?_
      obtain ⟨b9, cz, ax⟩ := B4 ax
      refine WL.appD d c 5 (m := 1) (A0 rfl) rfl rfl rfl b0q rfl a3 rfl (xs := [(A2.mk y O.Arr ((g + 1 : Nat) : Int))]) (Ev.cons (c1 := [vi y, vi O.Arr, vi ((g + 1 : Nat) : Int)]) rfl rfl (Ev.nil)) rfl rfl cz rfl fun cQ cR cA a w cS d c => ?_
      refine sl [.p,.e] c d fun a d => ?_
      subst bS
      exact ⟨b9, (O1 V (A2.mk y O.Arr ((g + 1 : Nat) : Int)) true), cQ, cR, b9.length, cA, oi ax, cS, (rfl), d.pk, c⟩
     replace ax := iteF bm ax
     refine W.skip ?_
     subst bS
     exact ⟨G, V, aj, ak, G.length, U, oi ax, a3, rfl, d.pk, c⟩
    clear d c a w; rintro a w ⟨aV, bh, bi, bj, bl, aX, rfl, cT, rfl, d, c⟩
    dsimp only at J
    replace c := pm [.D 0,.D 0,.D 0] c
    subst bO
    exact ⟨a5.length, b5, a5, aL ++ [bB], cn, aV, bh, bi, bj, aV.length, aX, rfl, co, cp, cq _ (P4.done J), cT, rfl, d.pk, c⟩
   clear d c a w; rintro a w ⟨G, V, aj, ak, aH, U, af, a3, rfl, d, c⟩
   replace ae := ae _ af
   dsimp only at ae
   refine sg [.r,.i,.p,.e] c d fun a d => ?_
   subst bM
   exact ⟨Q, b2p _, Q, g + 1, G, V, aj, ak, G.length, U, rfl, by omega, ch _ (P4.done ae), a3, rfl, d.pk, c⟩
  clear d c a w; rintro a w ⟨N, ay, az, aA, aG, ad, aa, ba, rfl, d, c⟩
  replace Z := Z _ aa
  dsimp only at Z
  replace c := c.tail
  subst bH
  exact ⟨a4.length, b1, a4, Y ++ [aP], cc, N, ay, az, aA, N.length, ad, ai, rfl, cd, ce, (Sg.Le.trans ah a2), cf _ (P4.done Z), ba, rfl, d.pk, c⟩
 clear d c a w; rintro a w ⟨M, aE, ar, au, aF, ap, av, ah, X, aS, rfl, d, c⟩
 replace hr := hr _ X
 dsimp only at hr
 replace aK := MSl.mono A8.mono ah aK
 obtain ⟨o, q⟩ := m2 ah o q
 refine sg [.s,.p] c d fun a d => ?_
 obtain ⟨dx, cB, hr⟩ := P4.bind hr
 refine fq d (a2a c aS rfl cB) ?_; rintro _ w ⟨cC, rfl, cU, cD, c⟩; refine ⟨_, rfl, fun a d => ?_⟩
 refine sl [.e,.s,.p,.p,.e] c d fun a d => ?_
 refine W.ret ?_
 refine a5d (fn := Tryz.f54) (rs := [.tmp 6]) (vs := [.slice ar M.length au]) d c 2 rfl rfl ?_
 clear c; intro w c
 refine ⟨⟨rfl, trivial⟩, ?_⟩
 obtain rfl := P4.done hr
 replace c := pm [.D 1,.D 1,.D 1,.D 1] c
 exact ⟨ar, au, M.length, cC, av, rfl, (Sg.Le.trans (Sg.Le.trans (Sg.Le.trans bE an) bt) ah), cU, cD, c⟩
set_option maxHeartbeats 8000000 in
theorem R7 {w : World} {d : Nat} {x0 : A2} {y0 : Int} (b : St w s (pc d #[vi y0] 3 :: R))  {r : Bool} (f : B7 x0 y0 = r) :
  Calls b2n 55 [.agg (A2.cells x0).toArray, pp d].toArray w (fun e w => e = .returned (.bool r) ∧ St w s (pc d #[vi y0] 3 :: R)) := by
 refine enter Tryz.func55 rfl rfl rfl fun a c => ?_
 rw [B7] at f
 refine sg [.s] b c fun a c => ?_
 refine bw c b fun g a w c b => ?_
 refine sl [.p,.e,.s,.f 0,.b 0,.b 1,.p,.p,.e] b c fun a c => ?_
 refine W.ret ?_
 refine fg [_] c ?_
 subst f
 replace b := b.tail
 exact ⟨rfl, b⟩
set_option maxHeartbeats 8000000 in
theorem S8 {w : World} {g p : Nat} {x0 : List A2} {q : Option Addr} {y0 r : Int} (f : St w s (pc g #[vi y0] 3 :: R)) (v : Sl 3 G8 s q p x0) (i : B6 x0 y0 = r) :
  Calls b2n 71 [.slice q x0.length p, .func (.func 55) #[] #[pp g]].toArray w (fun e w => e = .returned (vi r) ∧ St w s (pc g #[vi y0] 3 :: R)) := by
 refine enter Tryz.func71 rfl rfl rfl fun a b => ?_
 rw [B6] at i
 refine sg [.s,.p,.e,.q,.s,.p,.l 113 3,.p,.e] f b fun a b => ?_
 obtain ⟨o, d, i⟩ := R8 i
 refine W.cut (fun a w => (.next ()) = o ∧ Rep a 19 [] ∧ St w s (pc g #[vi y0] 3 :: R)) ?_ ?_
 ·refine W.block ?_
  refine W.loop (fun m a w => ∃ c j, c.length = m ∧ x0.drop j = c ∧ B6.loop1 y0 c j = o ∧ Rep a 19 [(0, .slice q x0.length p), (1, .func (.func 55) #[] #[pp g]), (7, vi ((x0).length : Int)), (8, vi ((j : Nat) : Int))] ∧ St w s (pc g #[vi y0] 3 :: R)) (m := x0.length) ⟨x0, 0, rfl, rfl, d, b.pk, f⟩ ?_
  clear b f a w d; rintro B a w ⟨c, j, rfl, h, d, b, f⟩
  refine W.gen fun C k => ?_
  rcases c with _ | ⟨x, c⟩
  ·have n := E8 h
   refine sg [.s,.p,.e,.q] f b fun a b => ?_
   refine W.condF b rfl (decide_eq_false (by omega)) ?_
   subst k
   refine W.exit rfl ?_
   exact ⟨d, b.pk, f⟩
  obtain ⟨n, t, h⟩ := C3 h
  rw [B6.loop1] at d
  refine sg [.s,.p,.e,.q] f b fun a b => ?_
  refine W.condT b rfl (decide_eq_true (by omega)) ?_
  obtain ⟨z, A, u, y⟩ := v.at t
  subst u
  refine sg [.k,.q,.o,.s,.p,.p,.e,.s,.p,.p,.p,.x 113,.h] f b fun a b => ?_
  refine WL.fnw b (R7 f  rfl (r := B7 x y0)) rfl (A0 rfl) b0V rfl rfl rfl ?_
  clear b f; rintro e w ⟨rfl, f⟩; refine ⟨_, rfl, ?_⟩; clear a; intro a b
  refine WL.nil ?_
  refine W.cond b rfl (fun l => ?_) (fun l => ?_)
  ·replace d := iteT l d
   refine sg [.s,.p,.p,.e] f b fun a b => ?_
   refine W.ret ?_
   subst k
   rw [← d] at i
   dsimp only at i
   refine fg [_] b ?_
   subst i
   exact ⟨rfl, f⟩
  replace d := iteF l d
  have := v.small
  refine sg [.k,.r,.i,.p,.e] f b fun a b => ?_
  subst k
  exact ⟨c.length, b2p _, c, j + 1, rfl, h, d, b.pk, f⟩
 clear b f a w; rintro a w ⟨rfl, b, f⟩
 dsimp only at i
 refine sg [.s,.p,.e] f b fun a b => ?_
 refine W.ret ?_
 refine fg [_] b ?_
 subst i
 exact ⟨rfl, f⟩
set_option maxHeartbeats 8000000 in
theorem S7 {fu o h z : Nat}  {w : World} {x0 : List A2} {i : Option Addr} {q : List Value} {y0 : Int} (c : St w s (pc o #[vi y0] 3 :: B2 113 3 i h z q :: R)) (A : Ev 3 G8 s q x0) (K : x0.length = z) {r : (List A2)} (p : D1 fu x0 y0 = some r) :
  Calls b2n 53 [.slice i z h, .func (.func 55) #[] #[pp o]].toArray w (fun e w => ∃ (a0 : Option Addr) (c0 S : Nat) (P : List Value), e = .returned (.slice a0 S c0) ∧ Ev 3 G8 s P r ∧ r.length = S ∧ St w s (B2 113 3 a0 c0 S P :: pc o #[vi y0] 3 :: R)) := by
 refine enter Tryz.func53 rfl rfl rfl fun a b => ?_
 rw [D1] at p
 subst K
 refine sg [.s,.p,.e,.s,.p,.p] c b fun a b => ?_
 have hF := c.lendV G8.mono 1 rfl A (rfl); clear c; obtain ⟨ay, ak, c, T, U⟩ := hF
 refine fq b (S8 c T rfl (r := B6 x0 y0)) ?_; rintro _ w ⟨rfl, c⟩; refine ⟨_, rfl, fun a b => ?_⟩
 replace c := U _ _ c
 refine sl [.p,.e,.q,.s,.p,.p,.e] c b fun a b => ?_
 refine W.cond b rfl (fun B => ?_) (fun B => ?_)
 ·replace p := iteT B p
  refine sg [.s,.p,.p,.e] c b fun a b => ?_
  refine W.ret ?_
  refine fg [_] b ?_
  obtain rfl := oi p
  exact ⟨i, h, x0.length, q, rfl, A, (rfl), c⟩
 replace p := iteF B p
 refine sg [.k,.q,.s,.p,.p,.p,.e] c b fun a b => ?_
 obtain ⟨Q, d, p⟩ := B4 p
 refine W.cut (fun a w => ∃ f l k g, (f, l, k) = Q ∧ Ev 3 G8 s g k ∧ k.length = x0.length ∧ Rep a 42 [(0, .slice i x0.length h), (5, vi f)] ∧ St w s (B2 113 3 i h x0.length g :: pc o #[vi y0] 3 :: R)) ?_ ?_
 ·refine W.block ?_
  refine W.loop (fun m a w => ∃ t f l k g, t = m ∧ D1.loop1 x0 y0 t f l k = some Q ∧ Ev 3 G8 s g k ∧ k.length = x0.length ∧ Rep a 42 [(0, .slice i x0.length h), (1, .func (.func 55) #[] #[pp o]), (5, vi f), (6, vi l)] ∧ St w s (B2 113 3 i h x0.length g :: pc o #[vi y0] 3 :: R)) (m := fu) ⟨fu, (B6 x0 y0), (w64 ((B6 x0 y0) + 1)), x0, q, rfl, d, A, (rfl), b.pk, c⟩ ?_
  clear b c a w d; rintro az a w ⟨t, f, l, k, g, rfl, d, u, n, b, c⟩
  refine W.gen fun aA G => ?_
  rcases t with _ | t
  ·rw [D1.loop1] at d; exact absurd d (by simp)
  rw [D1.loop1] at d
  refine sg [.q,.s,.p,.p,.l 113 3,.p,.e] c b fun a b => ?_
  refine W.cond b rfl (fun C => ?_) (fun C => ?_)
  ·replace d := iteT C d
   obtain ⟨x, an, am, V, d⟩ := gxS d
   obtain ⟨ap, aq, X, ar, ag⟩ := u.at V
   subst X
   refine sg [.k,.q,.o,.s,.p,.p,.y 0,.G 0] c b fun a b => ?_
   refine al b c a5H fun ah a w b c => ?_
   refine so [.A 0,.e,.s,.p,.B 0,.F 2] c b fun a w b c => ?_
   refine WL.fnw b (R7 c  rfl (r := B7 x y0)) rfl (A0 rfl) b0V rfl rfl rfl ?_
   clear b c; rintro e w ⟨rfl, c⟩; refine ⟨_, rfl, ?_⟩; clear a; intro a b
   refine sl [.p,.e] c b fun a b => ?_
   obtain ⟨ai, j, d⟩ := B4 d
   refine W.cut (fun a w => ∃ E y v, (E, y) = ai ∧ Ev 3 G8 s v y ∧ y.length = x0.length ∧ Rep a 42 [(0, .slice i x0.length h), (1, .func (.func 55) #[] #[pp o]), (5, vi E), (6, vi l)] ∧ St w s (pc o #[vi y0] 3 :: pc ah (A2.cells x).toArray 113 :: B2 113 3 i h x0.length v :: R)) ?_ ?_
   ·refine W.gen fun aB H => ?_
    refine W.cond b rfl (fun D => ?_) (fun D => ?_)
    ·replace j := iteT D j
     obtain ⟨_, Y, j⟩ := B4 j
     obtain ⟨aC, aD⟩ := S9 Y
     refine sg [.s,.p,.p,.B 1,.y 2] c b fun a b => ?_
     obtain ⟨Z, F, j⟩ := B4 j
     refine WL.setD b c 2 rfl (A0 rfl) rfl rfl (vs := [vi x.Dep, vi x.Arr, vi x.Rides]) rfl a9d rfl rfl rfl u n (S3 F).1 F rfl rfl fun L a w aa M b c => ?_
     refine sl [.e,.r,.p,.p,.p,.e] c b fun a b => ?_
     subst H
     exact ⟨w64 (f + 1), Z, L, oi j, aa, M, b.pk, c⟩
    replace j := iteF D j
    refine W.skip ?_
    subst H
    exact ⟨f, k, g, oi j, u, n, b.pk, c⟩
   clear b c a w; rintro a w ⟨E, y, v, rfl, aj, ad, b, c⟩
   dsimp only at d
   refine sm [.r,.p,.p,.p,.e,.D 1,.F 1] c b fun a w b c => ?_
   subst G
   exact ⟨t, b2p _, t, E, (w64 (l + 1)), y, v, rfl, d, aj, ad, b.pk, c⟩
  replace d := iteF C d
  subst G
  refine W.exit rfl ?_
  exact ⟨f, l, k, g, oi d, u, n, b.pk, c⟩
 clear b c a w; rintro a w ⟨f, l, k, g, rfl, u, n, b, c⟩
 dsimp only at p
 refine sg [.s,.p,.p] c b fun a b => ?_
 obtain ⟨I, N, p⟩ := B4 p
 obtain ⟨_, ae, au, J, av, _⟩ := Q9 N
 have aw := (c.vecCap 0 rfl).1
 have ax : (f).toNat ≤ x0.length := by have := n; omega
 have af : Ev 3 G8 s (g.take ((f).toNat * 3)) I := by rw [J]; exact u.take _
 have O : I.length = (f).toNat := by rw [J]; simp; omega
 replace c := c.vecTake 0 rfl (by have := n; omega)
 refine vP c b (A6.slL b a8U rfl rfl ae (by omega) rfl) rfl fun a b => ?_
 refine WL.clrS b c 0 (lo := (f).toNat) (hi := x0.length) (A0 rfl) b0F rfl rfl (by omega) (by omega) (by omega) rfl fun a w b c => ?_
 refine sl [.e,.s,.p,.p] c b fun a b => ?_
 refine vP c b (A6.slH b a8U rfl rfl (by omega) (by omega) (a3D _ _ _ _)) rfl fun a b => ?_
 refine sl [.p,.e] c b fun a b => ?_
 refine W.ret ?_
 refine fg [_] b ?_
 obtain rfl := oi p
 exact ⟨i, h, (f).toNat, (g.take ((f).toNat * 3)), rfl, af, O, c⟩
set_option maxHeartbeats 8000000 in
theorem a0k {w : World} {x0 : A2} {x1 : A2} (b : St w s (R))  {r : Int} (g : C7 x0 x1 = r) :
  Calls b2n 57 [.agg (A2.cells x0).toArray, .agg (A2.cells x1).toArray].toArray w (fun e w => e = .returned (vi r) ∧ St w s (R)) := by
 refine enter Tryz.func57 rfl rfl rfl fun a c => ?_
 rw [C7] at g
 refine sg [.s] b c fun a c => ?_
 refine bw c b fun j a w c b => ?_
 refine bw c b fun k a w c b => ?_
 refine sl [.p,.e,.q] b c fun a c => ?_
 refine W.gen fun l f => ?_
 refine rE b [] [] [0, 1, 2, 3, 4, 5, 6, 7, 8, 9, 10, 11, 12, 13, 14, 15, 16, 17] [0, 1, 2, 3, 4, 5, 6, 7, 8, 9, 10, 11, 12, 13, 14, 15, 16, 17] mixed ?_
 replace b := b.drew
 refine sr [.P 0 (.f 1),.T 1 true (.b 1),.P 2 (.f 1),.T 3 true (.b 0),.P 5 (.f 2),.T 6 true (.b 1),.P 7 (.f 2),.T 8 true (.b 0),.P 10 (.f 0),.T 11 true (.b 0),.P 12 (.f 0),.T 13 true (.b 1)] c b b fun a c => ?_
 refine ro 4 true true ?_
 refine fq c (R1 b  rfl (r := B3 x0.Arr x1.Arr)) ?_; rintro _ w ⟨rfl, b⟩; refine ⟨_, rfl, fun a c => ?_⟩
 refine WL.nil ?_
 refine r3 b ?_
 refine ro 9 true true ?_
 refine fq c (R1 b  rfl (r := B3 x0.Rides x1.Rides)) ?_; rintro _ w ⟨rfl, b⟩; refine ⟨_, rfl, fun a c => ?_⟩
 refine WL.nil ?_
 refine r3 b ?_
 refine ro 14 true true ?_
 refine fq c (R1 b  rfl (r := B3 x1.Dep x0.Dep)) ?_; rintro _ w ⟨rfl, b⟩; refine ⟨_, rfl, fun a c => ?_⟩
 refine WL.nil ?_
 refine r3 b ?_
 refine ro 15 true true ?_
 refine WL.lit c b (e := 3) (es := 1) (vs := [(0, vi (B3 x0.Arr x1.Arr)), (1, vi (B3 x0.Rides x1.Rides)), (2, vi (B3 x1.Dep x0.Dep))]) (cs := [vi (B3 x0.Arr x1.Arr), vi (B3 x0.Rides x1.Rides), vi (B3 x1.Dep x0.Dep)]) (A0 rfl) rfl (by kernel_rfl) rfl fun n a w c b => ?_
 replace b := b.ptVec (es := 1) (m := 3) rfl (by decide)
 have h : Ev 1 (RI .i64) s [vi (B3 x0.Arr x1.Arr), vi (B3 x0.Rides x1.Rides), vi (B3 x1.Dep x0.Dep)] [(B3 x0.Arr x1.Arr), (B3 x0.Rides x1.Rides), (B3 x1.Dep x0.Dep)] := (Ev.cons (c1 := [vi (B3 x0.Arr x1.Arr)]) rfl rfl (Ev.cons (c1 := [vi (B3 x0.Rides x1.Rides)]) rfl rfl (Ev.cons (c1 := [vi (B3 x1.Dep x0.Dep)]) rfl rfl (Ev.nil))))
 have hF := b.fixD RI.mono 0 rfl h (rfl); clear b; obtain ⟨o, d, b, i⟩ := hF
 refine WL.nil ?_
 refine r3 (St.down d b) ?_
 refine ro 16 true true ?_
 refine fq c (a3G b i rfl (r := M4 [(B3 x0.Arr x1.Arr), (B3 x0.Rides x1.Rides), (B3 x1.Dep x0.Dep)])) ?_; rintro _ w ⟨rfl, b⟩; refine ⟨_, rfl, fun a c => ?_⟩
 refine WL.nil ?_
 refine r3 (St.down d b) ?_
 refine sr [.P 17 .p] c (St.down d b) (St.down d b) fun a c => ?_
 refine Rg.done (by kernel_rfl) ?_
 subst f
 refine W.ret ?_
 refine fg [_] c ?_
 subst g
 replace b := pm [.D 0,.D 0] b
 exact ⟨rfl, (b.down d)⟩
set_option maxHeartbeats 8000000 in
theorem T7 {fu C : Nat}  {w : World} {x0 : List A2} {D : Option Addr} (c : St w s (R)) (H : Sl 3 G8 s D C x0) {r : A2} (k : D8 fu x0 = some r) :
  Calls b2n 56 [.slice D x0.length C, .func (.func 57) #[] #[]].toArray w (fun e w => ∃ (F : List Value), e = .returned (.agg F.toArray) ∧ G8 s F r ∧ St w s (R)) := by
 refine enter Tryz.func56 rfl rfl rfl fun a b => ?_
 rw [D8] at k
 refine sg [.s] c b fun a b => ?_
 refine al b c a5H fun n a w b c => ?_
 refine sl [.e,.q,.s,.p,.l 113 3,.p,.e] c b fun a b => ?_
 refine W.cond b rfl (fun p => ?_) (fun p => ?_)
 ·replace k := iteT p k
  refine W.region ?_
  exact absurd k (by simp)
 replace k := iteF p k
 obtain ⟨y, X, Q, I, k⟩ := gxS k
 obtain ⟨Y, Z, J, S⟩ := H.at I
 subst J
 refine sg [.k,.s,.p,.x 113,.h] c b fun a b => ?_
 refine al b c a5H fun o a w b c => ?_
 refine so [.A 0,.e,.q,.s,.p,.e] c b fun a w b c => ?_
 obtain ⟨G, d, k⟩ := B4 k
 refine W.cut (fun a w => ∃ j g h i, (j, g, h, i) = G ∧ Rep a 33 [(4, pp n), (5, pp o)] ∧ St w s (pc o #[vi g, vi h, vi i] 113 :: pc n #[vi 0, vi 0, vi 0] 113 :: R)) ?_ ?_
 ·refine W.block ?_
  refine W.loop (fun m a w => ∃ l j g h i, l = m ∧ D8.loop1 x0 l j g h i = some G ∧ Rep a 33 [(0, .slice D x0.length C), (1, .func (.func 57) #[] #[]), (4, pp n), (5, pp o), (6, vi j)] ∧ St w s (pc o #[vi g, vi h, vi i] 113 :: pc n #[vi 0, vi 0, vi 0] 113 :: R)) (m := fu) ⟨fu, 1, y.Dep, y.Arr, y.Rides, rfl, d, b.pk, c⟩ ?_
  clear b c a w d; rintro ai a w ⟨l, j, g, h, i, rfl, d, b, c⟩
  refine W.gen fun aj z => ?_
  rcases l with _ | l
  ·rw [D8.loop1] at d; exact absurd d (by simp)
  rw [D8.loop1] at d
  refine sg [.q,.s,.p,.p,.l 113 3,.p,.e] c b fun a b => ?_
  refine W.cond b rfl (fun q => ?_) (fun q => ?_)
  ·replace d := iteT q d
   refine sg [.k,.q,.o,.q] c b fun a b => ?_
   refine rQ c mixed ?_
   obtain ⟨N, aa, T, K, d⟩ := gxS d
   obtain ⟨ad, ae, L, U⟩ := H.at K
   subst L
   refine sq [.p,.p,.p,.x 113,.h,.B 0] b fun a b => ?_
   refine QL.fnw b (fun w c => a0k c  rfl (r := C7 N (A2.mk g h i))) rfl (A0 rfl) b1D rfl rfl rfl fun a b => ?_
   refine sq [.p] b fun a b => ?_
   refine QL.nil ?_; clear c w; intro w c
   obtain ⟨O, f, d⟩ := B4 d
   refine W.cut (fun a w => ∃ u v x, (u, v, x) = O ∧ Rep a 33 [(0, .slice D x0.length C), (1, .func (.func 57) #[] #[]), (4, pp n), (5, pp o), (6, vi j)] ∧ St w s (pc o #[vi u, vi v, vi x] 113 :: pc n #[vi 0, vi 0, vi 0] 113 :: R)) ?_ ?_
   ·refine W.gen fun ak A => ?_
    refine W.cond b rfl (fun t => ?_) (fun t => ?_)
    ·replace f := iteT t f
     obtain ⟨B, af, V, M, f⟩ := gxS f
     obtain ⟨ag, ah, E, P⟩ := H.at M
     subst E
     refine sm [.r,.p,.p,.x 113,.h,.A 0,.e] c b fun a w b c => ?_
     subst A
     exact ⟨B.Dep, B.Arr, B.Rides, oi f, b.pk, c⟩
    replace f := iteF t f
    refine W.skip ?_
    subst A
    exact ⟨g, h, i, oi f, b.pk, c⟩
   clear b c a w; rintro a w ⟨u, v, x, rfl, b, c⟩
   dsimp only at d
   refine sg [.r,.p,.p,.p,.e] c b fun a b => ?_
   subst z
   exact ⟨l, b2p _, l, (w64 (j + 1)), u, v, x, rfl, d, b.pk, c⟩
  replace d := iteF q d
  subst z
  refine W.exit rfl ?_
  exact ⟨j, g, h, i, oi d, b.pk, c⟩
 clear b c a w; rintro a w ⟨j, g, h, i, rfl, b, c⟩
 dsimp only at k
 refine sm [.s,.B 0,.A 1,.e] c b fun a w b c => ?_
 refine W.ret ?_
 refine a0b (fn := Tryz.f56) (rs := [.cell 4 113]) (vs := [_]) b rfl ⟨⟨_, rfl, .inl ⟨_, rfl, c.seesAt 1 rfl, a9d⟩⟩, trivial⟩ ?_
 obtain rfl := oi k
 replace c := pm [.D 0,.D 0] c
 exact ⟨_, rfl, rfl, c⟩
set_option maxHeartbeats 8000000 in
theorem G4 {w : World} {x0 : List A1} {f : Option Addr} {g : Nat} (c : St w s (R)) (l : Sl 3 A8 s f g x0) {r : (List A1)} (d : E0 x0 = some r) :
  Calls b2n 37 [.slice f x0.length g].toArray w (fun e w => ∃ (f : Option Addr) (g i : Nat) (h : List Value), e = .returned (.slice f i g) ∧ Ev 3 A8 s h r ∧ r.length = i ∧ St w s (B2 88 3 f g i h :: R)) := by
 refine enter Tryz.func37 rfl rfl rfl fun a b => ?_
 rw [E0] at d
 refine sg [.s,.p,.e,.q,.s,.p] c b fun a b => ?_
 refine vP c b (A6.isNil b rfl rfl a8y) rfl fun a b => WL.nil ?_
 rcases f with _ | u
 ·obtain rfl := l.none_nil
  replace d : some [] = _ := d
  refine W.condT b rfl rfl ?_
  refine sg [.s,.p,.e] c b fun a b => ?_
  refine W.ret ?_
  replace c := c.vecNil 88 3
  refine fg [_] b ?_
  obtain rfl := oi d
  exact ⟨none, 0, 0, [], rfl, (Ev.nil), (rfl), c⟩
 skip
 refine W.condF b rfl rfl ?_
 refine sg [.k,.s] c b fun a b => ?_
 refine WL.lit b c (e := 88) (es := 3) (vs := []) (cs := []) (A0 rfl) rfl (by kernel_rfl) rfl fun v a w b c => ?_
 replace c := c.ptVec (es := 3) (m := 0) rfl (by decide)
 have n : Ev 3 A8 s [] [] := (Ev.nil)
 refine sl [.p] c b fun a b => ?_
 obtain ⟨o, j, d⟩ := B4 d
 refine WL.appS b c 0 (A0 rfl) rfl rfl (xs := x0) rfl rfl a7F A8.one n (rfl) l j rfl fun p q k a w t b c => ?_
 refine sl [.p,.e] c b fun a b => ?_
 refine W.ret ?_
 refine fg [_] b ?_
 obtain rfl := oi d
 exact ⟨p, q, o.length, k, rfl, t, (rfl), c⟩
set_option maxHeartbeats 8000000 in
theorem X5 : ∀ {fu : Nat} {w : World} {s : Sg} {R : List HP} {J : Nat} {L : Nat} {M : Nat} {F : Nat} {G : Nat} {x0 : List A1} {X : Option Addr} {c0 : Nat} {y0 : D7} {q : Option Addr} {u : Nat} {x : Option Addr} {y : Nat} {y1 : A2} {y2 : Int} {Y : List (M6 × Bool)} {A : Nat} (_hS : St w s (pc J #[.slice q y0.Day.Trains.length u, .slice x y0.Day.Turns.length y, vi y0.least] 66 :: pc L #[vi y1.Dep, vi y1.Arr, vi y1.Rides] 113 :: pc M #[vi y2] 3 :: pc F #[.map (some A)] 149 :: pc G #[.func (.func 77) #[] #[pp J, pp L, pp M, pp F, pp G]] 94 :: L0 L8.f Value.bool A Y :: R)) (_h0 : Sl 3 A8 s X c0 x0) (bd : Sl 4 A7 s q u y0.Day.Trains) (be : Sl 1 (RL 1 (RI .i64)) s x y y0.Day.Turns) {r : (List A1) × (List (M6 × Bool))} (_hr : E6 fu x0 y0 y1 y2 Y = some r),
  Calls b2n 77 [.slice X x0.length c0, pp J, pp L, pp M, pp F, pp G].toArray w (fun e w => ∃ (X : Option Addr) (c0 : Nat) (t : Sg), e = .returned (.slice X r.1.length c0) ∧ s.Le t ∧ Sl 3 A8 t X c0 r.1 ∧ (r.1 = [] → X = none) ∧ St w t (pc J #[.slice q y0.Day.Trains.length u, .slice x y0.Day.Turns.length y, vi y0.least] 66 :: pc L #[vi y1.Dep, vi y1.Arr, vi y1.Rides] 113 :: pc M #[vi y2] 3 :: pc F #[.map (some A)] 149 :: pc G #[.func (.func 77) #[] #[pp J, pp L, pp M, pp F, pp G]] 94 :: L0 L8.f Value.bool A r.2 :: R)) := by
 intro fu
 induction fu with
 | zero => intro w s R J L M F G x0 X c0 y0 q u x y y1 y2 Y A b Q d f r C; rw [E6] at C; exact absurd C (by simp)
 | succ fu o =>
  intro w s R J L M F G x0 X c0 y0 q u x y y1 y2 Y A b Q d f r C
  rw [E6] at C
  generalize E6 fu = S at C o
  refine enter Tryz.func77 rfl rfl rfl fun a c => ?_
  refine sg [.s] b c fun a c => ?_
  refine bw c b fun ad a w c b => ?_
  refine al c b b1E fun V a w c b => ?_
  obtain ⟨p, bl, bi, aZ, C⟩ := gxS C
  obtain ⟨bm, bn, a1, bj⟩ := Q.at aZ
  subst a1
  refine sl [.e,.s,.b 1,.b 1,.l 88 3,.p,.x 88,.h] b c fun a c => ?_
  refine al c b a0Z fun ap a w c b => ?_
  refine so [.A 0,.e,.s,.B 3,.B 0] b c fun a w c b => ?_
  obtain ⟨ae, a2, C⟩ := B4 C
  refine fq c (J3 b d f a2) ?_; rintro _ w ⟨bo, rfl, bf, b⟩; refine ⟨_, rfl, fun a c => ?_⟩
  subst bf
  refine al c b a3O fun au a w c b => ?_
  refine so [.A 0,.e,.s,.f 2,.b 5,.b 3,.l 88 3,.p,.p,.e,.q,.s,.p,.p,.e] b c fun a w c b => ?_
  refine W.cond c rfl (fun aB => ?_) (fun aB => ?_)
  ·replace C := iteT aB C
   refine sg [.q,.q] b c fun a c => ?_
   obtain ⟨bg, ai, C⟩ := R8 C
   refine W.cut (fun a w => ∃ aO, aO = bg ∧ Rep a 74 [(6, pp ad), (7, pp V), (40, .bool aO)] ∧ St w s (pc au (B9.cells ae).toArray 75 :: pc ap (A1.cells p).toArray 88 :: pc V #[.slice none 0 0] 40 :: pc ad #[.slice X x0.length c0] 40 :: pc J #[.slice q y0.Day.Trains.length u, .slice x y0.Day.Turns.length y, vi y0.least] 66 :: pc L #[vi y1.Dep, vi y1.Arr, vi y1.Rides] 113 :: pc M #[vi y2] 3 :: pc F #[.map (some A)] 149 :: pc G #[.func (.func 77) #[] #[pp J, pp L, pp M, pp F, pp G]] 94 :: L0 L8.f Value.bool A Y :: R)) ?_ ?_
   ·refine W.gen fun bu aP => ?_
    refine sg [.r,.f 0,.b 0,.b 6,.p,.p] b c fun a c => ?_
    rcases b2o (ae.Station == y2) with aC | aC
    ·replace ai := iteT aC ai
     refine sl [.f 2,.b 0,.f 1,.b 5,.p,.T,.e] b c fun a c => ?_
     subst aP
     exact ⟨(ae.Arr == y1.Arr), ai, c.pk, b⟩
    replace ai := iteF aC ai
    refine sl [.O,.O,.O,.O,.O,.N,.e] b c fun a c => ?_
    subst aP
    exact ⟨false, ai, c.pk, b⟩
   clear c b a w; rintro a w ⟨aO, rfl, c, b⟩
   refine W.cond c rfl (fun aD => ?_) (fun aD => ?_)
   ·replace C := iteT aD C
    obtain ⟨_, a3, C⟩ := B4 C
    refine sm [.s,.b 3,.S 2,.e] b c fun a w c b => ?_
    refine W.ret ?_
    refine a0b (fn := Tryz.f77) (rs := [.cell 7 40]) (vs := [_]) c rfl ⟨⟨_, rfl, .inr ⟨b.seesAt 2 rfl, a8N⟩⟩, trivial⟩ ?_
    obtain rfl := oi C
    replace b := pm [.D 0,.D 0,.D 0,.D 0] b
    exact ⟨X, c0, s, rfl, lr, Q, (a5s a3), b⟩
   replace C := iteF aD C
   refine sm [.k,.s,.S 2,.e] b c fun a w c b => ?_
   refine W.ret ?_
   refine a0b (fn := Tryz.f77) (rs := [.cell 7 40]) (vs := [_]) c rfl ⟨⟨_, rfl, .inr ⟨b.seesAt 2 rfl, a8N⟩⟩, trivial⟩ ?_
   obtain rfl := oi C
   replace b := pm [.D 0,.D 0,.D 0,.D 0] b
   exact ⟨none, 0, s, rfl, lr, Sl.nil, (fun _ => rfl), b⟩
  replace C := iteF aB C
  refine sg [.k,.s,.f 0,.b 1,.f 2,.b 1,.p] b c fun a c => ?_
  refine vP b c (A6.build c (vs := [(0, vi p.Train), (1, vi p.Off), (2, vi (w64 (y1.Rides - ((x0).length : Int))))]) [vi p.Train, vi p.Off, vi (w64 (y1.Rides - ((x0).length : Int)))] rfl (by kernel_rfl)) rfl fun a c => ?_
  refine al c b b0u fun aq a w c b => ?_
  refine so [.A 0,.e,.q,.q] b c fun a w c b => ?_
  obtain ⟨bh, aj, C⟩ := R8 C
  refine W.cut (fun a w => ∃ aQ, aQ = bh ∧ Rep a 74 [(1, pp J), (4, pp F), (5, pp G), (6, pp ad), (7, pp V), (8, pp ap), (11, pp aq), (57, .bool aQ)] ∧ St w s (pc aq #[vi p.Train, vi p.Off, vi (w64 (y1.Rides - ((x0).length : Int)))] 150 :: pc au (B9.cells ae).toArray 75 :: pc ap (A1.cells p).toArray 88 :: pc V #[.slice none 0 0] 40 :: pc ad #[.slice X x0.length c0] 40 :: pc J #[.slice q y0.Day.Trains.length u, .slice x y0.Day.Turns.length y, vi y0.least] 66 :: pc L #[vi y1.Dep, vi y1.Arr, vi y1.Rides] 113 :: pc M #[vi y2] 3 :: pc F #[.map (some A)] 149 :: pc G #[.func (.func 77) #[] #[pp J, pp L, pp M, pp F, pp G]] 94 :: L0 L8.f Value.bool A Y :: R)) ?_ ?_
  ·refine W.gen fun bv aR => ?_
   refine sg [.r,.b 8,.B 0] b c fun a c => ?_
   refine vP b c (A6.mapGetG (a1B.arr L8 rfl a6p) c 10 (k := (M6.mk p.Train p.Off (w64 (y1.Rides - ((x0).length : Int))))) (z := false) rfl rfl rfl a9a zm4) rfl fun a c => ?_
   refine sl [.p] b c fun a c => ?_
   rcases b2o ((O2 Y (M6.mk p.Train p.Off (w64 (y1.Rides - ((x0).length : Int))))).getD false) with aE | aE
   ·replace aj := iteT aE aj
    refine sl [.O,.O,.O,.O,.O,.T,.e] b c fun a c => ?_
    subst aR
    exact ⟨true, aj, c.pk, b⟩
   replace aj := iteF aE aj
   refine sl [.f 2,.b 1,.f 1,.b 6,.p,.N,.e] b c fun a c => ?_
   subst aR
   exact ⟨decide (ae.Arr > y1.Arr), aj, c.pk, b⟩
  clear c b a w; rintro a w ⟨aQ, rfl, c, b⟩
  refine W.cond c rfl (fun aF => ?_) (fun aF => ?_)
  ·replace C := iteT aF C
   refine sm [.s,.S 3,.e] b c fun a w c b => ?_
   refine W.ret ?_
   refine a0b (fn := Tryz.f77) (rs := [.cell 7 40]) (vs := [_]) c rfl ⟨⟨_, rfl, .inr ⟨b.seesAt 3 rfl, a8N⟩⟩, trivial⟩ ?_
   obtain rfl := oi C
   replace b := pm [.D 0,.D 0,.D 0,.D 0,.D 0] b
   exact ⟨none, 0, s, rfl, lr, Sl.nil, (fun _ => rfl), b⟩
  replace C := iteF aF C
  refine sg [.k,.q,.s,.B 5,.B 2] b c fun a c => ?_
  obtain ⟨aS, a4, C⟩ := B4 C
  refine fq c (X4 b d f a4) ?_; rintro _ w ⟨bp, aT, rfl, ax, av, b⟩; refine ⟨_, rfl, fun a c => ?_⟩
  obtain ⟨d, f, Q⟩ := m3 ax d f Q
  refine sl [.e,.o] b c fun a c => ?_
  obtain ⟨aU, D, C⟩ := B4 C
  refine W.cut (fun a w => ∃ g N n B ak E, aT.Le E ∧ (.next (g, N)) = aU ∧ Sl 3 A8 E n B g ∧ (g = [] → n = none) ∧ Rep a 74 [(4, pp F), (7, pp V), (11, pp aq), (4294967295, vi (ak : Nat))] ∧ St w E (pt ak (.deferred (some [])) :: pc aq #[vi p.Train, vi p.Off, vi (w64 (y1.Rides - ((x0).length : Int)))] 150 :: pc au (B9.cells ae).toArray 75 :: pc ap (A1.cells p).toArray 88 :: pc V #[.slice n g.length B] 40 :: pc ad #[.slice X x0.length c0] 40 :: pc J #[.slice q y0.Day.Trains.length u, .slice x y0.Day.Turns.length y, vi y0.least] 66 :: pc L #[vi y1.Dep, vi y1.Arr, vi y1.Rides] 113 :: pc M #[vi y2] 3 :: pc F #[.map (some A)] 149 :: pc G #[.func (.func 77) #[] #[pp J, pp L, pp M, pp F, pp G]] 94 :: L0 L8.f Value.bool A N :: R)) ?_ ?_
  ·refine W.rangeFunc (l := aS) (ps := [61]) [] rfl c rfl b rfl av a9X (fun _ => rfl) rfl (fun aI E Q_ => ∃ (U : List A1), ∃ (g : List A1), ∃ (N : List (M6 × Bool)), ∃ (n : Option Addr), ∃ (B : Nat), aS = aI ++ U ∧ E6.loop1 x0 y0 y1 y2 S U g N = some aU ∧ aT.Le E ∧ Sl 3 A8 E n B g ∧ (g = [] → n = none) ∧ Q_ = pc aq #[vi p.Train, vi p.Off, vi (w64 (y1.Rides - ((x0).length : Int)))] 150 :: pc au (B9.cells ae).toArray 75 :: pc ap (A1.cells p).toArray 88 :: pc V #[.slice n g.length B] 40 :: pc ad #[.slice X x0.length c0] 40 :: pc J #[.slice q y0.Day.Trains.length u, .slice x y0.Day.Turns.length y, vi y0.least] 66 :: pc L #[vi y1.Dep, vi y1.Arr, vi y1.Rides] 113 :: pc M #[vi y2] 3 :: pc F #[.map (some A)] 149 :: pc G #[.func (.func 77) #[] #[pp J, pp L, pp M, pp F, pp G]] 94 :: L0 L8.f Value.bool A N :: R) (fun c_ E Q_ => ∃ (g : List A1), ∃ (N : List (M6 × Bool)), ∃ (n : Option Addr), ∃ (B : Nat), (.ret (g, N)) = aU ∧ aT.Le E ∧ Sl 3 A8 E n B g ∧ (g = [] → n = none) ∧ Q_ = pc aq #[vi p.Train, vi p.Off, vi (w64 (y1.Rides - ((x0).length : Int)))] 150 :: pc au (B9.cells ae).toArray 75 :: pc ap (A1.cells p).toArray 88 :: pc V #[.slice n g.length B] 40 :: pc ad #[.slice X x0.length c0] 40 :: pc J #[.slice q y0.Day.Trains.length u, .slice x y0.Day.Turns.length y, vi y0.least] 66 :: pc L #[vi y1.Dep, vi y1.Arr, vi y1.Rides] 113 :: pc M #[vi y2] 3 :: pc F #[.map (some A)] 149 :: pc G #[.func (.func 77) #[] #[pp J, pp L, pp M, pp F, pp G]] 94 :: L0 L8.f Value.bool A N :: R) (fun _ _ _ h => (by obtain ⟨U, g, N, n, B, _, _, hle_, _⟩ := h; exact hle_)) ⟨aS, [], Y, none, 0, rfl, D, Sg.Le.refl _, Sl.nil, (fun _ => rfl), rfl⟩ (fun K (Z : Nat) => [(5, pp G), (6, pp ad), (7, pp V), (12, pp Z)]) (fun K (Z : Nat) => [pc Z (A1.cells K).toArray 88]) ?_ ?_ ?_ ?_
   ·intro K a w bq R a5 c b
    refine W.region ?_
    refine al c b a0Z fun Z a w c b => ?_
    refine so [.A 0,.e] b c fun a w c b => ?_
    exact ⟨Z, c.pk, b⟩
   ·intro aI K Z E Q_ T_ a5 a w hpre_ hI_ c b
    obtain ⟨U, g, N, n, B, ar, D, j, H, T, rfl⟩ := hI_
    obtain ⟨U, rfl⟩ := a1K ar hpre_
    rw [E6.loop1] at D
    replace b : St w E (pc Z (A1.cells K).toArray 88 :: pc aq #[vi p.Train, vi p.Off, vi (w64 (y1.Rides - ((x0).length : Int)))] 150 :: pc au (B9.cells ae).toArray 75 :: pc ap (A1.cells p).toArray 88 :: pc V #[.slice n g.length B] 40 :: pc ad #[.slice X x0.length c0] 40 :: pc J #[.slice q y0.Day.Trains.length u, .slice x y0.Day.Turns.length y, vi y0.least] 66 :: pc L #[vi y1.Dep, vi y1.Arr, vi y1.Rides] 113 :: pc M #[vi y2] 3 :: pc F #[.map (some A)] 149 :: pc G #[.func (.func 77) #[] #[pp J, pp L, pp M, pp F, pp G]] 94 :: L0 L8.f Value.bool A N :: (R ++ T_)) := b
    generalize aJ : R ++ T_ = R at b
    refine W.gen fun br aK => ?_
    obtain ⟨d, f⟩ := m2 j d f
    replace av := a2v.mono j av
    replace Q := m1 j Q
    refine sg [.o,.q] b c fun a c => ?_
    refine W.gen fun a6 aV => ?_
    refine rE b [] [11] [0, 1, 2, 3, 4, 5, 7] [0, 1, 2, 3, 4, 5, 6, 7] mixed ?_
    replace b := b.drew
    refine sr [.T 0 true (.b 10),.T 1 false (.b 5),.T 3 false (.B 0)] c b (b.dropAt 11) fun a c => ?_
    obtain ⟨bs, aL, D⟩ := B4 D
    obtain ⟨bt, aM, D⟩ := B4 D
    obtain ⟨af, aN, D⟩ := B4 D
    suffices key : ∀ P ag am ay (a : Act) (w : World), E.Le P → Sl 3 A8 P ag am af.1 → (af.1 = [] → ag = none) → Sl 4 A7 P q u y0.Day.Trains → Sl 1 (RL 1 (RI .i64)) P x y y0.Day.Turns → Sl 3 A8 P n B g → (g = [] → n = none) → Sl 3 A8 P X c0 x0 → Rep a 74 [(7, pp V), (13, .slice ag af.1.length am)] → St w P (pc J #[.slice q y0.Day.Trains.length u, .slice x y0.Day.Turns.length y, vi y0.least] 66 :: pc L #[vi y1.Dep, vi y1.Arr, vi y1.Rides] 113 :: pc M #[vi y2] 3 :: pc F #[.map (some A)] 149 :: pc G #[.func (.func 77) #[] #[pp J, pp L, pp M, pp F, pp G]] 94 :: L0 L8.f Value.bool A af.2 :: ay :: pc Z (A1.cells K).toArray 88 :: pc aq #[vi p.Train, vi p.Off, vi (w64 (y1.Rides - ((x0).length : Int)))] 150 :: pc au (B9.cells ae).toArray 75 :: pc ap (A1.cells p).toArray 88 :: pc V #[.slice n g.length B] 40 :: pc ad #[.slice X x0.length c0] 40 :: R) → a6.nor a w by
     refine Rg.many 2 [4] (by kernel_rfl) ⟨?_, ?_, trivial⟩
     ·refine bk 2 true true ?_
      refine fq c (G4 b Q aL) ?_; rintro _ w ⟨a7, a8, a9, aW, rfl, aG, rfl, b⟩; refine ⟨_, rfl, fun a c => ?_⟩
      refine WL.nil ?_
      refine r2 (b.tail) ((b.tail).dropAt 11) ?_
      refine ro 4 true true ?_
      refine WL.lit c b (e := 88) (es := 3) (vs := [(0, .agg (A1.cells K).toArray)]) (cs := [vi K.Train, vi K.On, vi K.Off]) (A0 rfl) rfl (by kernel_rfl) rfl fun a_ a w c b => ?_
      refine WL.nil ?_
      refine r2 ((b.tail).tail) (((b.tail).tail).dropAt 11) ?_
      refine ro 5 true true ?_
      refine WL.appB c b 0 (m := 1) (A0 rfl) rfl rfl rfl a7F rfl aG rfl (xs := [K]) (Ev.cons (c1 := [vi K.Train, vi K.On, vi K.Off]) rfl rfl (Ev.nil)) rfl rfl aM rfl fun ba bb aX ay a w aH aY c b => ?_
      refine WL.nil ?_
      refine r2 ((b.tail).tail) (((b.tail).tail).dropAt 11) ?_
      refine ro 6 false true ?_
      have hF := b.fixD A8.mono 0 rfl aH (rfl); clear b; obtain ⟨bc, O, b, ah⟩ := hF
      obtain ⟨Q, H, d, f⟩ := m4 O Q H d f
      replace b := pm [.F 12,.F 12,.F 12,.F 12,.F 12,.F 12] b
      have aw := o (y0 := y0) (y1 := y1) b ah d f aN
      refine WL.fnw c (aw) rfl (A0 rfl) b0t rfl rfl rfl ?_
      clear c b aw; rintro e w ⟨ag, am, P, rfl, I, an, aa, b⟩; refine ⟨_, rfl, ?_⟩; clear a; intro a c
      obtain ⟨Q, ah, d, f⟩ := m4 I Q ah d f
      replace H := m1 I H
      refine WL.nil ?_
      refine rf (St.down (Sg.Le.trans O I) (St.order ((b.dropAt 5).dropAt 5) [5, 5, 5, 5, 5, 5, 0, 0, 0, 0, 0] (by kernel_rfl))) ?_
      refine Rg.takeP (i := 7) c rfl (by kernel_rfl) (A0 rfl) (A6.p c rfl) rfl (G2 (fun h => absurd h (by decide)) (fun _ => (St.down (Sg.Le.trans O I) (St.order ((b.dropAt 5).dropAt 5) [5, 5, 5, 5, 5, 5, 0, 0, 0, 0, 0] (by kernel_rfl))))) fun a c => ?_
      refine Rg.done (by kernel_rfl) ?_
      exact key _ _ _ _ _ _ (Sg.Le.trans O I) an aa d f H T Q c.pk b
     refine bk 4 true true ?_
     refine WL.lit c b (e := 88) (es := 3) (vs := [(0, .agg (A1.cells K).toArray)]) (cs := [vi K.Train, vi K.On, vi K.Off]) (A0 rfl) rfl (by kernel_rfl) rfl fun a_ a w c b => ?_
     refine WL.nil ?_
     refine r2 (b.tail) ((b.tail).dropAt 11) ?_
     refine ro 2 true true ?_
     refine fq c (G4 b Q aL) ?_; rintro _ w ⟨a7, a8, a9, aW, rfl, aG, rfl, b⟩; refine ⟨_, rfl, fun a c => ?_⟩
     refine WL.nil ?_
     refine r2 ((b.tail).tail) (((b.tail).tail).dropAt 11) ?_
     refine ro 5 true true ?_
     replace b := b.front 1 rfl
     refine WL.appB c b 0 (m := 1) (A0 rfl) rfl rfl rfl a7F rfl aG rfl (xs := [K]) (Ev.cons (c1 := [vi K.Train, vi K.On, vi K.Off]) rfl rfl (Ev.nil)) rfl rfl aM rfl fun ba bb aX ay a w aH aY c b => ?_
     refine WL.nil ?_
     refine r2 ((b.tail).tail) (((b.tail).tail).dropAt 11) ?_
     refine ro 6 false true ?_
     have hF := b.fixD A8.mono 0 rfl aH (rfl); clear b; obtain ⟨bc, O, b, ah⟩ := hF
     obtain ⟨Q, H, d, f⟩ := m4 O Q H d f
     replace b := pm [.F 12,.F 12,.F 12,.F 12,.F 12,.F 12] b
     have aw := o (y0 := y0) (y1 := y1) b ah d f aN
     refine WL.fnw c (aw) rfl (A0 rfl) b0t rfl rfl rfl ?_
     clear c b aw; rintro e w ⟨ag, am, P, rfl, I, an, aa, b⟩; refine ⟨_, rfl, ?_⟩; clear a; intro a c
     obtain ⟨Q, ah, d, f⟩ := m4 I Q ah d f
     replace H := m1 I H
     refine WL.nil ?_
     refine rf (St.down (Sg.Le.trans O I) (St.order ((b.dropAt 5).dropAt 5) [5, 5, 5, 5, 5, 5, 0, 0, 0, 0, 0] (by kernel_rfl))) ?_
     refine Rg.takeP (i := 7) c rfl (by kernel_rfl) (A0 rfl) (A6.p c rfl) rfl (G2 (fun h => absurd h (by decide)) (fun _ => (St.down (Sg.Le.trans O I) (St.order ((b.dropAt 5).dropAt 5) [5, 5, 5, 5, 5, 5, 0, 0, 0, 0, 0] (by kernel_rfl))))) fun a c => ?_
     refine Rg.done (by kernel_rfl) ?_
     exact key _ _ _ _ _ _ (Sg.Le.trans O I) an aa d f H T Q c.pk b
    clear c b a w; intro P ag am ay a w aA an aa d f H T Q c b
    subst aV
    refine sg [.s,.p] b c fun a c => ?_
    refine vP b c (A6.notNilZ c (a1l an aa) rfl rfl a8y) rfl fun a c => WL.nil ?_
    refine W.cond c rfl (fun az => ?_) (fun az => ?_)
    ·replace D := iteT az D
     refine sm [.s,.p,.S 11,.e] b c fun a w c b => ?_
     refine W.ret ?_
     subst aK
     replace b := pm [.D 6,.D 6] b
     replace b := b.order [6, 6, 6, 6, 6, 0, 0, 0, 0, 0, 0] rfl
     subst aJ
     exact ⟨P, _, ⟨af.1, af.2, ag, am, oi D, (Sg.Le.trans j aA), an, aa, rfl⟩, b⟩
    replace D := iteF az D
    refine sm [.k,.D 6,.D 6] b c fun a w c b => ?_
    replace b := b.order [6, 6, 6, 6, 6, 0, 0, 0, 0, 0, 0] rfl
    subst aK
    subst aJ
    exact ⟨P, _, ⟨U, g, af.2, n, B, ar.trans (by simp), D, (Sg.Le.trans j aA), H, T, rfl⟩, b⟩
   ·intro E Q_ ak a w hI_ c b
    obtain ⟨U, g, N, n, B, ar, D, j, H, T, rfl⟩ := hI_
    obtain rfl := a2S ar
    rw [E6.loop1] at D
    exact ⟨g, N, _, _, ak, E, j, oi D, H, T, c.pk, b⟩
   intro c_ E Q_ ak a w aw hX_ c b
   obtain rfl : c_ = .ret := aw.elim id (fun h => (by obtain ⟨_, h, _⟩ := h; cases h))
   obtain ⟨g, N, n, B, rfl, j, H, T, rfl⟩ := hX_
   dsimp only at C
   obtain ⟨d, f⟩ := m2 j d f
   replace av := a2v.mono j av
   replace Q := m1 j Q
   refine W.ret ?_
   refine a5d (fn := Tryz.f77) (rs := [.cell 7 40]) (vs := [.slice n g.length B]) c b 0 rfl rfl ?_
   clear b; intro w b
   refine ⟨⟨⟨_, rfl, .inr ⟨b.seesAt 3 rfl, a8N⟩⟩, trivial⟩, ?_⟩
   obtain rfl := oi C
   replace b := pm [.D 0,.D 0,.D 0,.D 0,.D 0] b
   exact ⟨n, B, E, rfl, (Sg.Le.trans ax j), H, T, b⟩
  clear c b a w; rintro a w ⟨g, N, n, B, ak, E, j, rfl, H, T, c, b⟩
  dsimp only at C
  obtain ⟨d, f⟩ := m2 j d f
  replace av := a2v.mono j av
  replace Q := m1 j Q
  refine sg [.s,.b 9,.B 1] b c fun a c => ?_
  refine WL.mapSetG (a1B.arr L8 rfl a6p) c b 11 (k := (M6.mk p.Train p.Off (w64 (y1.Rides - ((x0).length : Int))))) (v := true) (.inl rfl) (A0 rfl) rfl rfl rfl rfl a9a rfl fun a w c b => ?_
  refine so [.e,.s,.S 4,.e] b c fun a w c b => ?_
  refine W.ret ?_
  refine a5d (fn := Tryz.f77) (rs := [.cell 7 40]) (vs := [.slice none 0 0]) c b 0 rfl rfl ?_
  clear b; intro w b
  refine ⟨⟨⟨_, rfl, .inr ⟨b.seesAt 3 rfl, a8N⟩⟩, trivial⟩, ?_⟩
  obtain rfl := oi C
  replace b := pm [.D 0,.D 0,.D 0,.D 0,.D 0] b
  exact ⟨none, 0, E, rfl, (Sg.Le.trans ax j), Sl.nil, (fun _ => rfl), b⟩
set_option maxHeartbeats 8000000 in
theorem a1j {fu C D : Nat}  {w : World} {x0 : D7} {E F : Option Addr} {x1 x2 : Int} {x3 : A2} (b : St w s (R)) (i : Sl 4 A7 s E C x0.Day.Trains) (j : Sl 1 (RL 1 (RI .i64)) s F D x0.Day.Turns) {r : A3} (N : I2 fu x0 x1 x2 x3 = some r) :
  Calls b2n 60 [.agg (List.toArray [.slice E x0.Day.Trains.length C, .slice F x0.Day.Turns.length D, vi x0.least]), vi x1, vi x2, .agg (A2.cells x3).toArray].toArray w (fun e w => ∃ (ak : List Value) (t : Sg), e = .returned (.agg ak.toArray) ∧ s.Le t ∧ D9 t ak r ∧ St w t (R)) := by
 refine enter Tryz.func60 rfl rfl rfl fun a c => ?_
 rw [I2] at N
 refine sg [.s] b c fun a c => ?_
 refine bw c b fun x a w c b => ?_
 refine bw c b fun A a w c b => ?_
 refine bw c b fun y a w c b => ?_
 refine al c b a3B fun L a w c b => ?_
 refine sl [.e,.s] b c fun a c => ?_
 refine WL.mkMap (fk := L8.f) (fv := Value.bool) c b (A0 rfl) rfl fun G a w c b => ?_
 refine al c b b0z fun B a w c b => ?_
 refine so [.S 0,.e,.s] b c fun a w c b => ?_
 refine al c b b1U fun z a w c b => ?_
 refine sl [.e,.s] b c fun a c => ?_
 refine vP b c (A6.mkfn c (vs := [pp x, pp y, pp A, pp B, pp z]) rfl) rfl fun a c => ?_
 refine so [.S 0,.e,.q,.s,.B 6,.p,.f 0,.b 4] b c fun a w c b => ?_
 obtain ⟨aa, am, N⟩ := R8 N
 refine fq c (T9 b i j am) ?_; rintro _ w ⟨aw, ad, rfl, O, H, b⟩; refine ⟨_, rfl, fun a c => ?_⟩
 obtain ⟨i, j⟩ := m2 O i j
 refine sl [.e,.o] b c fun a c => ?_
 obtain ⟨ae, d, N⟩ := B4 N
 refine W.cut (fun a w => ∃ g q n o M k, ad.Le k ∧ (.next (g, q)) = ae ∧ Sl 3 A8 k n o g ∧ Rep a 37 [(8, pp L), (4294967295, vi (M : Nat))] ∧ St w k (pt M (.deferred (some [])) :: pc z #[.func (.func 77) #[] #[pp x, pp y, pp A, pp B, pp z]] 94 :: pc B #[.map (some G)] 149 :: L0 L8.f Value.bool G q :: pc L #[.slice n g.length o] 42 :: pc y (A2.cells x3).toArray 113 :: pc A #[vi x2] 3 :: pc x #[.slice E x0.Day.Trains.length C, .slice F x0.Day.Turns.length D, vi x0.least] 66 :: R)) ?_ ?_
 ·refine W.rangeFunc (l := aa) (ps := [20]) [] rfl c rfl b rfl H a9X (fun _ => rfl) rfl (fun Y k Q_ => ∃ (p : List A1), ∃ (g : List A1), ∃ (q : List (M6 × Bool)), ∃ (n : Option Addr), ∃ (o : Nat), aa = Y ++ p ∧ I2.loop1 x0 x2 x3 fu p g q = some ae ∧ ad.Le k ∧ Sl 3 A8 k n o g ∧ Q_ = pc z #[.func (.func 77) #[] #[pp x, pp y, pp A, pp B, pp z]] 94 :: pc B #[.map (some G)] 149 :: L0 L8.f Value.bool G q :: pc L #[.slice n g.length o] 42 :: pc y (A2.cells x3).toArray 113 :: pc A #[vi x2] 3 :: pc x #[.slice E x0.Day.Trains.length C, .slice F x0.Day.Turns.length D, vi x0.least] 66 :: R) (fun c_ k Q_ => ∃ (g : List A1), ∃ (q : List (M6 × Bool)), ∃ (n : Option Addr), ∃ (o : Nat), (.ret (g, q)) = ae ∧ ad.Le k ∧ Sl 3 A8 k n o g ∧ Q_ = pc z #[.func (.func 77) #[] #[pp x, pp y, pp A, pp B, pp z]] 94 :: pc B #[.map (some G)] 149 :: L0 L8.f Value.bool G q :: pc L #[.slice n g.length o] 42 :: pc y (A2.cells x3).toArray 113 :: pc A #[vi x2] 3 :: pc x #[.slice E x0.Day.Trains.length C, .slice F x0.Day.Turns.length D, vi x0.least] 66 :: R) (fun _ _ _ h => (by obtain ⟨p, g, q, n, o, _, _, hle_, _⟩ := h; exact hle_)) ⟨aa, [], [], none, 0, rfl, d, Sg.Le.refl _, Sl.nil, rfl⟩ (fun u (I : Nat) => [(4, pp x), (7, pp y), (8, pp L), (10, pp z), (11, pp I)]) (fun u (I : Nat) => [pc I (A1.cells u).toArray 88]) ?_ ?_ ?_ ?_
  ·intro u a w ay R ar c b
   refine W.region ?_
   refine al c b a0Z fun I a w c b => ?_
   refine so [.A 0,.e] b c fun a w c b => ?_
   exact ⟨I, c.pk, b⟩
  ·intro Y u I k Q_ T_ ar a w hpre_ hI_ c b
   obtain ⟨p, g, q, n, o, J, d, f, v, rfl⟩ := hI_
   obtain ⟨p, rfl⟩ := a1K J hpre_
   rw [I2.loop1] at d
   replace b : St w k (pc I (A1.cells u).toArray 88 :: pc z #[.func (.func 77) #[] #[pp x, pp y, pp A, pp B, pp z]] 94 :: pc B #[.map (some G)] 149 :: L0 L8.f Value.bool G q :: pc L #[.slice n g.length o] 42 :: pc y (A2.cells x3).toArray 113 :: pc A #[vi x2] 3 :: pc x #[.slice E x0.Day.Trains.length C, .slice F x0.Day.Turns.length D, vi x0.least] 66 :: (R ++ T_)) := b
   generalize T : R ++ T_ = R at b
   refine W.gen fun az U => ?_
   obtain ⟨i, j⟩ := m2 f i j
   replace H := a2v.mono f H
   refine sg [.o,.q,.q] b c fun a c => ?_
   refine W.gen fun aA an => ?_
   refine rE b [] [] [0, 1, 2, 3, 4, 5, 6] [0, 1, 2, 3, 4, 5, 6] mixed ?_
   replace b := b.drew
   refine sr [.T 0 true (.B 7),.T 1 true (.B 0),.P 4 (.f 0),.T 5 true (.b 5)] c b b fun a c => ?_
   refine ro 2 true true ?_
   obtain ⟨aB, ap, d⟩ := B4 d
   refine fq c (I5 b i j ap) ?_; rintro _ w ⟨ax, rfl, au, b⟩; refine ⟨_, rfl, fun a c => ?_⟩
   subst au
   refine WL.nil ?_
   refine r3 b ?_
   refine sr [.P 3 (.v 3 3),.P 6 .p] c b b fun a c => ?_
   refine Rg.done (by kernel_rfl) ?_
   subst an
   refine W.cond c rfl (fun V => ?_) (fun V => ?_)
   ·replace d := iteT V d
    refine W.exit rfl ?_
    replace b := b.tail
    subst U
    subst T
    exact ⟨k, _, ⟨p, g, q, n, o, J.trans (by simp), d, f, v, rfl⟩, b⟩
   replace d := iteF V d
   refine sg [.k,.s,.b 1,.B 0] b c fun a c => ?_
   refine WL.lit c b (e := 88) (es := 3) (vs := [(0, .agg (A1.cells u).toArray)]) (cs := [vi u.Train, vi u.On, vi u.Off]) (A0 rfl) rfl (by kernel_rfl) rfl fun aC a w c b => ?_
   replace b := b.ptVec (es := 3) (m := 1) rfl (by decide)
   have av : Ev 3 A8 k [vi u.Train, vi u.On, vi u.Off] [u] := (Ev.cons (c1 := [vi u.Train, vi u.On, vi u.Off]) rfl rfl (Ev.nil))
   have hF := b.fixD A8.mono 0 rfl av (rfl); clear b; obtain ⟨aD, P, b, af⟩ := hF
   obtain ⟨i, j, v⟩ := m3 P i j v
   obtain ⟨S, aq, d⟩ := B4 d
   replace b := pm [.F 3,.F 2,.F 3,.F 6,.F 6,.F 7] b
   have Z := X5 (y0 := x0) (y1 := x3) b af i j aq
   refine WL.fnw c (Z) rfl (A0 rfl) b0t rfl rfl rfl ?_
   clear c b Z; rintro e w ⟨ag, X, ah, rfl, K, ai, aj, b⟩; refine ⟨_, rfl, ?_⟩; clear a; intro a c
   obtain ⟨i, j, af, v⟩ := m4 K i j af v
   refine sl [.p,.e,.s,.p] b c fun a c => ?_
   refine vP b c (A6.notNilZ c (a1l ai aj) rfl rfl a8y) rfl fun a c => WL.nil ?_
   refine W.cond c rfl (fun Q => ?_) (fun Q => ?_)
   ·replace d := iteT Q d
    refine sg [.s,.p] b c fun a c => ?_
    refine vP b c (A6.build c (vs := [(0, .slice ag S.1.length X)]) [.slice ag S.1.length X] rfl (by kernel_rfl)) rfl fun a c => ?_
    refine so [.A 7,.e] b c fun a w c b => ?_
    refine W.ret ?_
    subst U
    replace b := pm [.D 6,.F 2,.F 2,.F 6,.F 6,.F 5,.F 6] b
    subst T
    exact ⟨ah, _, ⟨S.1, S.2, ag, X, oi d, (Sg.Le.trans (Sg.Le.trans f P) K), ai, rfl⟩, b⟩
   replace d := iteF Q d
   refine sm [.k,.D 6,.F 2,.F 2,.F 6,.F 6,.F 5,.F 6] b c fun a w c b => ?_
   subst U
   subst T
   exact ⟨ah, _, ⟨p, g, S.2, n, o, J.trans (by simp), d, (Sg.Le.trans (Sg.Le.trans f P) K), v, rfl⟩, b⟩
  ·intro k Q_ M a w hI_ c b
   obtain ⟨p, g, q, n, o, J, d, f, v, rfl⟩ := hI_
   obtain rfl := a2S J
   rw [I2.loop1] at d
   exact ⟨g, q, _, _, M, k, f, oi d, v, c.pk, b⟩
  intro c_ k Q_ M a w Z hX_ c b
  obtain rfl : c_ = .ret := Z.elim id (fun h => (by obtain ⟨_, h, _⟩ := h; cases h))
  obtain ⟨g, q, n, o, rfl, f, v, rfl⟩ := hX_
  dsimp only at N
  obtain ⟨i, j⟩ := m2 f i j
  replace H := a2v.mono f H
  refine W.ret ?_
  refine a5d (fn := Tryz.f60) (rs := [.cell 8 42]) (vs := [.agg #[.slice n g.length o]]) c b 0 rfl rfl ?_
  clear b; intro w b
  refine ⟨⟨⟨_, rfl, .inl ⟨_, rfl, b.seesAt 3 rfl, a2W⟩⟩, trivial⟩, ?_⟩
  obtain rfl := oi N
  replace b := pm [.D 0,.D 0,.D 0,.D 0,.D 0,.D 0,.D 0] b
  exact ⟨_, k, rfl, (Sg.Le.trans O f), ⟨_, _, rfl, v⟩, b⟩
 clear c b a w; rintro a w ⟨g, q, n, o, M, k, f, rfl, v, c, b⟩
 dsimp only at N
 obtain ⟨i, j⟩ := m2 f i j
 replace H := a2v.mono f H
 refine sg [.s] b c fun a c => ?_
 refine vP b c (A6.build c (vs := []) [.slice none 0 0] rfl (by kernel_rfl)) rfl fun a c => ?_
 refine so [.A 4,.e] b c fun a w c b => ?_
 refine W.ret ?_
 refine a5d (fn := Tryz.f60) (rs := [.cell 8 42]) (vs := [.agg #[.slice none 0 0]]) c b 0 rfl rfl ?_
 clear b; intro w b
 refine ⟨⟨⟨_, rfl, .inl ⟨_, rfl, b.seesAt 3 rfl, a2W⟩⟩, trivial⟩, ?_⟩
 obtain rfl := oi N
 replace b := pm [.D 0,.D 0,.D 0,.D 0,.D 0,.D 0,.D 0] b
 exact ⟨_, k, rfl, (Sg.Le.trans O f), ⟨_, _, rfl, Sl.nil⟩, b⟩
set_option maxHeartbeats 8000000 in
theorem V2 {fu k l : Nat}  {w : World} {x0 : D7} {m n : Option Addr} {x1 x2 x3 : Int} (b : St w s (R)) (f : Sl 4 A7 s m k x0.Day.Trains) (g : Sl 1 (RL 1 (RI .i64)) s n l x0.Day.Turns) {r : A3 × Bool} (d : O6 fu x0 x1 x2 x3 = some r) :
  Calls b2n 28 [.agg (List.toArray [.slice m x0.Day.Trains.length k, .slice n x0.Day.Turns.length l, vi x0.least]), vi x1, vi x2, vi x3].toArray w (fun e w => ∃ (p : List Value) (t : Sg), e = .returned (.tuple #[.agg p.toArray, .bool r.2]) ∧ s.Le t ∧ D9 t p r.1 ∧ St w t (R)) := by
 refine enter Tryz.func28 rfl rfl rfl fun a c => ?_
 rw [O6] at d
 refine sg [.s] b c fun a c => ?_
 refine bw c b fun M a w c b => ?_
 refine bw c b fun A a w c b => ?_
 refine al c b a3B fun N a w c b => ?_
 refine sl [.p,.e,.s,.B 2,.p,.p] b c fun a c => ?_
 obtain ⟨O, q, d⟩ := B4 d
 refine fq c (a1y b f g q) ?_; rintro _ w ⟨P, Q, S, I, B, rfl, h, C, rfl, b⟩; refine ⟨_, rfl, fun a c => ?_⟩
 obtain ⟨f, g⟩ := m2 h f g
 refine vP b c (A6.mkfn c (vs := [pp A]) rfl) rfl fun a c => ?_
 obtain ⟨T, u, d⟩ := B4 d
 replace b := pm [.F 0,.F 2] b
 refine fq c (S7 b C rfl u) ?_; rintro _ w ⟨U, V, X, J, rfl, o, rfl, b⟩; refine ⟨_, rfl, fun a c => ?_⟩
 refine sl [.p,.e,.q,.s,.p,.l 113 3,.p,.e] b c fun a c => ?_
 refine W.cond c rfl (fun i => ?_) (fun i => ?_)
 ·replace d := iteT i d
  refine sg [.s] b c fun a c => ?_
  refine vP b c (A6.build c (vs := []) [.slice none 0 0] rfl (by kernel_rfl)) rfl fun a c => ?_
  refine so [.A 2,.p,.e] b c fun a w c b => ?_
  refine W.ret ?_
  refine a0b (fn := Tryz.f28) (rs := [.cell 8 42, .tmp 9]) (vs := [_, _]) c rfl ⟨⟨_, rfl, .inl ⟨_, rfl, b.seesAt 2 rfl, a2W⟩⟩, rfl, trivial⟩ ?_
  obtain rfl := oi d
  replace b := pm [.D 0,.D 0,.D 0,.D 0] b
  exact ⟨_, B, rfl, h, ⟨_, _, rfl, Sl.nil⟩, b⟩
 replace d := iteF i d
 refine sg [.k,.s,.p] b c fun a c => ?_
 obtain ⟨Y, v, d⟩ := B4 d
 have hF := b.lendV G8.mono 0 rfl o rfl; clear b; obtain ⟨Z, H, b, x, y⟩ := hF
 refine fq c (T7 b x v) ?_; rintro _ w ⟨K, rfl, D, b⟩; refine ⟨_, rfl, fun a c => ?_⟩
 replace b := y _ _ b
 subst D
 refine al c b a5H fun aa a w c b => ?_
 refine so [.A 0,.e,.s,.B 4,.p,.p,.B 0] b c fun a w c b => ?_
 obtain ⟨ad, z, d⟩ := B4 d
 refine fq c (a1j b f g z) ?_; rintro _ w ⟨L, E, rfl, j, F, b⟩; refine ⟨_, rfl, fun a c => ?_⟩
 obtain ⟨f, g, o⟩ := m3 j f g o
 obtain ⟨ae, af, rfl, G⟩ := F
 refine so [.A 3,.p,.e] b c fun a w c b => ?_
 refine W.ret ?_
 refine a0b (fn := Tryz.f28) (rs := [.cell 8 42, .tmp 9]) (vs := [_, _]) c rfl ⟨⟨_, rfl, .inl ⟨_, rfl, b.seesAt 3 rfl, a2W⟩⟩, rfl, trivial⟩ ?_
 obtain rfl := oi d
 replace b := pm [.D 0,.D 0,.D 0,.D 0,.D 0] b
 exact ⟨_, E, rfl, (Sg.Le.trans h j), ⟨_, _, rfl, G⟩, b⟩
set_option maxHeartbeats 8000000 in
theorem Z9 {fu N l m x B y C : Nat}  {w : World} {x1 : Int} {y0 : G3} {n o z A : Option Addr} {u : a0o} {v : List Value} (c : St w s (pc N #[.slice n y0.net.Day.Trains.length l, .slice o y0.net.Day.Turns.length m, vi y0.net.least, vi y0.time, .slice z B x, .slice A C y] 69 :: M5 78 11 z x B u :: B2 50 5 A y C v :: R)) (f : Sl 4 A7 s n l y0.net.Day.Trains) (g : Sl 1 (RL 1 (RI .i64)) s o m y0.net.Day.Turns) (p : HEv 11 D0 s u y0.promises) (U : y0.promises.length = B) (q : Ev 5 A5 s v y0.messages) (V : y0.messages.length = C) {r : A3 × Int × Int} (j : M2 fu x1 y0 = some r) :
  Calls b2n 7 [pp N, vi x1].toArray w (fun e w => ∃ (Y : List Value) (t : Sg), e = .returned (.tuple #[.agg Y.toArray, vi r.2.1, vi r.2.2]) ∧ s.Le t ∧ D9 t Y r.1 ∧ St w t (pc N #[.slice n y0.net.Day.Trains.length l, .slice o y0.net.Day.Turns.length m, vi y0.net.least, vi y0.time, .slice z B x, .slice A C y] 69 :: M5 78 11 z x B u :: B2 50 5 A y C v :: R)) := by
 refine enter Tryz.func7 rfl rfl rfl fun a b => ?_
 rw [M2] at j
 subst U
 subst V
 refine sg [.s] c b fun a b => ?_
 refine al b c a3B fun Z a w b c => ?_
 refine sl [.p,.p,.e,.q,.s,.p,.p,.n,.f 4,.b 1,.l 78 11,.p] c b fun a b => ?_
 refine fq b (K3 c  rfl (r := D5 x1 0 (w64 (((y0.promises.length : Nat) : Int) - 1)))) ?_; rintro _ w ⟨rfl, c⟩; refine ⟨_, rfl, fun a b => ?_⟩
 refine sl [.p,.e] c b fun a b => ?_
 refine W.cond b rfl (fun K => ?_) (fun K => ?_)
 ·replace j := iteT K j
  refine sg [.s] c b fun a b => ?_
  refine vP c b (A6.build b (vs := []) [.slice none 0 0] rfl (by kernel_rfl)) rfl fun a b => ?_
  refine so [.A 0,.p,.p,.e] c b fun a w b c => ?_
  refine W.ret ?_
  refine a0b (fn := Tryz.f7) (rs := [.cell 4 42, .tmp 5, .tmp 6]) (vs := [_, _, _]) b rfl ⟨⟨_, rfl, .inl ⟨_, rfl, c.seesAt 0 rfl, a2W⟩⟩, rfl, rfl, trivial⟩ ?_
  obtain rfl := oi j
  replace c := c.tail
  exact ⟨_, s, rfl, lr, ⟨_, _, rfl, Sl.nil⟩, c⟩
 replace j := iteF K j
 refine sg [.k,.s,.p,.n,.f 4,.b 1,.p] c b fun a b => ?_
 obtain ⟨i, am, ay, an, j⟩ := gxS j
 have X := (c.hotOpen 2 rfl).vecAok 0 rfl (by omega : (x1).toNat < y0.promises.length)
 refine vP c b (A6.idx b ((x1).toNat) rfl rfl b0n am (by omega) X) rfl fun a b => ?_
 obtain ⟨aG, az, ap⟩ := HEv.at p an
 obtain ⟨O, P, aa, ad, ae, aA, af, ag, ah, aB, ai, aj, ak, aC, au, av, D, aH, aD, aI, aE, aJ, aF⟩ := ap
 subst av
 refine vP c b (A6.loadA (cs := [vi i.Promise.From, vi i.Promise.To, vi i.Promise.Dep, vi i.Promise.Arr, vi i.Promise.State, .slice O i.Promise.Journey.Rides.length P, .slice aa ae ad, .slice af ah ag, .slice ai ak aj, vi i.station, vi i.when]) b rfl (fun w h => (St.hotSees h 2 rfl au rfl).part 0 11) b0Y) rfl fun a b => ?_
 refine al b c a2U fun aw a w b c => ?_
 refine so [.A 0,.e,.q,.o,.s,.f 0,.f 4,.b 0,.p,.p,.e] c b fun a w b c => ?_
 refine W.cond b rfl (fun L => ?_) (fun L => ?_)
 ·replace j := iteT L j
  refine sg [.s] c b fun a b => ?_
  refine vP c b (A6.build b (vs := []) [.slice none 0 0] rfl (by kernel_rfl)) rfl fun a b => ?_
  refine so [.A 1,.p,.p,.e] c b fun a w b c => ?_
  refine W.ret ?_
  refine a0b (fn := Tryz.f7) (rs := [.cell 4 42, .tmp 5, .tmp 6]) (vs := [_, _, _]) b rfl ⟨⟨_, rfl, .inl ⟨_, rfl, c.seesAt 1 rfl, a2W⟩⟩, rfl, rfl, trivial⟩ ?_
  obtain rfl := oi j
  replace c := pm [.D 0,.D 0] c
  exact ⟨_, s, rfl, lr, ⟨_, _, rfl, Sl.nil⟩, c⟩
 replace j := iteF L j
 refine sg [.s,.f 9,.b 0,.f 0,.f 1,.b 0,.p,.p,.e] c b fun a b => ?_
 refine W.cond b rfl (fun M => ?_) (fun M => ?_)
 ·replace j := iteT M j
  refine sg [.s] c b fun a b => ?_
  refine vP c b (A6.build b (vs := []) [.slice none 0 0] rfl (by kernel_rfl)) rfl fun a b => ?_
  refine so [.A 1,.p,.p,.e] c b fun a w b c => ?_
  refine W.ret ?_
  refine a0b (fn := Tryz.f7) (rs := [.cell 4 42, .tmp 5, .tmp 6]) (vs := [_, _, _]) b rfl ⟨⟨_, rfl, .inl ⟨_, rfl, c.seesAt 1 rfl, a2W⟩⟩, rfl, rfl, trivial⟩ ?_
  obtain rfl := oi j
  replace c := pm [.D 0,.D 0] c
  exact ⟨_, s, rfl, lr, ⟨_, _, rfl, Sl.nil⟩, c⟩
 replace j := iteF M j
 refine sg [.k,.q] c b fun a b => ?_
 refine rQ c mixed ?_
 refine sq [.f 10,.b 0,.p,.n,.f 3,.b 2] b fun a b => ?_
 refine qP b (A6.max2 b rfl rfl) rfl fun a b => ?_
 refine sq [.p] b fun a b => ?_
 refine QL.nil ?_; clear c w; intro w c
 refine W.seq ?_
 refine W.gen fun ax aq => ?_
 refine rE c [] [] [0, 1, 2, 3, 4, 5, 6, 7, 8, 9, 10, 11, 12, 13, 14, 15, 16] [0, 1, 2, 3, 4, 5, 6, 7, 8, 9, 10, 11, 12, 13, 14, 15, 16] mixed ?_
 replace c := c.drew
 refine sr [.P 0 .p,.T 1 true .n,.P 2 (.f 0),.T 3 true (.C 2 0 3),.P 4 (.f 9),.T 5 true (.b 0),.P 6 .p,.P 7 (.f 0),.P 8 (.f 1),.T 9 true (.b 0)] b c c fun a b => ?_
 obtain ⟨Q, S, j⟩ := B4 j
 suffices key : ∀ k G H E (a : Act) (w : World), s.Le k → Sl 3 A8 k G H Q.1.Rides → Sl 3 A8 k O P i.Promise.Journey.Rides → Sl 4 A7 k n l y0.net.Day.Trains → Sl 1 (RL 1 (RI .i64)) k o m y0.net.Day.Turns → HEv 11 D0 k u y0.promises → Ev 5 A5 k v y0.messages → Rep a 68 [(4, pp Z), (8, vi (mx i.when y0.time)), (9, pp E), (10, .bool Q.2)] → St w k (pc E #[.slice G Q.1.Rides.length H] 42 :: pc aw #[vi i.Promise.From, vi i.Promise.To, vi i.Promise.Dep, vi i.Promise.Arr, vi i.Promise.State, .slice O i.Promise.Journey.Rides.length P, .slice aa ae ad, .slice af ah ag, .slice ai ak aj, vi i.station, vi i.when] 78 :: pc Z #[.slice none 0 0] 42 :: pc N #[.slice n y0.net.Day.Trains.length l, .slice o y0.net.Day.Turns.length m, vi y0.net.least, vi y0.time, .slice z y0.promises.length x, .slice A y0.messages.length y] 69 :: M5 78 11 z x y0.promises.length u :: B2 50 5 A y y0.messages.length v :: R) → ax.nor a w by
  refine Rg.many 10 [14] (by kernel_rfl) ⟨?_, ?_, trivial⟩
  ·refine bk 10 true true ?_
   refine fq b (V2 c f g S) ?_; rintro _ w ⟨ar, k, rfl, d, T, c⟩; refine ⟨_, rfl, fun a b => ?_⟩
   obtain ⟨D, f, g, p⟩ := m4 d D f g p
   replace q := m1 d q
   obtain ⟨G, H, rfl, I⟩ := T
   refine WL.nil ?_
   refine r3 (St.down d c) ?_
   refine sr [.P 11 .p,.P 12 .p,.P 13 .p] b (St.down d c) (St.down d c) fun a b => ?_
   refine ro 14 true true ?_
   refine al b c a3B fun E a w b c => ?_
   refine WL.nil ?_
   refine r3 (St.down d (c.tail)) ?_
   refine ro 15 true true ?_
   refine so [.A 0,.e] c b fun a w b c => ?_
   refine r3 (St.down d (c.tail)) ?_
   refine sr [.P 16 .p] b (St.down d (c.tail)) (St.down d (c.tail)) fun a b => ?_
   refine Rg.done (by kernel_rfl) ?_
   exact key _ _ _ _ _ _ d I D f g p q b.pk c
  refine bk 14 true true ?_
  refine al b c a3B fun E a w b c => ?_
  refine WL.nil ?_
  refine r3 (c.tail) ?_
  refine ro 10 true true ?_
  refine fq b (V2 c f g S) ?_; rintro _ w ⟨ar, k, rfl, d, T, c⟩; refine ⟨_, rfl, fun a b => ?_⟩
  obtain ⟨D, f, g, p⟩ := m4 d D f g p
  replace q := m1 d q
  obtain ⟨G, H, rfl, I⟩ := T
  refine WL.nil ?_
  refine r3 (St.down d (c.tail)) ?_
  refine sr [.P 11 .p,.P 12 .p,.P 13 .p] b (St.down d (c.tail)) (St.down d (c.tail)) fun a b => ?_
  refine ro 15 true true ?_
  refine so [.A 0,.e] c b fun a w b c => ?_
  refine r3 (St.down d (c.tail)) ?_
  refine sr [.P 16 .p] b (St.down d (c.tail)) (St.down d (c.tail)) fun a b => ?_
  refine Rg.done (by kernel_rfl) ?_
  exact key _ _ _ _ _ _ d I D f g p q b.pk c
 clear b c a w; intro k G H E a w J I D f g p q b c
 subst aq
 refine sg [.q,.s,.p,.p,.e] c b fun a b => ?_
 refine W.cond b rfl (fun F => ?_) (fun F => ?_)
 ·replace j := iteT F j
  refine sg [.s] c b fun a b => ?_
  refine vP c b (A6.build b (vs := []) [.slice none 0 0] rfl (by kernel_rfl)) rfl fun a b => ?_
  refine so [.A 2,.p,.p,.e] c b fun a w b c => ?_
  refine W.ret ?_
  refine a0b (fn := Tryz.f7) (rs := [.cell 4 42, .tmp 5, .tmp 6]) (vs := [_, _, _]) b rfl ⟨⟨_, rfl, .inl ⟨_, rfl, c.seesAt 2 rfl, a2W⟩⟩, rfl, rfl, trivial⟩ ?_
  obtain rfl := oi j
  replace c := pm [.D 0,.D 0,.D 0] c
  exact ⟨_, k, rfl, J, ⟨_, _, rfl, Sl.nil⟩, c⟩
 replace j := iteF F j
 refine sm [.k,.s,.B 0,.p,.A 2,.p,.p,.e] c b fun a w b c => ?_
 refine W.ret ?_
 refine a0b (fn := Tryz.f7) (rs := [.cell 4 42, .tmp 5, .tmp 6]) (vs := [_, _, _]) b rfl ⟨⟨_, rfl, .inl ⟨_, rfl, c.seesAt 2 rfl, a2W⟩⟩, rfl, rfl, trivial⟩ ?_
 obtain rfl := oi j
 replace c := pm [.D 0,.D 0,.D 0] c
 exact ⟨_, k, rfl, J, ⟨_, _, rfl, I⟩, c⟩
set_option maxHeartbeats 8000000 in
theorem Z3 {w : World} {x0 x1 x2 x3 r : Int} {x4 x5 : Bool} (c : St w s (R))  (d : K1 x0 x1 x2 x3 x4 x5 = r) :
  Calls b2n 61 [vi x0, vi x1, vi x2, vi x3, .bool x4, .bool x5].toArray w (fun e w => e = .returned (vi r) ∧ St w s (R)) := by
 refine enter Tryz.func61 rfl rfl rfl fun a b => ?_
 rw [K1] at d
 refine sg [.s,.p,.e,.q,.o,.s,.p] c b fun a b => ?_
 refine fq b (I7 c  rfl (r := C6 x0 0 28800)) ?_; rintro _ w ⟨rfl, c⟩; refine ⟨_, rfl, fun a b => ?_⟩
 refine sl [.p,.p,.e] c b fun a b => ?_
 refine W.cond b rfl (fun k => ?_) (fun k => ?_)
 ·replace d := iteT k d
  refine sg [.s,.p,.e] c b fun a b => ?_
  refine W.ret ?_
  refine fg [_] b ?_
  subst d
  exact ⟨rfl, c⟩
 replace d := iteF k d
 refine W.seq ?_
 obtain ⟨z, f, d⟩ := R8 d
 refine W.cut (fun a w => ∃ t, t = z ∧ Rep a 43 [(1, vi x1), (2, vi x2), (3, vi x3), (4, .bool x4), (5, .bool x5), (17, .bool t)] ∧ St w s (R)) ?_ ?_
 ·refine W.gen fun C l => ?_
  refine sg [.r,.p] c b fun a b => ?_
  refine fq b (I7 c  rfl (r := C6 x1 0 11)) ?_; rintro _ w ⟨rfl, c⟩; refine ⟨_, rfl, fun a b => ?_⟩
  refine sl [.p,.p] c b fun a b => ?_
  rcases b2o (!(C6 x1 0 11)) with m | m
  ·replace f := iteT m f
   refine sl [.O,.O,.U,.U,.U,.O,.T,.p,.e] c b fun a b => ?_
   subst l
   exact ⟨true, f, b.pk, c⟩
  replace f := iteF m f
  refine sl [.p,.p] c b fun a b => ?_
  rcases b2o x4 with i | i
  ·replace f := iteT i f
   refine sl [.p] c b fun a b => ?_
   refine WL.fnq b (I7 c  rfl (r := C6 x2 0 11)) (F9 b rfl rfl rfl i) b0a rfl rfl rfl ?_
   clear b c; rintro e w ⟨rfl, c⟩; refine ⟨_, rfl, ?_⟩; clear a; intro a b
   refine sl [.p,.T,.N,.p,.e] c b fun a b => ?_
   subst l
   exact ⟨!(C6 x2 0 11), f, b.pk, c⟩
  replace f := iteF i f
  refine sl [.O,.O,.O,.N,.N,.p,.e] c b fun a b => ?_
  subst l
  exact ⟨false, f, b.pk, c⟩
 clear b c a w; rintro a w ⟨t, rfl, b, c⟩
 refine W.cond b rfl (fun n => ?_) (fun n => ?_)
 ·replace d := iteT n d
  refine sg [.s,.p,.e] c b fun a b => ?_
  refine W.ret ?_
  refine fg [_] b ?_
  subst d
  exact ⟨rfl, c⟩
 replace d := iteF n d
 refine W.seq ?_
 obtain ⟨A, g, d⟩ := R8 d
 refine W.cut (fun a w => ∃ u, u = A ∧ Rep a 43 [(3, vi x3), (5, .bool x5), (29, .bool u)] ∧ St w s (R)) ?_ ?_
 ·refine W.gen fun D v => ?_
  refine sg [.r,.p,.p] c b fun a b => ?_
  rcases b2o x4 with o | o
  ·replace g := iteT o g
   refine sl [.p,.p,.p,.T,.p,.e] c b fun a b => ?_
   subst v
   exact ⟨(x1 == x2), g, b.pk, c⟩
  replace g := iteF o g
  refine sl [.O,.O,.O,.N,.p,.e] c b fun a b => ?_
  subst v
  exact ⟨false, g, b.pk, c⟩
 clear b c a w; rintro a w ⟨u, rfl, b, c⟩
 refine W.cond b rfl (fun p => ?_) (fun p => ?_)
 ·replace d := iteT p d
  refine sg [.s,.p,.e] c b fun a b => ?_
  refine W.ret ?_
  refine fg [_] b ?_
  subst d
  exact ⟨rfl, c⟩
 replace d := iteF p d
 refine W.seq ?_
 obtain ⟨B, h, d⟩ := R8 d
 refine W.cut (fun a w => ∃ x, x = B ∧ Rep a 43 [(36, .bool x)] ∧ St w s (R)) ?_ ?_
 ·refine W.gen fun E y => ?_
  refine sg [.r,.p,.p] c b fun a b => ?_
  rcases b2o x5 with j | j
  ·replace h := iteT j h
   refine sl [.p] c b fun a b => ?_
   refine WL.fnq b (I7 c  rfl (r := C6 x3 0 28800)) (F9 b rfl rfl rfl j) b0a rfl rfl rfl ?_
   clear b c; rintro e w ⟨rfl, c⟩; refine ⟨_, rfl, ?_⟩; clear a; intro a b
   refine sl [.p,.T,.p,.e] c b fun a b => ?_
   subst y
   exact ⟨!(C6 x3 0 28800), h, b.pk, c⟩
  replace h := iteF j h
  refine sl [.O,.O,.O,.N,.p,.e] c b fun a b => ?_
  subst y
  exact ⟨false, h, b.pk, c⟩
 clear b c a w; rintro a w ⟨x, rfl, b, c⟩
 refine W.cond b rfl (fun q => ?_) (fun q => ?_)
 ·replace d := iteT q d
  refine sg [.s,.p,.e] c b fun a b => ?_
  refine W.ret ?_
  refine fg [_] b ?_
  subst d
  exact ⟨rfl, c⟩
 replace d := iteF q d
 refine sg [.k,.s,.p,.e] c b fun a b => ?_
 refine W.ret ?_
 refine fg [_] b ?_
 subst d
 exact ⟨rfl, c⟩
set_option maxHeartbeats 8000000 in
theorem S2 {w : World} {x0 : B0} {q t k : Option Addr} {u v l : Nat} {x1 : A3} {x2 r : Int} {x3 : Bool} (c : St w s (R)) (ag : Sl 4 A7 s q u x0.Trains) (_h0_1 : Sl 1 (RL 1 (RI .i64)) s t v x0.Turns) (H : Sl 3 A8 s k l x1.Rides) (j : D4 x0 x1 x2 x3 = some r) :
  Calls b2n 38 [.agg (List.toArray [.slice q x0.Trains.length u, .slice t x0.Turns.length v]), .agg (List.toArray [.slice k x1.Rides.length l]), vi x2, .bool x3].toArray w (fun e w => e = .returned (vi r) ∧ St w s (R)) := by
 refine enter Tryz.func38 rfl rfl rfl fun a b => ?_
 rw [D4] at j
 refine sg [.s] c b fun a b => ?_
 refine bw b c fun x a w b c => ?_
 refine bw b c fun y a w b c => ?_
 refine sl [.p,.e,.q,.s,.p] c b fun a b => ?_
 refine fq b (I7 c  rfl (r := C6 x2 0 28800)) ?_; rintro _ w ⟨rfl, c⟩; refine ⟨_, rfl, fun a b => ?_⟩
 refine sl [.p,.e] c b fun a b => ?_
 refine W.cond b rfl (fun S => ?_) (fun S => ?_)
 ·replace j := iteT S j
  refine sg [.s,.p,.e] c b fun a b => ?_
  refine W.ret ?_
  refine fg [_] b ?_
  obtain rfl := oi j
  replace c := pm [.D 0,.D 0] c
  exact ⟨rfl, c⟩
 replace j := iteF S j
 refine sg [.k,.q,.s,.f 0,.b 0,.l 88 3] c b fun a b => ?_
 refine fq b (I7 c  rfl (r := C6 ((x1.Rides).length : Int) 1 4)) ?_; rintro _ w ⟨rfl, c⟩; refine ⟨_, rfl, fun a b => ?_⟩
 refine sl [.p,.e] c b fun a b => ?_
 refine W.cond b rfl (fun T => ?_) (fun T => ?_)
 ·replace j := iteT T j
  refine sg [.s,.p,.e] c b fun a b => ?_
  refine W.ret ?_
  refine fg [_] b ?_
  obtain rfl := oi j
  replace c := pm [.D 0,.D 0] c
  exact ⟨rfl, c⟩
 replace j := iteF T j
 refine sg [.k,.q,.s,.f 0,.b 0,.l 88 3,.p,.e] c b fun a b => ?_
 obtain ⟨aF, d, j⟩ := B4 j
 refine W.cut (fun a w => (.next ()) = aF ∧ Rep a 125 [] ∧ St w s (pc y #[.slice k x1.Rides.length l] 42 :: pc x #[.slice q x0.Trains.length u, .slice t x0.Turns.length v] 25 :: R)) ?_ ?_
 ·refine W.block ?_
  refine W.loop (fun m a w => ∃ g p, g.length = m ∧ x1.Rides.drop p = g ∧ D4.loop1 x0 x1 x2 x3 g p = some aF ∧ Rep a 125 [(2, vi x2), (3, .bool x3), (4, pp x), (5, pp y), (23, .slice k x1.Rides.length l), (24, vi ((x1.Rides).length : Int)), (25, vi ((p : Nat) : Int))] ∧ St w s (pc y #[.slice k x1.Rides.length l] 42 :: pc x #[.slice q x0.Trains.length u, .slice t x0.Turns.length v] 25 :: R)) (m := x1.Rides.length) ⟨x1.Rides, 0, rfl, rfl, d, b.pk, c⟩ ?_
  clear b c a w d; rintro bA a w ⟨g, p, rfl, F, d, b, c⟩
  refine W.gen fun bB z => ?_
  rcases g with _ | ⟨A, g⟩
  ·have aq := E8 F
   refine sg [.s,.p,.e,.q] c b fun a b => ?_
   refine W.condF b rfl (decide_eq_false (by omega)) ?_
   subst z
   refine W.exit rfl ?_
   exact ⟨oi d, b.pk, c⟩
  obtain ⟨aq, aJ, F⟩ := C3 F
  rw [D4.loop1] at d
  refine sg [.s,.p,.e,.q] c b fun a b => ?_
  refine W.condT b rfl (decide_eq_true (by omega)) ?_
  obtain ⟨bh, bi, aK, a1⟩ := H.at aJ
  subst aK
  refine sg [.k,.q,.o,.s,.p,.x 88,.h] c b fun a b => ?_
  refine al b c a0Z fun G a w b c => ?_
  refine so [.p,.A 0,.e,.q,.q] c b fun a w b c => ?_
  obtain ⟨aS, B, d⟩ := R8 d
  refine W.cut (fun a w => ∃ ah, ah = aS ∧ Rep a 125 [(2, vi x2), (3, .bool x3), (4, pp x), (5, pp y), (9, vi ((p : Nat) : Int)), (10, pp G), (23, .slice k x1.Rides.length l), (24, vi ((x1.Rides).length : Int)), (25, vi ((p : Nat) : Int)), (40, .bool ah)] ∧ St w s (pc G (A1.cells A).toArray 88 :: pc y #[.slice k x1.Rides.length l] 42 :: pc x #[.slice q x0.Trains.length u, .slice t x0.Turns.length v] 25 :: R)) ?_ ?_
  ·refine W.gen fun bC ai => ?_
   refine sg [.r,.f 0,.b 0,.p,.p] c b fun a b => ?_
   rcases b2o (decide (A.Train < 0)) with U | U
   ·replace B := iteT U B
    refine sl [.O,.O,.O,.O,.O,.O,.T,.e] c b fun a b => ?_
    subst ai
    exact ⟨true, B, b.pk, c⟩
   replace B := iteF U B
   refine sl [.f 0,.b 0,.f 0,.b 2,.l 72 4,.p,.N,.e] c b fun a b => ?_
   subst ai
   exact ⟨decide (A.Train ≥ ((x0.Trains).length : Int)), B, b.pk, c⟩
  clear b c a w; rintro a w ⟨ah, rfl, b, c⟩
  refine W.cond b rfl (fun V => ?_) (fun V => ?_)
  ·replace d := iteT V d
   refine sg [.s,.p,.e] c b fun a b => ?_
   refine W.ret ?_
   subst z
   rw [← oi d] at j
   dsimp only at j
   refine fg [_] b ?_
   obtain rfl := oi j
   replace c := pm [.D 0,.D 0,.D 0] c
   exact ⟨rfl, c⟩
  replace d := iteF V d
  obtain ⟨ad, bj, a2, aL, d⟩ := gxS d
  obtain ⟨bl, bm, aM, ar⟩ := ag.at aL
  obtain ⟨aG, aH, bD, bE, rfl, aI, bF⟩ := aM
  refine sg [.k,.s,.f 0,.b 2,.f 0,.b 0,.x 72,.f 2] c b fun a b => ?_
  refine vP c b (A6.load1 b rfl (fun w h => (ar w _ h).one rfl) a3P) rfl fun a b => ?_
  refine sl [.p,.e,.q,.q] c b fun a b => ?_
  obtain ⟨aT, f, d⟩ := R8 d
  refine W.cut (fun a w => ∃ aj, aj = aT ∧ Rep a 125 [(2, vi x2), (3, .bool x3), (4, pp x), (5, pp y), (9, vi ((p : Nat) : Int)), (10, pp G), (11, .slice aG ad.Stops.length aH), (23, .slice k x1.Rides.length l), (24, vi ((x1.Rides).length : Int)), (25, vi ((p : Nat) : Int)), (69, .bool aj)] ∧ St w s (pc G (A1.cells A).toArray 88 :: pc y #[.slice k x1.Rides.length l] 42 :: pc x #[.slice q x0.Trains.length u, .slice t x0.Turns.length v] 25 :: R)) ?_ ?_
  ·refine W.gen fun bn C => ?_
   refine sg [.r,.f 1,.b 0,.p,.p] c b fun a b => ?_
   rcases b2o (decide (A.On < 0)) with I | I
   ·replace f := iteT I f
    refine sl [.O,.O,.O,.O,.O,.T,.p,.O,.O,.O,.T,.p,.O,.O,.O,.O,.O,.T,.e] c b fun a b => ?_
    subst C
    exact ⟨true, f, b.pk, c⟩
   replace f := iteF I f
   refine sl [.f 1,.b 0,.p,.l 75 4,.p,.N,.p] c b fun a b => ?_
   rcases b2o (decide (A.On ≥ ((ad.Stops).length : Int))) with J | J
   ·replace f := iteT J f
    refine sl [.O,.O,.O,.T,.p,.O,.O,.O,.O,.O,.T,.e] c b fun a b => ?_
    subst C
    exact ⟨true, f, b.pk, c⟩
   replace f := iteF J f
   refine sl [.f 2,.b 0,.p,.N,.p] c b fun a b => ?_
   rcases b2o (decide (A.Off < 0)) with K | K
   ·replace f := iteT K f
    refine sl [.O,.O,.O,.O,.O,.T,.e] c b fun a b => ?_
    subst C
    exact ⟨true, f, b.pk, c⟩
   replace f := iteF K f
   refine sl [.f 2,.b 0,.p,.l 75 4,.p,.N,.e] c b fun a b => ?_
   subst C
   exact ⟨decide (A.Off ≥ ((ad.Stops).length : Int)), f, b.pk, c⟩
  clear b c a w; rintro a w ⟨aj, rfl, b, c⟩
  refine W.cond b rfl (fun L => ?_) (fun L => ?_)
  ·replace d := iteT L d
   refine sg [.s,.p,.e] c b fun a b => ?_
   refine W.ret ?_
   subst z
   rw [← oi d] at j
   dsimp only at j
   refine fg [_] b ?_
   obtain rfl := oi j
   replace c := pm [.D 0,.D 0,.D 0] c
   exact ⟨rfl, c⟩
  replace d := iteF L d
  refine sg [.k,.q,.s,.f 1,.b 0,.f 2,.b 0,.p,.e] c b fun a b => ?_
  refine W.cond b rfl (fun M => ?_) (fun M => ?_)
  ·replace d := iteT M d
   refine sg [.s,.p,.e] c b fun a b => ?_
   refine W.ret ?_
   subst z
   rw [← oi d] at j
   dsimp only at j
   refine fg [_] b ?_
   obtain rfl := oi j
   replace c := pm [.D 0,.D 0,.D 0] c
   exact ⟨rfl, c⟩
  replace d := iteF M d
  refine sg [.k,.q,.s,.p,.p,.e] c b fun a b => ?_
  refine W.cond b rfl (fun N => ?_) (fun N => ?_)
  ·replace d := iteT N d
   refine W.exit rfl ?_
   have := H.small
   refine sm [.r,.i,.p,.e,.D 0] c b fun a w b c => ?_
   subst z
   exact ⟨g.length, b2p _, g, p + 1, rfl, F, d, b.pk, c⟩
  replace d := iteF N d
  obtain ⟨X, a3, aU, au, d⟩ := gxS d
  obtain ⟨a4, a5, av, aV⟩ := H.at au
  subst av
  refine sg [.k,.s,.f 0,.b 1,.p,.p,.x 88,.h] c b fun a b => ?_
  refine al b c a0Z fun ak a w b c => ?_
  refine so [.A 0,.e,.q] c b fun a w b c => ?_
  refine W.gen fun bo aw => ?_
  refine rE c [] [] [0, 1, 2, 3, 4, 5, 6, 7, 8, 9, 10, 11, 12] [0, 1, 2, 3, 4, 5, 6, 7, 8, 9, 10, 11, 12] mixed ?_
  replace c := c.drew
  obtain ⟨bp, a6, aW, ax, d⟩ := gxS d
  obtain ⟨a7, a8, ay, am⟩ := ag.at ax
  obtain ⟨bq, br, bs, bt, rfl, aN, bu⟩ := ay
  refine sr [.P 0 (.f 0),.T 1 true (.b 3),.P 2 (.f 0),.T 3 true (.b 0),.P 4 (.x 72),.P 5 (.f 2)] b c c fun a b => ?_
  refine tT (i := 6) true rfl b rfl (by kernel_rfl) (A6.load1 b rfl (fun w h => (am w _ h).one rfl) a3P) rfl c c fun a b => ?_
  obtain ⟨O, a9, aX, az, d⟩ := gxS d
  obtain ⟨a_, ba, aA, aY⟩ := aN.at az
  subst aA
  refine sr [.P 7 (.f 2),.T 8 true (.b 0),.P 9 (.x 75),.T 10 true .h] b c c fun a b => ?_
  refine ro 11 true true ?_
  refine al b c a3O fun Y a w b c => ?_
  refine WL.nil ?_
  refine r3 (c.tail) ?_
  refine ro 12 true true ?_
  refine so [.A 0,.e] c b fun a w b c => ?_
  refine r3 (c.tail) ?_
  refine Rg.done (by kernel_rfl) ?_
  subst aw
  refine sg [.q,.q] c b fun a b => ?_
  obtain ⟨aO, n, d⟩ := B4 d
  refine W.cut (fun a w => ∃ Z, Z = aO ∧ Rep a 125 [(2, vi x2), (3, .bool x3), (4, pp x), (5, pp y), (10, pp G), (11, .slice aG ad.Stops.length aH), (13, pp Y), (23, .slice k x1.Rides.length l), (24, vi ((x1.Rides).length : Int)), (25, vi ((p : Nat) : Int)), (109, .bool Z)] ∧ St w s (pc Y (B9.cells O).toArray 75 :: pc ak (A1.cells X).toArray 88 :: pc G (A1.cells A).toArray 88 :: pc y #[.slice k x1.Rides.length l] 42 :: pc x #[.slice q x0.Trains.length u, .slice t x0.Turns.length v] 25 :: R)) ?_ ?_
  ·refine W.gen fun bv ae => ?_
   refine rQ c mixed ?_
   refine sq [.f 0,.b 1,.f 0,.b 2,.p,.p] b fun a b => ?_
   rcases b2o (X.Train == A.Train) with D | D
   ·replace n := iteT D n
    refine sq [.O,.O,.O,.O,.O,.O,.O,.O,.O,.T] b fun a b => ?_
    refine QL.nil ?_; clear c w; intro w c
    subst ae
    exact ⟨true, oi n, b.pk, c⟩
   replace n := iteF D n
   obtain ⟨aP, bb, aZ, aB, n⟩ := gxS n
   obtain ⟨bc, bd, aC, an⟩ := aI.at aB
   subst aC
   refine sq [.p,.f 1,.b 2,.x 75,.f 0] b fun a b => ?_
   refine QL.v b (F9 b rfl rfl rfl D) (A6.load1 b rfl (fun w h => (an w _ h).one rfl) ty3) rfl fun a b => ?_
   refine sq [.f 0,.b 0,.p,.N] b fun a b => ?_
   refine QL.nil ?_; clear c w; intro w c
   subst ae
   exact ⟨(aP.Station != O.Station), oi n, b.pk, c⟩
  clear b c a w; rintro a w ⟨Z, rfl, b, c⟩
  refine W.cond b rfl (fun P => ?_) (fun P => ?_)
  ·replace d := iteT P d
   refine sg [.s,.p,.e] c b fun a b => ?_
   refine W.ret ?_
   subst z
   rw [← oi d] at j
   dsimp only at j
   refine fg [_] b ?_
   obtain rfl := oi j
   replace c := pm [.D 0,.D 0,.D 0,.D 0,.D 0] c
   exact ⟨rfl, c⟩
  replace d := iteF P d
  refine sg [.k,.q] c b fun a b => ?_
  obtain ⟨aQ, o, d⟩ := B4 d
  refine W.cut (fun a w => ∃ aa, aa = aQ ∧ Rep a 125 [(2, vi x2), (3, .bool x3), (4, pp x), (5, pp y), (23, .slice k x1.Rides.length l), (24, vi ((x1.Rides).length : Int)), (25, vi ((p : Nat) : Int)), (123, .bool aa)] ∧ St w s (pc Y (B9.cells O).toArray 75 :: pc ak (A1.cells X).toArray 88 :: pc G (A1.cells A).toArray 88 :: pc y #[.slice k x1.Rides.length l] 42 :: pc x #[.slice q x0.Trains.length u, .slice t x0.Turns.length v] 25 :: R)) ?_ ?_
  ·refine W.gen fun bz af => ?_
   refine rQ c mixed ?_
   refine sq [.p,.p] b fun a b => ?_
   rcases b2o x3 with E | E
   ·replace o := iteT E o
    obtain ⟨aR, be, a0, aD, o⟩ := gxS o
    obtain ⟨bf, bg, aE, ap⟩ := aI.at aD
    subst aE
    refine sq [.p,.f 1,.b 2,.x 75,.f 3] b fun a b => ?_
    refine QL.v b (F9 b rfl rfl rfl E) (A6.load1 b rfl (fun w h => (ap w _ h).one rfl) ty3) rfl fun a b => ?_
    refine sq [.f 2,.b 0,.p,.p,.p,.T] b fun a b => ?_
    refine QL.nil ?_; clear c w; intro w c
    subst af
    exact ⟨decide (aR.Dep < (w64 (O.Arr + x2))), oi o, b.pk, c⟩
   replace o := iteF E o
   refine sq [.O,.O,.O,.O,.O,.O,.O,.O,.O,.O,.O,.N] b fun a b => ?_
   refine QL.nil ?_; clear c w; intro w c
   subst af
   exact ⟨false, oi o, b.pk, c⟩
  clear b c a w; rintro a w ⟨aa, rfl, b, c⟩
  refine W.cond b rfl (fun Q => ?_) (fun Q => ?_)
  ·replace d := iteT Q d
   refine sg [.s,.p,.e] c b fun a b => ?_
   refine W.ret ?_
   subst z
   rw [← oi d] at j
   dsimp only at j
   refine fg [_] b ?_
   obtain rfl := oi j
   replace c := pm [.D 0,.D 0,.D 0,.D 0,.D 0] c
   exact ⟨rfl, c⟩
  replace d := iteF Q d
  have := H.small
  refine sm [.k,.r,.i,.p,.e,.D 0,.D 0,.D 0] c b fun a w b c => ?_
  subst z
  exact ⟨g.length, b2p _, g, p + 1, rfl, F, d, b.pk, c⟩
 clear b c a w; rintro a w ⟨rfl, b, c⟩
 dsimp only at j
 refine sg [.s,.p,.e] c b fun a b => ?_
 refine W.ret ?_
 refine fg [_] b ?_
 obtain rfl := oi j
 replace c := pm [.D 0,.D 0] c
 exact ⟨rfl, c⟩
end Go.Proofs.YthllfhmpjclplaaGreatDoor
