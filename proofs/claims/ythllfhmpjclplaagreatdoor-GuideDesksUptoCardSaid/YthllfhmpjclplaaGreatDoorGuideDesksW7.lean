/- The walks of the functions that GuideDesks reaches: each call comes to what its mirror says. The conditions are those of each contract. -/
import Derived.Test.YthllfhmpjclplaaGreatDoorGuideDesksW6
set_option maxRecDepth 10000
open Bool renaming eq_false_or_eq_true → b2o
namespace Go.Proofs.YthllfhmpjclplaaGreatDoor
open Tryz renaming prog → b2n
open Go Go.Fp
variable {s : Sg} {R : List HP}
set_option maxHeartbeats 8000000 in
theorem a0L {w : World} {ae aa I J N aw O aj : Nat} {x1 : A3} {ad K L P Q : Option Addr} {x2 : Int} {y0 : G3} {B : a0o} {Y : List Value} (b : St w s (pc ae #[.slice K y0.net.Day.Trains.length I, .slice L y0.net.Day.Turns.length J, vi y0.net.least, vi y0.time, .slice P aw N, .slice Q aj O] 69 :: M5 78 11 P N aw B :: B2 50 5 Q O aj Y :: R)) (x : Sl 3 A8 s ad aa x1.Rides) (n : Sl 4 A7 s K I y0.net.Day.Trains) (o : Sl 1 (RL 1 (RI .i64)) s L J y0.net.Day.Turns) (v : HEv 11 D0 s B y0.promises) (aE : y0.promises.length = aw) (C : Ev 5 A5 s Y y0.messages) (aF : y0.messages.length = aj) {r : Int × Int × Int × (List C5)} (D : O8 x1 x2 y0 = some r) :
  Calls b2n 13 [pp ae, .agg (List.toArray [.slice ad x1.Rides.length aa]), vi x2].toArray w (fun e w => ∃ (aO : Option Addr) (aP : Nat) (aB : Nat) (aC : a0o) (t : Sg), e = .returned (.tuple #[vi r.1, vi r.2.1]) ∧ s.Le t ∧ HEv 11 D0 t aC r.2.2.2 ∧ r.2.2.2.length = aB ∧ St w t (pc ae #[.slice K y0.net.Day.Trains.length I, .slice L y0.net.Day.Turns.length J, vi y0.net.least, vi r.2.2.1, .slice aO aB aP, .slice Q aj O] 69 :: M5 78 11 aO aP aB aC :: B2 50 5 Q O aj Y :: R)) := by
 refine enter Tryz.func13 rfl rfl rfl fun a c => ?_
 rw [O8] at D
 subst aE
 subst aF
 refine sg [.s] b c fun a c => ?_
 refine bw c b fun ai a w c b => ?_
 refine sl [.p,.p,.e,.q,.q] b c fun a c => ?_
 refine rQ b mixed ?_
 refine sq [.p,.n,.f 0,.C 1 0 3,.B 0] c fun a c => ?_
 obtain ⟨bq, aQ, D⟩ := B4 D
 refine QL.fnq c (fun w b => a1g b n o x aQ) (A0 rfl) b1G rfl rfl rfl fun a c => ?_
 refine sq [.p] c fun a c => ?_
 refine QL.nil ?_; clear b w; intro w b
 refine sg [.s,.p,.p,.e] b c fun a c => ?_
 refine W.cond c rfl (fun ax => ?_) (fun ax => ?_)
 ·replace D := iteT ax D
  refine sg [.s,.p,.p,.p,.e] b c fun a c => ?_
  refine W.ret ?_
  refine fg [_, _] c ?_
  obtain rfl := oi D
  replace b := b.tail
  exact ⟨P, N, y0.promises.length, B, s, rfl, lr, v, (rfl), b⟩
 replace D := iteF ax D
 refine sg [.k,.q] b c fun a c => ?_
 refine W.gen fun a5 aR => ?_
 refine rE b [] [] [0, 1, 2, 3, 4, 5, 6, 7, 8, 9, 10, 11, 12, 13, 14, 15] [0, 1, 2, 3, 4, 5, 6, 7, 8, 9, 10, 11, 12, 13, 14, 15] mixed ?_
 replace b := b.drew
 obtain ⟨an, be, a7, aS, D⟩ := gxS D
 obtain ⟨bf, bg, aT, a8⟩ := x.at aS
 subst aT
 refine sr [.P 0 (.f 0),.T 1 true (.b 0),.P 2 (.x 88),.T 3 true .h,.P 4 (.f 0),.T 5 true (.b 0),.P 6 (.f 0),.T 7 true (.b 0),.P 8 (.l 88 3),.P 9 .p] c b b fun a c => ?_
 obtain ⟨ap, bh, a9, aU, D⟩ := gxS D
 obtain ⟨bi, bj, aV, a_⟩ := x.at aU
 subst aV
 refine sr [.P 10 (.x 88),.T 11 true .h] c b b fun a c => ?_
 suffices key : ∀ af ag (a : Act) (w : World), Sl 3 A8 s ad aa x1.Rides → Sl 4 A7 s K I y0.net.Day.Trains → Sl 1 (RL 1 (RI .i64)) s L J y0.net.Day.Turns → HEv 11 D0 s B y0.promises → Ev 5 A5 s Y y0.messages → Rep a 123 [(0, pp ae), (2, vi x2), (4, pp ai), (9, pp af), (10, pp ag)] → St w s (pc ag (A1.cells ap).toArray 88 :: pc af (A1.cells an).toArray 88 :: pc ai #[.slice ad x1.Rides.length aa] 42 :: pc ae #[.slice K y0.net.Day.Trains.length I, .slice L y0.net.Day.Turns.length J, vi y0.net.least, vi y0.time, .slice P y0.promises.length N, .slice Q y0.messages.length O] 69 :: M5 78 11 P N y0.promises.length B :: B2 50 5 Q O y0.messages.length Y :: R) → a5.nor a w by
  refine Rg.many 12 [13] (by kernel_rfl) ⟨?_, ?_, trivial⟩
  ·refine bk 12 true true ?_
   refine al c b a0Z fun af a w c b => ?_
   refine WL.nil ?_
   refine r3 (b.tail) ?_
   refine ro 13 true true ?_
   refine al c b a0Z fun ag a w c b => ?_
   refine WL.nil ?_
   refine r3 ((b.tail).tail) ?_
   refine ro 14 true true ?_
   refine so [.A 1,.e] b c fun a w c b => ?_
   refine r3 ((b.tail).tail) ?_
   refine ro 15 true true ?_
   refine so [.A 0,.e] b c fun a w c b => ?_
   refine r3 ((b.tail).tail) ?_
   refine Rg.done (by kernel_rfl) ?_
   exact key _ _ _ _ x n o v C c.pk b
  refine bk 13 true true ?_
  refine al c b a0Z fun ag a w c b => ?_
  refine WL.nil ?_
  refine r3 (b.tail) ?_
  refine ro 12 true true ?_
  refine al c b a0Z fun af a w c b => ?_
  refine WL.nil ?_
  refine r3 ((b.tail).tail) ?_
  refine ro 14 true true ?_
  refine so [.A 0,.e] b c fun a w c b => ?_
  refine r3 ((b.tail).tail) ?_
  refine ro 15 true true ?_
  refine so [.A 1,.e] b c fun a w c b => ?_
  refine r3 ((b.tail).tail) ?_
  refine Rg.done (by kernel_rfl) ?_
  replace b := pm [.F 5,.F 5,.F 5,.F 5,.F 4,.F 5] b
  exact key _ _ _ _ x n o v C c.pk b
 clear c b a w; intro af ag a w x n o v C c b
 subst aR
 refine W.seq ?_
 refine W.gen fun br aW => ?_
 refine rE b [] [] [0, 1, 2, 3, 4, 5, 6, 7] [0, 1, 2, 3, 4, 5, 6, 7] mixed ?_
 replace b := b.drew
 refine sr [.P 0 .p,.T 1 true .n,.P 2 (.f 0),.T 3 true (.C 3 0 3),.T 4 true (.B 1)] c b b fun a c => ?_
 refine ro 5 true true ?_
 obtain ⟨Z, aX, D⟩ := B4 D
 refine fq c (I5 b n o aX) ?_; rintro _ w ⟨bl, rfl, a6, b⟩; refine ⟨_, rfl, fun a c => ?_⟩
 subst a6
 refine WL.nil ?_
 refine r3 b ?_
 refine sr [.P 6 (.v 3 3),.P 7 .p] c b b fun a c => ?_
 refine Rg.done (by kernel_rfl) ?_
 subst aW
 refine sg [.q,.o,.s,.p,.n,.f 4,.b 3,.l 78 11,.p,.p,.e] b c fun a c => ?_
 refine W.cond c rfl (fun ay => ?_) (fun ay => ?_)
 ·replace D := iteT ay D
  refine sg [.s,.p,.p,.e] b c fun a c => ?_
  refine W.ret ?_
  refine fg [_, _] c ?_
  obtain rfl := oi D
  replace b := pm [.D 0,.D 0,.D 0] b
  exact ⟨P, N, y0.promises.length, B, s, rfl, lr, v, (rfl), b⟩
 replace D := iteF ay D
 refine sg [.s,.p,.p,.n,.f 3,.b 3,.p,.p,.e] b c fun a c => ?_
 refine W.cond c rfl (fun az => ?_) (fun az => ?_)
 ·replace D := iteT az D
  refine sg [.s,.p,.p,.e] b c fun a c => ?_
  refine W.ret ?_
  refine fg [_, _] c ?_
  obtain rfl := oi D
  replace b := pm [.D 0,.D 0,.D 0] b
  exact ⟨P, N, y0.promises.length, B, s, rfl, lr, v, (rfl), b⟩
 replace D := iteF az D
 refine sg [.s,.p,.p,.p,.e] b c fun a c => ?_
 refine W.cond c rfl (fun aq => ?_) (fun aq => ?_)
 ·replace D := iteT aq D
  refine sg [.s,.p,.p,.e] b c fun a c => ?_
  refine W.ret ?_
  refine fg [_, _] c ?_
  obtain rfl := oi D
  replace b := pm [.D 0,.D 0,.D 0] b
  exact ⟨P, N, y0.promises.length, B, s, rfl, lr, v, (rfl), b⟩
 replace D := iteF aq D
 refine sg [.s,.p,.p,.p,.p,.e] b c fun a c => ?_
 refine W.cond c rfl (fun ar => ?_) (fun ar => ?_)
 ·replace D := iteT ar D
  refine sg [.s,.p,.p,.e] b c fun a c => ?_
  refine W.ret ?_
  refine fg [_, _] c ?_
  obtain rfl := oi D
  replace b := pm [.D 0,.D 0,.D 0] b
  exact ⟨P, N, y0.promises.length, B, s, rfl, lr, v, (rfl), b⟩
 replace D := iteF ar D
 refine sm [.k,.s,.p,.p,.n,.f 3,.S 3,.e,.q] b c fun a w c b => ?_
 refine W.gen fun aY aG => ?_
 refine rE b [] [] [0, 1, 2, 3, 4, 5, 6, 7, 8, 9, 10, 11, 12, 13, 14] [0, 1, 2, 3, 4, 5, 6, 7, 8, 9, 10, 11, 12, 13, 14] mixed ?_
 replace b := b.drew
 refine sr [.P 0 (.f 0),.T 1 true (.b 2),.P 2 (.l 88 3),.P 4 (.f 0),.T 5 true (.b 2),.P 6 (.l 88 3),.P 8 (.f 0),.T 9 true (.b 2),.P 10 (.l 88 3)] c b b fun a c => ?_
 obtain ⟨d, F, D⟩ := B4 D
 obtain ⟨f, G, D⟩ := B4 D
 obtain ⟨g, H, D⟩ := B4 D
 suffices key : ∀ y z A E j k l (a : Act) (w : World), Ev 1 (RI .i64) s y g → Ev 1 (RI .i64) s z f → Ev 1 RB s A d → Sl 3 A8 s ad aa x1.Rides → Sl 4 A7 s K I y0.net.Day.Trains → Sl 1 (RL 1 (RI .i64)) s L J y0.net.Day.Turns → HEv 11 D0 s B y0.promises → Ev 5 A5 s Y y0.messages → Rep a 123 [(0, pp ae), (4, pp ai), (9, pp af), (10, pp ag), (11, vi Z.Dep), (12, pp E)] → St w s (pc E #[vi 0, vi 0, vi 0, vi 0, vi 0, .slice none 0 0, .slice (some ⟨j, 0, none⟩) d.length d.length, .slice (some ⟨k, 0, none⟩) f.length f.length, .slice (some ⟨l, 0, none⟩) g.length g.length, vi 0, vi 0] 78 :: B2 3 1 (some ⟨l, 0, none⟩) g.length g.length y :: B2 3 1 (some ⟨k, 0, none⟩) f.length f.length z :: B2 4 1 (some ⟨j, 0, none⟩) d.length d.length A :: pc ag (A1.cells ap).toArray 88 :: pc af (A1.cells an).toArray 88 :: pc ai #[.slice ad x1.Rides.length aa] 42 :: pc ae #[.slice K y0.net.Day.Trains.length I, .slice L y0.net.Day.Turns.length J, vi y0.net.least, vi x2, .slice P y0.promises.length N, .slice Q y0.messages.length O] 69 :: M5 78 11 P N y0.promises.length B :: B2 50 5 Q O y0.messages.length Y :: R) → aY.nor a w by
  refine Rg.many 3 [7, 11, 13] (by kernel_rfl) ⟨?_, ?_, ?_, ?_, trivial⟩
  ·refine bk 3 true true ?_
   refine WL.mkD (Rr := RB) c b (A0 rfl) rfl rfl a2d zr4 rfl F rfl fun j A a w p c b => ?_
   refine WL.nil ?_
   refine r3 (b.tail) ?_
   refine Rg.many 7 [11, 13] (by kernel_rfl) ⟨?_, ?_, ?_, trivial⟩
   ·refine bk 7 true true ?_
    refine WL.mkD (Rr := RI .i64) c b (A0 rfl) rfl rfl W6 zr3 rfl G rfl fun k z a w q c b => ?_
    refine WL.nil ?_
    refine r3 ((b.tail).tail) ?_
    refine Rg.many 11 [13] (by kernel_rfl) ⟨?_, ?_, trivial⟩
    ·refine bk 11 true true ?_
     refine WL.mkD (Rr := RI .i64) c b (A0 rfl) rfl rfl W6 zr3 rfl H rfl fun l y a w u c b => ?_
     refine WL.nil ?_
     refine r3 (((b.tail).tail).tail) ?_
     refine tP (i := 12) c rfl (by kernel_rfl) (A6.build c (vs := [(1, .slice (some ⟨j, 0, none⟩) d.length d.length), (2, .slice (some ⟨k, 0, none⟩) f.length f.length), (3, .slice (some ⟨l, 0, none⟩) g.length g.length)]) [vi 0, vi 0, vi 0, vi 0, vi 0, .slice none 0 0, .slice (some ⟨j, 0, none⟩) d.length d.length, .slice (some ⟨k, 0, none⟩) f.length f.length, .slice (some ⟨l, 0, none⟩) g.length g.length, vi 0, vi 0] rfl (by kernel_rfl)) rfl (((b.tail).tail).tail) (((b.tail).tail).tail) fun a c => ?_
     refine ro 13 true true ?_
     refine al c b a2U fun E a w c b => ?_
     refine WL.nil ?_
     refine r3 ((((b.tail).tail).tail).tail) ?_
     refine ro 14 true true ?_
     refine so [.A 0,.e] b c fun a w c b => ?_
     refine r3 ((((b.tail).tail).tail).tail) ?_
     refine Rg.done (by kernel_rfl) ?_
     exact key _ _ _ _ _ _ _ _ _ u q p x n o v C c.pk b
    refine bk 13 true true ?_
    refine al c b a2U fun E a w c b => ?_
    refine WL.nil ?_
    refine r3 (((b.tail).tail).tail) ?_
    refine ro 11 true true ?_
    refine WL.mkD (Rr := RI .i64) c b (A0 rfl) rfl rfl W6 zr3 rfl H rfl fun l y a w u c b => ?_
    refine WL.nil ?_
    refine r3 ((((b.tail).tail).tail).tail) ?_
    refine tP (i := 12) c rfl (by kernel_rfl) (A6.build c (vs := [(1, .slice (some ⟨j, 0, none⟩) d.length d.length), (2, .slice (some ⟨k, 0, none⟩) f.length f.length), (3, .slice (some ⟨l, 0, none⟩) g.length g.length)]) [vi 0, vi 0, vi 0, vi 0, vi 0, .slice none 0 0, .slice (some ⟨j, 0, none⟩) d.length d.length, .slice (some ⟨k, 0, none⟩) f.length f.length, .slice (some ⟨l, 0, none⟩) g.length g.length, vi 0, vi 0] rfl (by kernel_rfl)) rfl ((((b.tail).tail).tail).tail) ((((b.tail).tail).tail).tail) fun a c => ?_
    refine ro 14 true true ?_
    refine so [.A 1,.e] b c fun a w c b => ?_
    refine r3 ((((b.tail).tail).tail).tail) ?_
    refine Rg.done (by kernel_rfl) ?_
    replace b := b.order [1, 0, 0, 0, 0, 0, 0, 0, 0, 0] rfl
    exact key _ _ _ _ _ _ _ _ _ u q p x n o v C c.pk b
   ·refine bk 11 true true ?_
    refine WL.mkD (Rr := RI .i64) c b (A0 rfl) rfl rfl W6 zr3 rfl H rfl fun l y a w u c b => ?_
    refine WL.nil ?_
    refine r3 ((b.tail).tail) ?_
    refine Rg.many 7 [13] (by kernel_rfl) ⟨?_, ?_, trivial⟩
    ·refine bk 7 true true ?_
     refine WL.mkD (Rr := RI .i64) c b (A0 rfl) rfl rfl W6 zr3 rfl G rfl fun k z a w q c b => ?_
     refine WL.nil ?_
     refine r3 (((b.tail).tail).tail) ?_
     refine tP (i := 12) c rfl (by kernel_rfl) (A6.build c (vs := [(1, .slice (some ⟨j, 0, none⟩) d.length d.length), (2, .slice (some ⟨k, 0, none⟩) f.length f.length), (3, .slice (some ⟨l, 0, none⟩) g.length g.length)]) [vi 0, vi 0, vi 0, vi 0, vi 0, .slice none 0 0, .slice (some ⟨j, 0, none⟩) d.length d.length, .slice (some ⟨k, 0, none⟩) f.length f.length, .slice (some ⟨l, 0, none⟩) g.length g.length, vi 0, vi 0] rfl (by kernel_rfl)) rfl (((b.tail).tail).tail) (((b.tail).tail).tail) fun a c => ?_
     refine ro 13 true true ?_
     refine al c b a2U fun E a w c b => ?_
     refine WL.nil ?_
     refine r3 ((((b.tail).tail).tail).tail) ?_
     refine ro 14 true true ?_
     refine so [.A 0,.e] b c fun a w c b => ?_
     refine r3 ((((b.tail).tail).tail).tail) ?_
     refine Rg.done (by kernel_rfl) ?_
     replace b := b.order [0, 1, 0, 0, 0, 0, 0, 0, 0, 0] rfl
     exact key _ _ _ _ _ _ _ _ _ u q p x n o v C c.pk b
    refine bk 13 true true ?_
    refine al c b a2U fun E a w c b => ?_
    refine WL.nil ?_
    refine r3 (((b.tail).tail).tail) ?_
    refine ro 7 true true ?_
    refine WL.mkD (Rr := RI .i64) c b (A0 rfl) rfl rfl W6 zr3 rfl G rfl fun k z a w q c b => ?_
    refine WL.nil ?_
    refine r3 ((((b.tail).tail).tail).tail) ?_
    refine tP (i := 12) c rfl (by kernel_rfl) (A6.build c (vs := [(1, .slice (some ⟨j, 0, none⟩) d.length d.length), (2, .slice (some ⟨k, 0, none⟩) f.length f.length), (3, .slice (some ⟨l, 0, none⟩) g.length g.length)]) [vi 0, vi 0, vi 0, vi 0, vi 0, .slice none 0 0, .slice (some ⟨j, 0, none⟩) d.length d.length, .slice (some ⟨k, 0, none⟩) f.length f.length, .slice (some ⟨l, 0, none⟩) g.length g.length, vi 0, vi 0] rfl (by kernel_rfl)) rfl ((((b.tail).tail).tail).tail) ((((b.tail).tail).tail).tail) fun a c => ?_
    refine ro 14 true true ?_
    refine so [.A 1,.e] b c fun a w c b => ?_
    refine r3 ((((b.tail).tail).tail).tail) ?_
    refine Rg.done (by kernel_rfl) ?_
    replace b := b.order [1, 1, 0, 0, 0, 0, 0, 0, 0, 0] rfl
    exact key _ _ _ _ _ _ _ _ _ u q p x n o v C c.pk b
   refine bk 13 true true ?_
   refine al c b a2U fun E a w c b => ?_
   refine WL.nil ?_
   refine r3 ((b.tail).tail) ?_
   refine Rg.many 7 [11] (by kernel_rfl) ⟨?_, ?_, trivial⟩
   ·refine bk 7 true true ?_
    refine WL.mkD (Rr := RI .i64) c b (A0 rfl) rfl rfl W6 zr3 rfl G rfl fun k z a w q c b => ?_
    refine WL.nil ?_
    refine r3 (((b.tail).tail).tail) ?_
    refine ro 11 true true ?_
    refine WL.mkD (Rr := RI .i64) c b (A0 rfl) rfl rfl W6 zr3 rfl H rfl fun l y a w u c b => ?_
    refine WL.nil ?_
    refine r3 ((((b.tail).tail).tail).tail) ?_
    refine tP (i := 12) c rfl (by kernel_rfl) (A6.build c (vs := [(1, .slice (some ⟨j, 0, none⟩) d.length d.length), (2, .slice (some ⟨k, 0, none⟩) f.length f.length), (3, .slice (some ⟨l, 0, none⟩) g.length g.length)]) [vi 0, vi 0, vi 0, vi 0, vi 0, .slice none 0 0, .slice (some ⟨j, 0, none⟩) d.length d.length, .slice (some ⟨k, 0, none⟩) f.length f.length, .slice (some ⟨l, 0, none⟩) g.length g.length, vi 0, vi 0] rfl (by kernel_rfl)) rfl ((((b.tail).tail).tail).tail) ((((b.tail).tail).tail).tail) fun a c => ?_
    refine ro 14 true true ?_
    refine so [.A 2,.e] b c fun a w c b => ?_
    refine r3 ((((b.tail).tail).tail).tail) ?_
    refine Rg.done (by kernel_rfl) ?_
    replace b := b.order [2, 0, 0, 0, 0, 0, 0, 0, 0, 0] rfl
    exact key _ _ _ _ _ _ _ _ _ u q p x n o v C c.pk b
   refine bk 11 true true ?_
   refine WL.mkD (Rr := RI .i64) c b (A0 rfl) rfl rfl W6 zr3 rfl H rfl fun l y a w u c b => ?_
   refine WL.nil ?_
   refine r3 (((b.tail).tail).tail) ?_
   refine ro 7 true true ?_
   refine WL.mkD (Rr := RI .i64) c b (A0 rfl) rfl rfl W6 zr3 rfl G rfl fun k z a w q c b => ?_
   refine WL.nil ?_
   refine r3 ((((b.tail).tail).tail).tail) ?_
   refine tP (i := 12) c rfl (by kernel_rfl) (A6.build c (vs := [(1, .slice (some ⟨j, 0, none⟩) d.length d.length), (2, .slice (some ⟨k, 0, none⟩) f.length f.length), (3, .slice (some ⟨l, 0, none⟩) g.length g.length)]) [vi 0, vi 0, vi 0, vi 0, vi 0, .slice none 0 0, .slice (some ⟨j, 0, none⟩) d.length d.length, .slice (some ⟨k, 0, none⟩) f.length f.length, .slice (some ⟨l, 0, none⟩) g.length g.length, vi 0, vi 0] rfl (by kernel_rfl)) rfl ((((b.tail).tail).tail).tail) ((((b.tail).tail).tail).tail) fun a c => ?_
   refine ro 14 true true ?_
   refine so [.A 2,.e] b c fun a w c b => ?_
   refine r3 ((((b.tail).tail).tail).tail) ?_
   refine Rg.done (by kernel_rfl) ?_
   replace b := b.order [2, 1, 0, 0, 0, 0, 0, 0, 0, 0] rfl
   exact key _ _ _ _ _ _ _ _ _ u q p x n o v C c.pk b
  ·refine bk 7 true true ?_
   refine WL.mkD (Rr := RI .i64) c b (A0 rfl) rfl rfl W6 zr3 rfl G rfl fun k z a w q c b => ?_
   refine WL.nil ?_
   refine r3 (b.tail) ?_
   refine Rg.many 3 [11, 13] (by kernel_rfl) ⟨?_, ?_, ?_, trivial⟩
   ·refine bk 3 true true ?_
    refine WL.mkD (Rr := RB) c b (A0 rfl) rfl rfl a2d zr4 rfl F rfl fun j A a w p c b => ?_
    refine WL.nil ?_
    refine r3 ((b.tail).tail) ?_
    refine Rg.many 11 [13] (by kernel_rfl) ⟨?_, ?_, trivial⟩
    ·refine bk 11 true true ?_
     refine WL.mkD (Rr := RI .i64) c b (A0 rfl) rfl rfl W6 zr3 rfl H rfl fun l y a w u c b => ?_
     refine WL.nil ?_
     refine r3 (((b.tail).tail).tail) ?_
     refine tP (i := 12) c rfl (by kernel_rfl) (A6.build c (vs := [(1, .slice (some ⟨j, 0, none⟩) d.length d.length), (2, .slice (some ⟨k, 0, none⟩) f.length f.length), (3, .slice (some ⟨l, 0, none⟩) g.length g.length)]) [vi 0, vi 0, vi 0, vi 0, vi 0, .slice none 0 0, .slice (some ⟨j, 0, none⟩) d.length d.length, .slice (some ⟨k, 0, none⟩) f.length f.length, .slice (some ⟨l, 0, none⟩) g.length g.length, vi 0, vi 0] rfl (by kernel_rfl)) rfl (((b.tail).tail).tail) (((b.tail).tail).tail) fun a c => ?_
     refine ro 13 true true ?_
     refine al c b a2U fun E a w c b => ?_
     refine WL.nil ?_
     refine r3 ((((b.tail).tail).tail).tail) ?_
     refine ro 14 true true ?_
     refine so [.A 0,.e] b c fun a w c b => ?_
     refine r3 ((((b.tail).tail).tail).tail) ?_
     refine Rg.done (by kernel_rfl) ?_
     replace b := b.order [0, 0, 1, 0, 0, 0, 0, 0, 0, 0] rfl
     exact key _ _ _ _ _ _ _ _ _ u q p x n o v C c.pk b
    refine bk 13 true true ?_
    refine al c b a2U fun E a w c b => ?_
    refine WL.nil ?_
    refine r3 (((b.tail).tail).tail) ?_
    refine ro 11 true true ?_
    refine WL.mkD (Rr := RI .i64) c b (A0 rfl) rfl rfl W6 zr3 rfl H rfl fun l y a w u c b => ?_
    refine WL.nil ?_
    refine r3 ((((b.tail).tail).tail).tail) ?_
    refine tP (i := 12) c rfl (by kernel_rfl) (A6.build c (vs := [(1, .slice (some ⟨j, 0, none⟩) d.length d.length), (2, .slice (some ⟨k, 0, none⟩) f.length f.length), (3, .slice (some ⟨l, 0, none⟩) g.length g.length)]) [vi 0, vi 0, vi 0, vi 0, vi 0, .slice none 0 0, .slice (some ⟨j, 0, none⟩) d.length d.length, .slice (some ⟨k, 0, none⟩) f.length f.length, .slice (some ⟨l, 0, none⟩) g.length g.length, vi 0, vi 0] rfl (by kernel_rfl)) rfl ((((b.tail).tail).tail).tail) ((((b.tail).tail).tail).tail) fun a c => ?_
    refine ro 14 true true ?_
    refine so [.A 1,.e] b c fun a w c b => ?_
    refine r3 ((((b.tail).tail).tail).tail) ?_
    refine Rg.done (by kernel_rfl) ?_
    replace b := b.order [1, 0, 1, 0, 0, 0, 0, 0, 0, 0] rfl
    exact key _ _ _ _ _ _ _ _ _ u q p x n o v C c.pk b
   ·refine bk 11 true true ?_
    refine WL.mkD (Rr := RI .i64) c b (A0 rfl) rfl rfl W6 zr3 rfl H rfl fun l y a w u c b => ?_
    refine WL.nil ?_
    refine r3 ((b.tail).tail) ?_
    refine Rg.many 3 [13] (by kernel_rfl) ⟨?_, ?_, trivial⟩
    ·refine bk 3 true true ?_
     refine WL.mkD (Rr := RB) c b (A0 rfl) rfl rfl a2d zr4 rfl F rfl fun j A a w p c b => ?_
     refine WL.nil ?_
     refine r3 (((b.tail).tail).tail) ?_
     refine tP (i := 12) c rfl (by kernel_rfl) (A6.build c (vs := [(1, .slice (some ⟨j, 0, none⟩) d.length d.length), (2, .slice (some ⟨k, 0, none⟩) f.length f.length), (3, .slice (some ⟨l, 0, none⟩) g.length g.length)]) [vi 0, vi 0, vi 0, vi 0, vi 0, .slice none 0 0, .slice (some ⟨j, 0, none⟩) d.length d.length, .slice (some ⟨k, 0, none⟩) f.length f.length, .slice (some ⟨l, 0, none⟩) g.length g.length, vi 0, vi 0] rfl (by kernel_rfl)) rfl (((b.tail).tail).tail) (((b.tail).tail).tail) fun a c => ?_
     refine ro 13 true true ?_
     refine al c b a2U fun E a w c b => ?_
     refine WL.nil ?_
     refine r3 ((((b.tail).tail).tail).tail) ?_
     refine ro 14 true true ?_
     refine so [.A 0,.e] b c fun a w c b => ?_
     refine r3 ((((b.tail).tail).tail).tail) ?_
     refine Rg.done (by kernel_rfl) ?_
     replace b := b.order [0, 1, 1, 0, 0, 0, 0, 0, 0, 0] rfl
     exact key _ _ _ _ _ _ _ _ _ u q p x n o v C c.pk b
    refine bk 13 true true ?_
    refine al c b a2U fun E a w c b => ?_
    refine WL.nil ?_
    refine r3 (((b.tail).tail).tail) ?_
    refine ro 3 true true ?_
    refine WL.mkD (Rr := RB) c b (A0 rfl) rfl rfl a2d zr4 rfl F rfl fun j A a w p c b => ?_
    refine WL.nil ?_
    refine r3 ((((b.tail).tail).tail).tail) ?_
    refine tP (i := 12) c rfl (by kernel_rfl) (A6.build c (vs := [(1, .slice (some ⟨j, 0, none⟩) d.length d.length), (2, .slice (some ⟨k, 0, none⟩) f.length f.length), (3, .slice (some ⟨l, 0, none⟩) g.length g.length)]) [vi 0, vi 0, vi 0, vi 0, vi 0, .slice none 0 0, .slice (some ⟨j, 0, none⟩) d.length d.length, .slice (some ⟨k, 0, none⟩) f.length f.length, .slice (some ⟨l, 0, none⟩) g.length g.length, vi 0, vi 0] rfl (by kernel_rfl)) rfl ((((b.tail).tail).tail).tail) ((((b.tail).tail).tail).tail) fun a c => ?_
    refine ro 14 true true ?_
    refine so [.A 1,.e] b c fun a w c b => ?_
    refine r3 ((((b.tail).tail).tail).tail) ?_
    refine Rg.done (by kernel_rfl) ?_
    replace b := b.order [1, 1, 1, 0, 0, 0, 0, 0, 0, 0] rfl
    exact key _ _ _ _ _ _ _ _ _ u q p x n o v C c.pk b
   refine bk 13 true true ?_
   refine al c b a2U fun E a w c b => ?_
   refine WL.nil ?_
   refine r3 ((b.tail).tail) ?_
   refine Rg.many 3 [11] (by kernel_rfl) ⟨?_, ?_, trivial⟩
   ·refine bk 3 true true ?_
    refine WL.mkD (Rr := RB) c b (A0 rfl) rfl rfl a2d zr4 rfl F rfl fun j A a w p c b => ?_
    refine WL.nil ?_
    refine r3 (((b.tail).tail).tail) ?_
    refine ro 11 true true ?_
    refine WL.mkD (Rr := RI .i64) c b (A0 rfl) rfl rfl W6 zr3 rfl H rfl fun l y a w u c b => ?_
    refine WL.nil ?_
    refine r3 ((((b.tail).tail).tail).tail) ?_
    refine tP (i := 12) c rfl (by kernel_rfl) (A6.build c (vs := [(1, .slice (some ⟨j, 0, none⟩) d.length d.length), (2, .slice (some ⟨k, 0, none⟩) f.length f.length), (3, .slice (some ⟨l, 0, none⟩) g.length g.length)]) [vi 0, vi 0, vi 0, vi 0, vi 0, .slice none 0 0, .slice (some ⟨j, 0, none⟩) d.length d.length, .slice (some ⟨k, 0, none⟩) f.length f.length, .slice (some ⟨l, 0, none⟩) g.length g.length, vi 0, vi 0] rfl (by kernel_rfl)) rfl ((((b.tail).tail).tail).tail) ((((b.tail).tail).tail).tail) fun a c => ?_
    refine ro 14 true true ?_
    refine so [.A 2,.e] b c fun a w c b => ?_
    refine r3 ((((b.tail).tail).tail).tail) ?_
    refine Rg.done (by kernel_rfl) ?_
    replace b := b.order [2, 0, 1, 0, 0, 0, 0, 0, 0, 0] rfl
    exact key _ _ _ _ _ _ _ _ _ u q p x n o v C c.pk b
   refine bk 11 true true ?_
   refine WL.mkD (Rr := RI .i64) c b (A0 rfl) rfl rfl W6 zr3 rfl H rfl fun l y a w u c b => ?_
   refine WL.nil ?_
   refine r3 (((b.tail).tail).tail) ?_
   refine ro 3 true true ?_
   refine WL.mkD (Rr := RB) c b (A0 rfl) rfl rfl a2d zr4 rfl F rfl fun j A a w p c b => ?_
   refine WL.nil ?_
   refine r3 ((((b.tail).tail).tail).tail) ?_
   refine tP (i := 12) c rfl (by kernel_rfl) (A6.build c (vs := [(1, .slice (some ⟨j, 0, none⟩) d.length d.length), (2, .slice (some ⟨k, 0, none⟩) f.length f.length), (3, .slice (some ⟨l, 0, none⟩) g.length g.length)]) [vi 0, vi 0, vi 0, vi 0, vi 0, .slice none 0 0, .slice (some ⟨j, 0, none⟩) d.length d.length, .slice (some ⟨k, 0, none⟩) f.length f.length, .slice (some ⟨l, 0, none⟩) g.length g.length, vi 0, vi 0] rfl (by kernel_rfl)) rfl ((((b.tail).tail).tail).tail) ((((b.tail).tail).tail).tail) fun a c => ?_
   refine ro 14 true true ?_
   refine so [.A 2,.e] b c fun a w c b => ?_
   refine r3 ((((b.tail).tail).tail).tail) ?_
   refine Rg.done (by kernel_rfl) ?_
   replace b := b.order [2, 1, 1, 0, 0, 0, 0, 0, 0, 0] rfl
   exact key _ _ _ _ _ _ _ _ _ u q p x n o v C c.pk b
  ·refine bk 11 true true ?_
   refine WL.mkD (Rr := RI .i64) c b (A0 rfl) rfl rfl W6 zr3 rfl H rfl fun l y a w u c b => ?_
   refine WL.nil ?_
   refine r3 (b.tail) ?_
   refine Rg.many 3 [7, 13] (by kernel_rfl) ⟨?_, ?_, ?_, trivial⟩
   ·refine bk 3 true true ?_
    refine WL.mkD (Rr := RB) c b (A0 rfl) rfl rfl a2d zr4 rfl F rfl fun j A a w p c b => ?_
    refine WL.nil ?_
    refine r3 ((b.tail).tail) ?_
    refine Rg.many 7 [13] (by kernel_rfl) ⟨?_, ?_, trivial⟩
    ·refine bk 7 true true ?_
     refine WL.mkD (Rr := RI .i64) c b (A0 rfl) rfl rfl W6 zr3 rfl G rfl fun k z a w q c b => ?_
     refine WL.nil ?_
     refine r3 (((b.tail).tail).tail) ?_
     refine tP (i := 12) c rfl (by kernel_rfl) (A6.build c (vs := [(1, .slice (some ⟨j, 0, none⟩) d.length d.length), (2, .slice (some ⟨k, 0, none⟩) f.length f.length), (3, .slice (some ⟨l, 0, none⟩) g.length g.length)]) [vi 0, vi 0, vi 0, vi 0, vi 0, .slice none 0 0, .slice (some ⟨j, 0, none⟩) d.length d.length, .slice (some ⟨k, 0, none⟩) f.length f.length, .slice (some ⟨l, 0, none⟩) g.length g.length, vi 0, vi 0] rfl (by kernel_rfl)) rfl (((b.tail).tail).tail) (((b.tail).tail).tail) fun a c => ?_
     refine ro 13 true true ?_
     refine al c b a2U fun E a w c b => ?_
     refine WL.nil ?_
     refine r3 ((((b.tail).tail).tail).tail) ?_
     refine ro 14 true true ?_
     refine so [.A 0,.e] b c fun a w c b => ?_
     refine r3 ((((b.tail).tail).tail).tail) ?_
     refine Rg.done (by kernel_rfl) ?_
     replace b := b.order [0, 2, 0, 0, 0, 0, 0, 0, 0, 0] rfl
     exact key _ _ _ _ _ _ _ _ _ u q p x n o v C c.pk b
    refine bk 13 true true ?_
    refine al c b a2U fun E a w c b => ?_
    refine WL.nil ?_
    refine r3 (((b.tail).tail).tail) ?_
    refine ro 7 true true ?_
    refine WL.mkD (Rr := RI .i64) c b (A0 rfl) rfl rfl W6 zr3 rfl G rfl fun k z a w q c b => ?_
    refine WL.nil ?_
    refine r3 ((((b.tail).tail).tail).tail) ?_
    refine tP (i := 12) c rfl (by kernel_rfl) (A6.build c (vs := [(1, .slice (some ⟨j, 0, none⟩) d.length d.length), (2, .slice (some ⟨k, 0, none⟩) f.length f.length), (3, .slice (some ⟨l, 0, none⟩) g.length g.length)]) [vi 0, vi 0, vi 0, vi 0, vi 0, .slice none 0 0, .slice (some ⟨j, 0, none⟩) d.length d.length, .slice (some ⟨k, 0, none⟩) f.length f.length, .slice (some ⟨l, 0, none⟩) g.length g.length, vi 0, vi 0] rfl (by kernel_rfl)) rfl ((((b.tail).tail).tail).tail) ((((b.tail).tail).tail).tail) fun a c => ?_
    refine ro 14 true true ?_
    refine so [.A 1,.e] b c fun a w c b => ?_
    refine r3 ((((b.tail).tail).tail).tail) ?_
    refine Rg.done (by kernel_rfl) ?_
    replace b := b.order [1, 2, 0, 0, 0, 0, 0, 0, 0, 0] rfl
    exact key _ _ _ _ _ _ _ _ _ u q p x n o v C c.pk b
   ·refine bk 7 true true ?_
    refine WL.mkD (Rr := RI .i64) c b (A0 rfl) rfl rfl W6 zr3 rfl G rfl fun k z a w q c b => ?_
    refine WL.nil ?_
    refine r3 ((b.tail).tail) ?_
    refine Rg.many 3 [13] (by kernel_rfl) ⟨?_, ?_, trivial⟩
    ·refine bk 3 true true ?_
     refine WL.mkD (Rr := RB) c b (A0 rfl) rfl rfl a2d zr4 rfl F rfl fun j A a w p c b => ?_
     refine WL.nil ?_
     refine r3 (((b.tail).tail).tail) ?_
     refine tP (i := 12) c rfl (by kernel_rfl) (A6.build c (vs := [(1, .slice (some ⟨j, 0, none⟩) d.length d.length), (2, .slice (some ⟨k, 0, none⟩) f.length f.length), (3, .slice (some ⟨l, 0, none⟩) g.length g.length)]) [vi 0, vi 0, vi 0, vi 0, vi 0, .slice none 0 0, .slice (some ⟨j, 0, none⟩) d.length d.length, .slice (some ⟨k, 0, none⟩) f.length f.length, .slice (some ⟨l, 0, none⟩) g.length g.length, vi 0, vi 0] rfl (by kernel_rfl)) rfl (((b.tail).tail).tail) (((b.tail).tail).tail) fun a c => ?_
     refine ro 13 true true ?_
     refine al c b a2U fun E a w c b => ?_
     refine WL.nil ?_
     refine r3 ((((b.tail).tail).tail).tail) ?_
     refine ro 14 true true ?_
     refine so [.A 0,.e] b c fun a w c b => ?_
     refine r3 ((((b.tail).tail).tail).tail) ?_
     refine Rg.done (by kernel_rfl) ?_
     replace b := b.order [0, 2, 1, 0, 0, 0, 0, 0, 0, 0] rfl
     exact key _ _ _ _ _ _ _ _ _ u q p x n o v C c.pk b
    refine bk 13 true true ?_
    refine al c b a2U fun E a w c b => ?_
    refine WL.nil ?_
    refine r3 (((b.tail).tail).tail) ?_
    refine ro 3 true true ?_
    refine WL.mkD (Rr := RB) c b (A0 rfl) rfl rfl a2d zr4 rfl F rfl fun j A a w p c b => ?_
    refine WL.nil ?_
    refine r3 ((((b.tail).tail).tail).tail) ?_
    refine tP (i := 12) c rfl (by kernel_rfl) (A6.build c (vs := [(1, .slice (some ⟨j, 0, none⟩) d.length d.length), (2, .slice (some ⟨k, 0, none⟩) f.length f.length), (3, .slice (some ⟨l, 0, none⟩) g.length g.length)]) [vi 0, vi 0, vi 0, vi 0, vi 0, .slice none 0 0, .slice (some ⟨j, 0, none⟩) d.length d.length, .slice (some ⟨k, 0, none⟩) f.length f.length, .slice (some ⟨l, 0, none⟩) g.length g.length, vi 0, vi 0] rfl (by kernel_rfl)) rfl ((((b.tail).tail).tail).tail) ((((b.tail).tail).tail).tail) fun a c => ?_
    refine ro 14 true true ?_
    refine so [.A 1,.e] b c fun a w c b => ?_
    refine r3 ((((b.tail).tail).tail).tail) ?_
    refine Rg.done (by kernel_rfl) ?_
    replace b := b.order [1, 2, 1, 0, 0, 0, 0, 0, 0, 0] rfl
    exact key _ _ _ _ _ _ _ _ _ u q p x n o v C c.pk b
   refine bk 13 true true ?_
   refine al c b a2U fun E a w c b => ?_
   refine WL.nil ?_
   refine r3 ((b.tail).tail) ?_
   refine Rg.many 3 [7] (by kernel_rfl) ⟨?_, ?_, trivial⟩
   ·refine bk 3 true true ?_
    refine WL.mkD (Rr := RB) c b (A0 rfl) rfl rfl a2d zr4 rfl F rfl fun j A a w p c b => ?_
    refine WL.nil ?_
    refine r3 (((b.tail).tail).tail) ?_
    refine ro 7 true true ?_
    refine WL.mkD (Rr := RI .i64) c b (A0 rfl) rfl rfl W6 zr3 rfl G rfl fun k z a w q c b => ?_
    refine WL.nil ?_
    refine r3 ((((b.tail).tail).tail).tail) ?_
    refine tP (i := 12) c rfl (by kernel_rfl) (A6.build c (vs := [(1, .slice (some ⟨j, 0, none⟩) d.length d.length), (2, .slice (some ⟨k, 0, none⟩) f.length f.length), (3, .slice (some ⟨l, 0, none⟩) g.length g.length)]) [vi 0, vi 0, vi 0, vi 0, vi 0, .slice none 0 0, .slice (some ⟨j, 0, none⟩) d.length d.length, .slice (some ⟨k, 0, none⟩) f.length f.length, .slice (some ⟨l, 0, none⟩) g.length g.length, vi 0, vi 0] rfl (by kernel_rfl)) rfl ((((b.tail).tail).tail).tail) ((((b.tail).tail).tail).tail) fun a c => ?_
    refine ro 14 true true ?_
    refine so [.A 2,.e] b c fun a w c b => ?_
    refine r3 ((((b.tail).tail).tail).tail) ?_
    refine Rg.done (by kernel_rfl) ?_
    replace b := b.order [2, 2, 0, 0, 0, 0, 0, 0, 0, 0] rfl
    exact key _ _ _ _ _ _ _ _ _ u q p x n o v C c.pk b
   refine bk 7 true true ?_
   refine WL.mkD (Rr := RI .i64) c b (A0 rfl) rfl rfl W6 zr3 rfl G rfl fun k z a w q c b => ?_
   refine WL.nil ?_
   refine r3 (((b.tail).tail).tail) ?_
   refine ro 3 true true ?_
   refine WL.mkD (Rr := RB) c b (A0 rfl) rfl rfl a2d zr4 rfl F rfl fun j A a w p c b => ?_
   refine WL.nil ?_
   refine r3 ((((b.tail).tail).tail).tail) ?_
   refine tP (i := 12) c rfl (by kernel_rfl) (A6.build c (vs := [(1, .slice (some ⟨j, 0, none⟩) d.length d.length), (2, .slice (some ⟨k, 0, none⟩) f.length f.length), (3, .slice (some ⟨l, 0, none⟩) g.length g.length)]) [vi 0, vi 0, vi 0, vi 0, vi 0, .slice none 0 0, .slice (some ⟨j, 0, none⟩) d.length d.length, .slice (some ⟨k, 0, none⟩) f.length f.length, .slice (some ⟨l, 0, none⟩) g.length g.length, vi 0, vi 0] rfl (by kernel_rfl)) rfl ((((b.tail).tail).tail).tail) ((((b.tail).tail).tail).tail) fun a c => ?_
   refine ro 14 true true ?_
   refine so [.A 2,.e] b c fun a w c b => ?_
   refine r3 ((((b.tail).tail).tail).tail) ?_
   refine Rg.done (by kernel_rfl) ?_
   replace b := b.order [2, 2, 1, 0, 0, 0, 0, 0, 0, 0] rfl
   exact key _ _ _ _ _ _ _ _ _ u q p x n o v C c.pk b
  refine bk 13 true true ?_
  refine al c b a2U fun E a w c b => ?_
  refine WL.nil ?_
  refine r3 (b.tail) ?_
  refine Rg.many 3 [7, 11] (by kernel_rfl) ⟨?_, ?_, ?_, trivial⟩
  ·refine bk 3 true true ?_
   refine WL.mkD (Rr := RB) c b (A0 rfl) rfl rfl a2d zr4 rfl F rfl fun j A a w p c b => ?_
   refine WL.nil ?_
   refine r3 ((b.tail).tail) ?_
   refine Rg.many 7 [11] (by kernel_rfl) ⟨?_, ?_, trivial⟩
   ·refine bk 7 true true ?_
    refine WL.mkD (Rr := RI .i64) c b (A0 rfl) rfl rfl W6 zr3 rfl G rfl fun k z a w q c b => ?_
    refine WL.nil ?_
    refine r3 (((b.tail).tail).tail) ?_
    refine ro 11 true true ?_
    refine WL.mkD (Rr := RI .i64) c b (A0 rfl) rfl rfl W6 zr3 rfl H rfl fun l y a w u c b => ?_
    refine WL.nil ?_
    refine r3 ((((b.tail).tail).tail).tail) ?_
    refine tP (i := 12) c rfl (by kernel_rfl) (A6.build c (vs := [(1, .slice (some ⟨j, 0, none⟩) d.length d.length), (2, .slice (some ⟨k, 0, none⟩) f.length f.length), (3, .slice (some ⟨l, 0, none⟩) g.length g.length)]) [vi 0, vi 0, vi 0, vi 0, vi 0, .slice none 0 0, .slice (some ⟨j, 0, none⟩) d.length d.length, .slice (some ⟨k, 0, none⟩) f.length f.length, .slice (some ⟨l, 0, none⟩) g.length g.length, vi 0, vi 0] rfl (by kernel_rfl)) rfl ((((b.tail).tail).tail).tail) ((((b.tail).tail).tail).tail) fun a c => ?_
    refine ro 14 true true ?_
    refine so [.A 3,.e] b c fun a w c b => ?_
    refine r3 ((((b.tail).tail).tail).tail) ?_
    refine Rg.done (by kernel_rfl) ?_
    replace b := b.order [3, 0, 0, 0, 0, 0, 0, 0, 0, 0] rfl
    exact key _ _ _ _ _ _ _ _ _ u q p x n o v C c.pk b
   refine bk 11 true true ?_
   refine WL.mkD (Rr := RI .i64) c b (A0 rfl) rfl rfl W6 zr3 rfl H rfl fun l y a w u c b => ?_
   refine WL.nil ?_
   refine r3 (((b.tail).tail).tail) ?_
   refine ro 7 true true ?_
   refine WL.mkD (Rr := RI .i64) c b (A0 rfl) rfl rfl W6 zr3 rfl G rfl fun k z a w q c b => ?_
   refine WL.nil ?_
   refine r3 ((((b.tail).tail).tail).tail) ?_
   refine tP (i := 12) c rfl (by kernel_rfl) (A6.build c (vs := [(1, .slice (some ⟨j, 0, none⟩) d.length d.length), (2, .slice (some ⟨k, 0, none⟩) f.length f.length), (3, .slice (some ⟨l, 0, none⟩) g.length g.length)]) [vi 0, vi 0, vi 0, vi 0, vi 0, .slice none 0 0, .slice (some ⟨j, 0, none⟩) d.length d.length, .slice (some ⟨k, 0, none⟩) f.length f.length, .slice (some ⟨l, 0, none⟩) g.length g.length, vi 0, vi 0] rfl (by kernel_rfl)) rfl ((((b.tail).tail).tail).tail) ((((b.tail).tail).tail).tail) fun a c => ?_
   refine ro 14 true true ?_
   refine so [.A 3,.e] b c fun a w c b => ?_
   refine r3 ((((b.tail).tail).tail).tail) ?_
   refine Rg.done (by kernel_rfl) ?_
   replace b := b.order [3, 1, 0, 0, 0, 0, 0, 0, 0, 0] rfl
   exact key _ _ _ _ _ _ _ _ _ u q p x n o v C c.pk b
  ·refine bk 7 true true ?_
   refine WL.mkD (Rr := RI .i64) c b (A0 rfl) rfl rfl W6 zr3 rfl G rfl fun k z a w q c b => ?_
   refine WL.nil ?_
   refine r3 ((b.tail).tail) ?_
   refine Rg.many 3 [11] (by kernel_rfl) ⟨?_, ?_, trivial⟩
   ·refine bk 3 true true ?_
    refine WL.mkD (Rr := RB) c b (A0 rfl) rfl rfl a2d zr4 rfl F rfl fun j A a w p c b => ?_
    refine WL.nil ?_
    refine r3 (((b.tail).tail).tail) ?_
    refine ro 11 true true ?_
    refine WL.mkD (Rr := RI .i64) c b (A0 rfl) rfl rfl W6 zr3 rfl H rfl fun l y a w u c b => ?_
    refine WL.nil ?_
    refine r3 ((((b.tail).tail).tail).tail) ?_
    refine tP (i := 12) c rfl (by kernel_rfl) (A6.build c (vs := [(1, .slice (some ⟨j, 0, none⟩) d.length d.length), (2, .slice (some ⟨k, 0, none⟩) f.length f.length), (3, .slice (some ⟨l, 0, none⟩) g.length g.length)]) [vi 0, vi 0, vi 0, vi 0, vi 0, .slice none 0 0, .slice (some ⟨j, 0, none⟩) d.length d.length, .slice (some ⟨k, 0, none⟩) f.length f.length, .slice (some ⟨l, 0, none⟩) g.length g.length, vi 0, vi 0] rfl (by kernel_rfl)) rfl ((((b.tail).tail).tail).tail) ((((b.tail).tail).tail).tail) fun a c => ?_
    refine ro 14 true true ?_
    refine so [.A 3,.e] b c fun a w c b => ?_
    refine r3 ((((b.tail).tail).tail).tail) ?_
    refine Rg.done (by kernel_rfl) ?_
    replace b := b.order [3, 0, 1, 0, 0, 0, 0, 0, 0, 0] rfl
    exact key _ _ _ _ _ _ _ _ _ u q p x n o v C c.pk b
   refine bk 11 true true ?_
   refine WL.mkD (Rr := RI .i64) c b (A0 rfl) rfl rfl W6 zr3 rfl H rfl fun l y a w u c b => ?_
   refine WL.nil ?_
   refine r3 (((b.tail).tail).tail) ?_
   refine ro 3 true true ?_
   refine WL.mkD (Rr := RB) c b (A0 rfl) rfl rfl a2d zr4 rfl F rfl fun j A a w p c b => ?_
   refine WL.nil ?_
   refine r3 ((((b.tail).tail).tail).tail) ?_
   refine tP (i := 12) c rfl (by kernel_rfl) (A6.build c (vs := [(1, .slice (some ⟨j, 0, none⟩) d.length d.length), (2, .slice (some ⟨k, 0, none⟩) f.length f.length), (3, .slice (some ⟨l, 0, none⟩) g.length g.length)]) [vi 0, vi 0, vi 0, vi 0, vi 0, .slice none 0 0, .slice (some ⟨j, 0, none⟩) d.length d.length, .slice (some ⟨k, 0, none⟩) f.length f.length, .slice (some ⟨l, 0, none⟩) g.length g.length, vi 0, vi 0] rfl (by kernel_rfl)) rfl ((((b.tail).tail).tail).tail) ((((b.tail).tail).tail).tail) fun a c => ?_
   refine ro 14 true true ?_
   refine so [.A 3,.e] b c fun a w c b => ?_
   refine r3 ((((b.tail).tail).tail).tail) ?_
   refine Rg.done (by kernel_rfl) ?_
   replace b := b.order [3, 1, 1, 0, 0, 0, 0, 0, 0, 0] rfl
   exact key _ _ _ _ _ _ _ _ _ u q p x n o v C c.pk b
  refine bk 11 true true ?_
  refine WL.mkD (Rr := RI .i64) c b (A0 rfl) rfl rfl W6 zr3 rfl H rfl fun l y a w u c b => ?_
  refine WL.nil ?_
  refine r3 ((b.tail).tail) ?_
  refine Rg.many 3 [7] (by kernel_rfl) ⟨?_, ?_, trivial⟩
  ·refine bk 3 true true ?_
   refine WL.mkD (Rr := RB) c b (A0 rfl) rfl rfl a2d zr4 rfl F rfl fun j A a w p c b => ?_
   refine WL.nil ?_
   refine r3 (((b.tail).tail).tail) ?_
   refine ro 7 true true ?_
   refine WL.mkD (Rr := RI .i64) c b (A0 rfl) rfl rfl W6 zr3 rfl G rfl fun k z a w q c b => ?_
   refine WL.nil ?_
   refine r3 ((((b.tail).tail).tail).tail) ?_
   refine tP (i := 12) c rfl (by kernel_rfl) (A6.build c (vs := [(1, .slice (some ⟨j, 0, none⟩) d.length d.length), (2, .slice (some ⟨k, 0, none⟩) f.length f.length), (3, .slice (some ⟨l, 0, none⟩) g.length g.length)]) [vi 0, vi 0, vi 0, vi 0, vi 0, .slice none 0 0, .slice (some ⟨j, 0, none⟩) d.length d.length, .slice (some ⟨k, 0, none⟩) f.length f.length, .slice (some ⟨l, 0, none⟩) g.length g.length, vi 0, vi 0] rfl (by kernel_rfl)) rfl ((((b.tail).tail).tail).tail) ((((b.tail).tail).tail).tail) fun a c => ?_
   refine ro 14 true true ?_
   refine so [.A 3,.e] b c fun a w c b => ?_
   refine r3 ((((b.tail).tail).tail).tail) ?_
   refine Rg.done (by kernel_rfl) ?_
   replace b := b.order [3, 2, 0, 0, 0, 0, 0, 0, 0, 0] rfl
   exact key _ _ _ _ _ _ _ _ _ u q p x n o v C c.pk b
  refine bk 7 true true ?_
  refine WL.mkD (Rr := RI .i64) c b (A0 rfl) rfl rfl W6 zr3 rfl G rfl fun k z a w q c b => ?_
  refine WL.nil ?_
  refine r3 (((b.tail).tail).tail) ?_
  refine ro 3 true true ?_
  refine WL.mkD (Rr := RB) c b (A0 rfl) rfl rfl a2d zr4 rfl F rfl fun j A a w p c b => ?_
  refine WL.nil ?_
  refine r3 ((((b.tail).tail).tail).tail) ?_
  refine tP (i := 12) c rfl (by kernel_rfl) (A6.build c (vs := [(1, .slice (some ⟨j, 0, none⟩) d.length d.length), (2, .slice (some ⟨k, 0, none⟩) f.length f.length), (3, .slice (some ⟨l, 0, none⟩) g.length g.length)]) [vi 0, vi 0, vi 0, vi 0, vi 0, .slice none 0 0, .slice (some ⟨j, 0, none⟩) d.length d.length, .slice (some ⟨k, 0, none⟩) f.length f.length, .slice (some ⟨l, 0, none⟩) g.length g.length, vi 0, vi 0] rfl (by kernel_rfl)) rfl ((((b.tail).tail).tail).tail) ((((b.tail).tail).tail).tail) fun a c => ?_
  refine ro 14 true true ?_
  refine so [.A 3,.e] b c fun a w c b => ?_
  refine r3 ((((b.tail).tail).tail).tail) ?_
  refine Rg.done (by kernel_rfl) ?_
  replace b := b.order [3, 2, 1, 0, 0, 0, 0, 0, 0, 0] rfl
  exact key _ _ _ _ _ _ _ _ _ u q p x n o v C c.pk b
 clear c b a w; intro y z A E j k l a w u q p x n o v C c b
 subst aG
 refine W.seq ?_
 refine W.gen fun bm aH => ?_
 refine rE b [] [0] [0, 1, 2, 3, 4, 5, 6, 7, 8, 9, 10, 11, 12, 13, 14, 15, 16, 17, 18, 19, 20, 21, 22, 23, 24, 25, 26, 27] [0, 1, 2, 3, 4, 5, 6, 7, 8, 9, 10, 11, 12, 13, 14, 15, 16, 17, 18, 19, 20, 21, 22, 23, 24, 25, 26, 27, 28] mixed ?_
 replace b := b.drew
 refine sr [.P 0 .p,.T 1 true .n,.P 2 (.f 0),.T 3 true (.C 7 0 3),.T 4 true (.B 5),.P 7 .p,.T 8 true .n,.P 9 (.f 0),.T 10 true (.C 7 0 3),.T 11 true (.B 4),.P 14 .p,.P 15 .p,.T 16 true .n,.P 17 (.f 0),.T 18 true (.C 7 0 3),.T 19 true (.B 4),.P 22 (.f 0),.T 23 true (.b 6)] c b (b.tail) fun a c => ?_
 refine ro 5 true true ?_
 obtain ⟨U, aI, D⟩ := B4 D
 refine fq c (I5 b n o aI) ?_; rintro _ w ⟨ba, rfl, aZ, b⟩; refine ⟨_, rfl, fun a c => ?_⟩
 subst aZ
 refine WL.nil ?_
 refine r2 b (b.tail) ?_
 refine sr [.P 6 (.v 0 3)] c b (b.tail) fun a c => ?_
 refine ro 12 true true ?_
 obtain ⟨V, aJ, D⟩ := B4 D
 refine fq c (J3 b n o aJ) ?_; rintro _ w ⟨bb, rfl, a0, b⟩; refine ⟨_, rfl, fun a c => ?_⟩
 subst a0
 refine WL.nil ?_
 refine r2 b (b.tail) ?_
 refine sr [.P 13 (.v 0 3)] c b (b.tail) fun a c => ?_
 refine ro 20 true true ?_
 obtain ⟨X, aK, D⟩ := B4 D
 refine fq c (J3 b n o aK) ?_; rintro _ w ⟨bc, rfl, a1, b⟩; refine ⟨_, rfl, fun a c => ?_⟩
 subst a1
 refine WL.nil ?_
 refine r2 b (b.tail) ?_
 refine sr [.P 21 (.v 2 3)] c b (b.tail) fun a c => ?_
 refine ro 24 true true ?_
 obtain ⟨M, aL, D⟩ := B4 D
 refine fq c (G4 b x aL) ?_; rintro _ w ⟨S, T, bn, bd, rfl, a2, rfl, b⟩; refine ⟨_, rfl, fun a c => ?_⟩
 refine WL.nil ?_
 refine r2 (b.tail) ((b.tail).tail) ?_
 refine tP (i := 25) c rfl (by kernel_rfl) (A6.build c (vs := [(0, .slice S M.length T)]) [.slice S M.length T] rfl (by kernel_rfl)) rfl (b.tail) ((b.tail).tail) fun a c => ?_
 refine tP (i := 26) c rfl (by kernel_rfl) (A6.build c (vs := [(0, vi U.Station), (1, vi V.Station), (2, vi Z.Dep), (3, vi X.Arr), (4, vi 1), (5, .agg (List.toArray [.slice S M.length T]))]) [vi U.Station, vi V.Station, vi Z.Dep, vi X.Arr, vi 1, .slice S M.length T] rfl (by kernel_rfl)) rfl (b.tail) ((b.tail).tail) fun a c => ?_
 refine sr [.P 27 (.f 0)] c (b.tail) ((b.tail).tail) fun a c => ?_
 refine ro 28 false true ?_
 refine so [.A 1,.e] b c fun a w c b => ?_
 refine rf ((b.tail).tail) ?_
 refine Rg.done (by kernel_rfl) ?_
 subst aH
 refine W.seq ?_
 have hF := b.fixD A8.mono 0 rfl a2 rfl; clear b; obtain ⟨ah, ak, b, a3⟩ := hF
 obtain ⟨n, o, x, u⟩ := m4 ak n o x u
 obtain ⟨q, p, v, C⟩ := m4 ak q p v C
 refine W.gen fun bo aM => ?_
 refine rE b [1, 1, 1] [1, 1, 1, 5] [0, 1, 2, 3, 4, 5, 6, 8, 9] [0, 1, 2, 3, 4, 5, 6, 7, 8, 9] mixed ?_
 replace b := b.drew
 refine sr [.P 0 .p,.P 1 .p,.T 2 false .n,.P 3 (.f 4),.T 4 true (.b 4),.T 5 false (.B 0)] c (((b.dropAt 1).dropAt 1).dropAt 1) ((((b.dropAt 1).dropAt 1).dropAt 1).dropAt 5) fun a c => ?_
 refine ro 6 true true ?_
 refine WL.lit c b (e := 78) (es := 11) (vs := [(0, .agg (List.toArray [vi U.Station, vi V.Station, vi Z.Dep, vi X.Arr, vi 1, .slice S M.length T, .slice (some ⟨j, 0, none⟩) d.length d.length, .slice (some ⟨k, 0, none⟩) f.length f.length, .slice (some ⟨l, 0, none⟩) g.length g.length, vi 0, vi 0]))]) (cs := [vi U.Station, vi V.Station, vi Z.Dep, vi X.Arr, vi 1, .slice S M.length T, .slice (some ⟨j, 0, none⟩) d.length d.length, .slice (some ⟨k, 0, none⟩) f.length f.length, .slice (some ⟨l, 0, none⟩) g.length g.length, vi 0, vi 0]) (A0 rfl) rfl (by kernel_rfl) rfl fun a4 a w c b => ?_
 refine WL.nil ?_
 refine r2 ((((b.tail).dropAt 1).dropAt 1).dropAt 1) (((((b.tail).dropAt 1).dropAt 1).dropAt 1).dropAt 5) ?_
 refine ro 7 false true ?_
 replace b := pm [.F 9,.F 1] b
 replace b := (b.hotOpen 1 rfl)
 replace b := b.front 2 rfl
 replace b : St _ ah (pc a4 #[vi U.Station, vi V.Station, vi Z.Dep, vi X.Arr, vi 1, .slice S M.length T, .slice (some ⟨j, 0, none⟩) d.length d.length, .slice (some ⟨k, 0, none⟩) f.length f.length, .slice (some ⟨l, 0, none⟩) g.length g.length, vi 0, vi 0] 78 :: B2 78 11 P N y0.promises.length B.cs :: L5 B.hs :: pc E #[vi U.Station, vi V.Station, vi Z.Dep, vi X.Arr, vi 1, .slice S M.length T, .slice (some ⟨j, 0, none⟩) d.length d.length, .slice (some ⟨k, 0, none⟩) f.length f.length, .slice (some ⟨l, 0, none⟩) g.length g.length, vi 0, vi 0] 78 :: B2 3 1 (some ⟨l, 0, none⟩) g.length g.length y :: B2 3 1 (some ⟨k, 0, none⟩) f.length f.length z :: B2 4 1 (some ⟨j, 0, none⟩) d.length d.length A :: pc ag (A1.cells ap).toArray 88 :: pc af (A1.cells an).toArray 88 :: pc ai #[.slice ad x1.Rides.length aa] 42 :: pc ae #[.slice K y0.net.Day.Trains.length I, .slice L y0.net.Day.Turns.length J, vi y0.net.least, vi x2, .slice P y0.promises.length N, .slice Q y0.messages.length O] 69 :: B2 50 5 Q O y0.messages.length Y :: R) := b
 obtain ⟨am, aA, D⟩ := B4 D
 refine WL.appDx c b 0 (m := 1) (A0 rfl) rfl rfl rfl b2e rfl v.ev (rfl) (xs := [(C5.mk (C2.mk U.Station V.Station Z.Dep X.Arr 1 (A3.mk M)) d f g 0 0)]) (RX.ev rfl) rfl rfl aA rfl fun au av a w bp c b => ?_
 replace b : St _ ah (B2 78 11 au av am.length (B.cs ++ [(vi U.Station : Value), (vi V.Station : Value), (vi Z.Dep : Value), (vi X.Arr : Value), (vi 1 : Value), (.slice S M.length T : Value), (.slice (some ⟨j, 0, none⟩) d.length d.length : Value), (.slice (some ⟨k, 0, none⟩) f.length f.length : Value), (.slice (some ⟨l, 0, none⟩) g.length g.length : Value), (vi 0 : Value), (vi 0 : Value)]) :: L5 B.hs :: pc E #[vi U.Station, vi V.Station, vi Z.Dep, vi X.Arr, vi 1, .slice S M.length T, .slice (some ⟨j, 0, none⟩) d.length d.length, .slice (some ⟨k, 0, none⟩) f.length f.length, .slice (some ⟨l, 0, none⟩) g.length g.length, vi 0, vi 0] 78 :: B2 3 1 (some ⟨l, 0, none⟩) g.length g.length y :: B2 3 1 (some ⟨k, 0, none⟩) f.length f.length z :: B2 4 1 (some ⟨j, 0, none⟩) d.length d.length A :: pc ag (A1.cells ap).toArray 88 :: pc af (A1.cells an).toArray 88 :: pc ai #[.slice ad x1.Rides.length aa] 42 :: pc ae #[.slice K y0.net.Day.Trains.length I, .slice L y0.net.Day.Turns.length J, vi y0.net.least, vi x2, .slice P y0.promises.length N, .slice Q y0.messages.length O] 69 :: B2 50 5 Q O y0.messages.length Y :: R) := b
 replace b := pm [.F 1,.F 3,.F 4,.F 5] b
 replace b : St _ ah (L5 (B.hs ++ [L5 [B2 4 1 (some ⟨j, 0, none⟩) d.length d.length A, B2 3 1 (some ⟨k, 0, none⟩) f.length f.length z, B2 3 1 (some ⟨l, 0, none⟩) g.length g.length y]]) :: B2 78 11 au av am.length (B.cs ++ [(vi U.Station : Value), (vi V.Station : Value), (vi Z.Dep : Value), (vi X.Arr : Value), (vi 1 : Value), (.slice S M.length T : Value), (.slice (some ⟨j, 0, none⟩) d.length d.length : Value), (.slice (some ⟨k, 0, none⟩) f.length f.length : Value), (.slice (some ⟨l, 0, none⟩) g.length g.length : Value), (vi 0 : Value), (vi 0 : Value)]) :: pc E #[vi U.Station, vi V.Station, vi Z.Dep, vi X.Arr, vi 1, .slice S M.length T, .slice (some ⟨j, 0, none⟩) d.length d.length, .slice (some ⟨k, 0, none⟩) f.length f.length, .slice (some ⟨l, 0, none⟩) g.length g.length, vi 0, vi 0] 78 :: pc ag (A1.cells ap).toArray 88 :: pc af (A1.cells an).toArray 88 :: pc ai #[.slice ad x1.Rides.length aa] 42 :: pc ae #[.slice K y0.net.Day.Trains.length I, .slice L y0.net.Day.Turns.length J, vi y0.net.least, vi x2, .slice P y0.promises.length N, .slice Q y0.messages.length O] 69 :: B2 50 5 Q O y0.messages.length Y :: R) := St.oPush (ps := [B2 4 1 (some ⟨j, 0, none⟩) d.length d.length A, B2 3 1 (some ⟨k, 0, none⟩) f.length f.length z, B2 3 1 (some ⟨l, 0, none⟩) g.length g.length y]) (hs := B.hs) b
 have aD : HEv 11 D0 ah (a0o.mk (B.cs ++ [(vi U.Station : Value), (vi V.Station : Value), (vi Z.Dep : Value), (vi X.Arr : Value), (vi 1 : Value), (.slice S M.length T : Value), (.slice (some ⟨j, 0, none⟩) d.length d.length : Value), (.slice (some ⟨k, 0, none⟩) f.length f.length : Value), (.slice (some ⟨l, 0, none⟩) g.length g.length : Value), (vi 0 : Value), (vi 0 : Value)]) (B.hs ++ [L5 [B2 4 1 (some ⟨j, 0, none⟩) d.length d.length A, B2 3 1 (some ⟨k, 0, none⟩) f.length f.length z, B2 3 1 (some ⟨l, 0, none⟩) g.length g.length y]])) am := HEv.snoc v (X9 aA).2.symm rfl ⟨_, _, _, _, _, _, _, _, _, _, _, _, _, _, rfl, rfl, a3, p, (rfl), q, (rfl), u, (rfl)⟩
 replace b := b.front 1 rfl
 replace b : St _ ah (M5 78 11 au av am.length (a0o.mk (B.cs ++ [(vi U.Station : Value), (vi V.Station : Value), (vi Z.Dep : Value), (vi X.Arr : Value), (vi 1 : Value), (.slice S M.length T : Value), (.slice (some ⟨j, 0, none⟩) d.length d.length : Value), (.slice (some ⟨k, 0, none⟩) f.length f.length : Value), (.slice (some ⟨l, 0, none⟩) g.length g.length : Value), (vi 0 : Value), (vi 0 : Value)]) (B.hs ++ [L5 [B2 4 1 (some ⟨j, 0, none⟩) d.length d.length A, B2 3 1 (some ⟨k, 0, none⟩) f.length f.length z, B2 3 1 (some ⟨l, 0, none⟩) g.length g.length y]])) :: pc E #[vi U.Station, vi V.Station, vi Z.Dep, vi X.Arr, vi 1, .slice S M.length T, .slice (some ⟨j, 0, none⟩) d.length d.length, .slice (some ⟨k, 0, none⟩) f.length f.length, .slice (some ⟨l, 0, none⟩) g.length g.length, vi 0, vi 0] 78 :: pc ag (A1.cells ap).toArray 88 :: pc af (A1.cells an).toArray 88 :: pc ai #[.slice ad x1.Rides.length aa] 42 :: pc ae #[.slice K y0.net.Day.Trains.length I, .slice L y0.net.Day.Turns.length J, vi y0.net.least, vi x2, .slice P y0.promises.length N, .slice Q y0.messages.length O] 69 :: B2 50 5 Q O y0.messages.length Y :: R) := St.hotClose b
 generalize a0o.mk (B.cs ++ [(vi U.Station : Value), (vi V.Station : Value), (vi Z.Dep : Value), (vi X.Arr : Value), (vi 1 : Value), (.slice S M.length T : Value), (.slice (some ⟨j, 0, none⟩) d.length d.length : Value), (.slice (some ⟨k, 0, none⟩) f.length f.length : Value), (.slice (some ⟨l, 0, none⟩) g.length g.length : Value), (vi 0 : Value), (vi 0 : Value)]) (B.hs ++ [L5 [B2 4 1 (some ⟨j, 0, none⟩) d.length d.length A, B2 3 1 (some ⟨k, 0, none⟩) f.length f.length z, B2 3 1 (some ⟨l, 0, none⟩) g.length g.length y]]) = aN at b aD
 refine WL.nil ?_
 refine rf (b.tail) ?_
 refine ro 8 false true ?_
 refine sl [.n,.e] b c fun a c => ?_
 refine rf (b.tail) ?_
 refine Rg.takeP (i := 9) c rfl (by kernel_rfl) (A0 rfl) (A6.fld c rfl a9E) rfl (G2 (fun h => absurd h (by decide)) (fun _ => (b.tail))) fun a c => ?_
 refine ro 10 false false ?_
 refine so [.S 5,.e] b c fun a w c b => ?_
 refine ⟨⟨fun h => absurd h (by decide), fun h => absurd h (by decide)⟩, ?_⟩
 refine Rg.done (by kernel_rfl) ?_
 subst aM
 refine sg [.s,.p,.n,.f 4,.b 5,.l 78 11,.p,.p,.p,.e] b c fun a c => ?_
 refine W.ret ?_
 refine fg [_, _] c ?_
 obtain rfl := oi D
 replace b := pm [.F 6,.F 1,.F 6,.D 3,.D 3,.D 3,.D 3] b
 exact ⟨au, av, am.length, aN, ah, rfl, ak, aD, (rfl), b⟩
set_option maxHeartbeats 8000000 in
theorem Z8 {w : World} {Z S B C D an E ad : Nat} {x1 : A3} {T F G H I : Option Addr} {x2 : Int} {y0 : F3} {k : a0o} {J : List Value} (b : St w s (pc Z #[.slice F y0.Newest.Trains.length B, .slice G y0.Newest.Turns.length C, vi y0.Least, vi y0.Time, .slice H an D, .slice I ad E] 39 :: M5 83 1 H D an k :: B2 50 5 I E ad J :: R)) (u : Sl 3 A8 s T S x1.Rides) (p : Sl 4 A7 s F B y0.Newest.Trains) (q : Sl 1 (RL 1 (RI .i64)) s G C y0.Newest.Turns) (x : HEv 1 C9 s k y0.sold) (aC : y0.sold.length = an) (O : Ev 5 A5 s J y0.Told) (aD : y0.Told.length = ad) {r : Int × Int × Int × (List C4)} (j : M1 x1 x2 y0 = some r) :
  Calls b2n 14 [pp Z, .agg (List.toArray [.slice T x1.Rides.length S]), vi x2].toArray w (fun e w => ∃ (aU : Option Addr) (aV : Nat) (ax : Nat) (ay : a0o) (t : Sg), e = .returned (.tuple #[vi r.1, vi r.2.1]) ∧ s.Le t ∧ HEv 1 C9 t ay r.2.2.2 ∧ r.2.2.2.length = ax ∧ St w t (pc Z #[.slice F y0.Newest.Trains.length B, .slice G y0.Newest.Turns.length C, vi y0.Least, vi r.2.2.1, .slice aU ax aV, .slice I ad E] 39 :: M5 83 1 aU aV ax ay :: B2 50 5 I E ad J :: R)) := by
 refine enter Tryz.func14 rfl rfl rfl fun a c => ?_
 rw [M1] at j
 subst aC
 subst aD
 refine sg [.s] b c fun a c => ?_
 refine bw c b fun aj a w c b => ?_
 refine sl [.p,.p,.e,.q,.q] b c fun a c => ?_
 refine rQ b mixed ?_
 refine sq [.p,.n,.f 0,.C 1 0 2,.B 0,.p,.n,.f 2,.b 1] c fun a c => ?_
 obtain ⟨bB, aW, j⟩ := B4 j
 refine QL.fnq c (fun w b => S2 b p q u aW) (A0 rfl) b1s rfl rfl rfl fun a c => ?_
 refine sq [.p] c fun a c => ?_
 refine QL.nil ?_; clear b w; intro w b
 refine sg [.s,.p,.p,.e] b c fun a c => ?_
 refine W.cond c rfl (fun ap => ?_) (fun ap => ?_)
 ·replace j := iteT ap j
  refine sg [.s,.p,.p,.p,.e] b c fun a c => ?_
  refine W.ret ?_
  refine fg [_, _] c ?_
  obtain rfl := oi j
  replace b := b.tail
  exact ⟨H, D, y0.sold.length, k, s, rfl, lr, x, (rfl), b⟩
 replace j := iteF ap j
 refine sg [.k,.q,.s,.p,.n,.f 4,.b 1,.l 83 1,.p,.e] b c fun a c => ?_
 refine W.cond c rfl (fun aq => ?_) (fun aq => ?_)
 ·replace j := iteT aq j
  refine sg [.s,.p,.p,.e] b c fun a c => ?_
  refine W.ret ?_
  refine fg [_, _] c ?_
  obtain rfl := oi j
  replace b := b.tail
  exact ⟨H, D, y0.sold.length, k, s, rfl, lr, x, (rfl), b⟩
 replace j := iteF aq j
 refine sg [.k,.q,.s,.p,.p,.n,.f 3,.b 1,.p,.e] b c fun a c => ?_
 refine W.cond c rfl (fun ar => ?_) (fun ar => ?_)
 ·replace j := iteT ar j
  refine sg [.s,.p,.p,.e] b c fun a c => ?_
  refine W.ret ?_
  refine fg [_, _] c ?_
  obtain rfl := oi j
  replace b := b.tail
  exact ⟨H, D, y0.sold.length, k, s, rfl, lr, x, (rfl), b⟩
 replace j := iteF ar j
 refine sg [.k,.q,.s,.p,.p,.e] b c fun a c => ?_
 refine W.cond c rfl (fun au => ?_) (fun au => ?_)
 ·replace j := iteT au j
  refine sg [.s,.p,.p,.e] b c fun a c => ?_
  refine W.ret ?_
  refine fg [_, _] c ?_
  obtain rfl := oi j
  replace b := b.tail
  exact ⟨H, D, y0.sold.length, k, s, rfl, lr, x, (rfl), b⟩
 replace j := iteF au j
 refine sg [.k,.q,.q] b c fun a c => ?_
 refine rQ b mixed ?_
 refine sq [.p,.n,.f 0,.C 1 0 2,.B 0] c fun a c => ?_
 obtain ⟨bC, aX, j⟩ := B4 j
 refine QL.fnq c (fun w b => P9 b p q u aX) (A0 rfl) b2i rfl rfl rfl fun a c => ?_
 refine sq [.p,.p] c fun a c => ?_
 refine QL.nil ?_; clear b w; intro w b
 refine W.cond c rfl (fun av => ?_) (fun av => ?_)
 ·replace j := iteT av j
  refine sg [.s,.p,.p,.e] b c fun a c => ?_
  refine W.ret ?_
  refine fg [_, _] c ?_
  obtain rfl := oi j
  replace b := b.tail
  exact ⟨H, D, y0.sold.length, k, s, rfl, lr, x, (rfl), b⟩
 replace j := iteF av j
 refine sm [.k,.s,.p,.p,.n,.f 3,.S 1,.e,.s,.f 0,.b 0,.l 88 3,.p,.e,.q] b c fun a w c b => ?_
 refine W.gen fun a5 aY => ?_
 refine rE b [] [] [0, 1, 2, 3, 4, 5, 6, 7, 8] [0, 1, 2, 3, 4, 5, 6, 7, 8] mixed ?_
 replace b := b.drew
 refine sr [.P 0 .p,.P 2 .p,.P 4 .p] c b b fun a c => ?_
 obtain ⟨d, ae, j⟩ := B4 j
 obtain ⟨f, af, j⟩ := B4 j
 obtain ⟨g, ag, j⟩ := B4 j
 suffices key : ∀ y z A v l n o (a : Act) (w : World), Ev 1 (RI .i64) s y g → Ev 1 (RI .i64) s z f → Ev 1 RB s A d → Sl 3 A8 s T S x1.Rides → Sl 4 A7 s F B y0.Newest.Trains → Sl 1 (RL 1 (RI .i64)) s G C y0.Newest.Turns → HEv 1 C9 s k y0.sold → Ev 5 A5 s J y0.Told → Rep a 151 [(0, pp Z), (4, pp aj), (9, vi ((x1.Rides).length : Int)), (10, pp v)] → St w s (pc v #[vi 0, vi 0, vi 0, vi 0, vi 0, .slice none 0 0, .slice (some ⟨l, 0, none⟩) d.length d.length, .slice (some ⟨n, 0, none⟩) f.length f.length, .slice (some ⟨o, 0, none⟩) g.length g.length, vi 0, vi 0] 82 :: B2 3 1 (some ⟨o, 0, none⟩) g.length g.length y :: B2 3 1 (some ⟨n, 0, none⟩) f.length f.length z :: B2 4 1 (some ⟨l, 0, none⟩) d.length d.length A :: pc aj #[.slice T x1.Rides.length S] 42 :: pc Z #[.slice F y0.Newest.Trains.length B, .slice G y0.Newest.Turns.length C, vi y0.Least, vi x2, .slice H y0.sold.length D, .slice I y0.Told.length E] 39 :: M5 83 1 H D y0.sold.length k :: B2 50 5 I E y0.Told.length J :: R) → a5.nor a w by
  refine Rg.many 1 [3, 5] (by kernel_rfl) ⟨?_, ?_, ?_, trivial⟩
  ·refine bk 1 true true ?_
   refine WL.mkD (Rr := RB) c b (A0 rfl) rfl rfl a2d zr4 rfl ae rfl fun l A a w K c b => ?_
   refine WL.nil ?_
   refine r3 (b.tail) ?_
   refine Rg.many 3 [5] (by kernel_rfl) ⟨?_, ?_, trivial⟩
   ·refine bk 3 true true ?_
    refine WL.mkD (Rr := RI .i64) c b (A0 rfl) rfl rfl W6 zr3 rfl af rfl fun n z a w L c b => ?_
    refine WL.nil ?_
    refine r3 ((b.tail).tail) ?_
    refine ro 5 true true ?_
    refine WL.mkD (Rr := RI .i64) c b (A0 rfl) rfl rfl W6 zr3 rfl ag rfl fun o y a w M c b => ?_
    refine WL.nil ?_
    refine r3 (((b.tail).tail).tail) ?_
    refine tP (i := 6) c rfl (by kernel_rfl) (A6.build c (vs := [(1, .slice (some ⟨l, 0, none⟩) d.length d.length), (2, .slice (some ⟨n, 0, none⟩) f.length f.length), (3, .slice (some ⟨o, 0, none⟩) g.length g.length)]) [vi 0, vi 0, vi 0, vi 0, vi 0, .slice none 0 0, .slice (some ⟨l, 0, none⟩) d.length d.length, .slice (some ⟨n, 0, none⟩) f.length f.length, .slice (some ⟨o, 0, none⟩) g.length g.length, vi 0, vi 0] rfl (by kernel_rfl)) rfl (((b.tail).tail).tail) (((b.tail).tail).tail) fun a c => ?_
    refine ro 7 true true ?_
    refine bw c b fun v a w c b => ?_
    refine WL.nil ?_
    refine r3 ((((b.tail).tail).tail).tail) ?_
    refine sr [.P 8 .p] c ((((b.tail).tail).tail).tail) ((((b.tail).tail).tail).tail) fun a c => ?_
    refine Rg.done (by kernel_rfl) ?_
    exact key _ _ _ _ _ _ _ _ _ M L K u p q x O c.pk b
   refine bk 5 true true ?_
   refine WL.mkD (Rr := RI .i64) c b (A0 rfl) rfl rfl W6 zr3 rfl ag rfl fun o y a w M c b => ?_
   refine WL.nil ?_
   refine r3 ((b.tail).tail) ?_
   refine ro 3 true true ?_
   refine WL.mkD (Rr := RI .i64) c b (A0 rfl) rfl rfl W6 zr3 rfl af rfl fun n z a w L c b => ?_
   refine WL.nil ?_
   refine r3 (((b.tail).tail).tail) ?_
   refine tP (i := 6) c rfl (by kernel_rfl) (A6.build c (vs := [(1, .slice (some ⟨l, 0, none⟩) d.length d.length), (2, .slice (some ⟨n, 0, none⟩) f.length f.length), (3, .slice (some ⟨o, 0, none⟩) g.length g.length)]) [vi 0, vi 0, vi 0, vi 0, vi 0, .slice none 0 0, .slice (some ⟨l, 0, none⟩) d.length d.length, .slice (some ⟨n, 0, none⟩) f.length f.length, .slice (some ⟨o, 0, none⟩) g.length g.length, vi 0, vi 0] rfl (by kernel_rfl)) rfl (((b.tail).tail).tail) (((b.tail).tail).tail) fun a c => ?_
   refine ro 7 true true ?_
   refine bw c b fun v a w c b => ?_
   refine WL.nil ?_
   refine r3 ((((b.tail).tail).tail).tail) ?_
   refine sr [.P 8 .p] c ((((b.tail).tail).tail).tail) ((((b.tail).tail).tail).tail) fun a c => ?_
   refine Rg.done (by kernel_rfl) ?_
   replace b := pm [.F 7,.F 7,.F 7,.F 7,.F 7,.F 6,.F 7,.F 7] b
   exact key _ _ _ _ _ _ _ _ _ M L K u p q x O c.pk b
  ·refine bk 3 true true ?_
   refine WL.mkD (Rr := RI .i64) c b (A0 rfl) rfl rfl W6 zr3 rfl af rfl fun n z a w L c b => ?_
   refine WL.nil ?_
   refine r3 (b.tail) ?_
   refine Rg.many 1 [5] (by kernel_rfl) ⟨?_, ?_, trivial⟩
   ·refine bk 1 true true ?_
    refine WL.mkD (Rr := RB) c b (A0 rfl) rfl rfl a2d zr4 rfl ae rfl fun l A a w K c b => ?_
    refine WL.nil ?_
    refine r3 ((b.tail).tail) ?_
    refine ro 5 true true ?_
    refine WL.mkD (Rr := RI .i64) c b (A0 rfl) rfl rfl W6 zr3 rfl ag rfl fun o y a w M c b => ?_
    refine WL.nil ?_
    refine r3 (((b.tail).tail).tail) ?_
    refine tP (i := 6) c rfl (by kernel_rfl) (A6.build c (vs := [(1, .slice (some ⟨l, 0, none⟩) d.length d.length), (2, .slice (some ⟨n, 0, none⟩) f.length f.length), (3, .slice (some ⟨o, 0, none⟩) g.length g.length)]) [vi 0, vi 0, vi 0, vi 0, vi 0, .slice none 0 0, .slice (some ⟨l, 0, none⟩) d.length d.length, .slice (some ⟨n, 0, none⟩) f.length f.length, .slice (some ⟨o, 0, none⟩) g.length g.length, vi 0, vi 0] rfl (by kernel_rfl)) rfl (((b.tail).tail).tail) (((b.tail).tail).tail) fun a c => ?_
    refine ro 7 true true ?_
    refine bw c b fun v a w c b => ?_
    refine WL.nil ?_
    refine r3 ((((b.tail).tail).tail).tail) ?_
    refine sr [.P 8 .p] c ((((b.tail).tail).tail).tail) ((((b.tail).tail).tail).tail) fun a c => ?_
    refine Rg.done (by kernel_rfl) ?_
    replace b := pm [.F 7,.F 7,.F 7,.F 7,.F 6,.F 7,.F 7,.F 7] b
    exact key _ _ _ _ _ _ _ _ _ M L K u p q x O c.pk b
   refine bk 5 true true ?_
   refine WL.mkD (Rr := RI .i64) c b (A0 rfl) rfl rfl W6 zr3 rfl ag rfl fun o y a w M c b => ?_
   refine WL.nil ?_
   refine r3 ((b.tail).tail) ?_
   refine ro 1 true true ?_
   refine WL.mkD (Rr := RB) c b (A0 rfl) rfl rfl a2d zr4 rfl ae rfl fun l A a w K c b => ?_
   refine WL.nil ?_
   refine r3 (((b.tail).tail).tail) ?_
   refine tP (i := 6) c rfl (by kernel_rfl) (A6.build c (vs := [(1, .slice (some ⟨l, 0, none⟩) d.length d.length), (2, .slice (some ⟨n, 0, none⟩) f.length f.length), (3, .slice (some ⟨o, 0, none⟩) g.length g.length)]) [vi 0, vi 0, vi 0, vi 0, vi 0, .slice none 0 0, .slice (some ⟨l, 0, none⟩) d.length d.length, .slice (some ⟨n, 0, none⟩) f.length f.length, .slice (some ⟨o, 0, none⟩) g.length g.length, vi 0, vi 0] rfl (by kernel_rfl)) rfl (((b.tail).tail).tail) (((b.tail).tail).tail) fun a c => ?_
   refine ro 7 true true ?_
   refine bw c b fun v a w c b => ?_
   refine WL.nil ?_
   refine r3 ((((b.tail).tail).tail).tail) ?_
   refine sr [.P 8 .p] c ((((b.tail).tail).tail).tail) ((((b.tail).tail).tail).tail) fun a c => ?_
   refine Rg.done (by kernel_rfl) ?_
   replace b := pm [.F 7,.F 7,.F 7,.F 7,.F 5,.F 7,.F 7,.F 7] b
   exact key _ _ _ _ _ _ _ _ _ M L K u p q x O c.pk b
  refine bk 5 true true ?_
  refine WL.mkD (Rr := RI .i64) c b (A0 rfl) rfl rfl W6 zr3 rfl ag rfl fun o y a w M c b => ?_
  refine WL.nil ?_
  refine r3 (b.tail) ?_
  refine Rg.many 1 [3] (by kernel_rfl) ⟨?_, ?_, trivial⟩
  ·refine bk 1 true true ?_
   refine WL.mkD (Rr := RB) c b (A0 rfl) rfl rfl a2d zr4 rfl ae rfl fun l A a w K c b => ?_
   refine WL.nil ?_
   refine r3 ((b.tail).tail) ?_
   refine ro 3 true true ?_
   refine WL.mkD (Rr := RI .i64) c b (A0 rfl) rfl rfl W6 zr3 rfl af rfl fun n z a w L c b => ?_
   refine WL.nil ?_
   refine r3 (((b.tail).tail).tail) ?_
   refine tP (i := 6) c rfl (by kernel_rfl) (A6.build c (vs := [(1, .slice (some ⟨l, 0, none⟩) d.length d.length), (2, .slice (some ⟨n, 0, none⟩) f.length f.length), (3, .slice (some ⟨o, 0, none⟩) g.length g.length)]) [vi 0, vi 0, vi 0, vi 0, vi 0, .slice none 0 0, .slice (some ⟨l, 0, none⟩) d.length d.length, .slice (some ⟨n, 0, none⟩) f.length f.length, .slice (some ⟨o, 0, none⟩) g.length g.length, vi 0, vi 0] rfl (by kernel_rfl)) rfl (((b.tail).tail).tail) (((b.tail).tail).tail) fun a c => ?_
   refine ro 7 true true ?_
   refine bw c b fun v a w c b => ?_
   refine WL.nil ?_
   refine r3 ((((b.tail).tail).tail).tail) ?_
   refine sr [.P 8 .p] c ((((b.tail).tail).tail).tail) ((((b.tail).tail).tail).tail) fun a c => ?_
   refine Rg.done (by kernel_rfl) ?_
   replace b := pm [.F 7,.F 7,.F 7,.F 7,.F 6,.F 6,.F 7,.F 7] b
   exact key _ _ _ _ _ _ _ _ _ M L K u p q x O c.pk b
  refine bk 3 true true ?_
  refine WL.mkD (Rr := RI .i64) c b (A0 rfl) rfl rfl W6 zr3 rfl af rfl fun n z a w L c b => ?_
  refine WL.nil ?_
  refine r3 ((b.tail).tail) ?_
  refine ro 1 true true ?_
  refine WL.mkD (Rr := RB) c b (A0 rfl) rfl rfl a2d zr4 rfl ae rfl fun l A a w K c b => ?_
  refine WL.nil ?_
  refine r3 (((b.tail).tail).tail) ?_
  refine tP (i := 6) c rfl (by kernel_rfl) (A6.build c (vs := [(1, .slice (some ⟨l, 0, none⟩) d.length d.length), (2, .slice (some ⟨n, 0, none⟩) f.length f.length), (3, .slice (some ⟨o, 0, none⟩) g.length g.length)]) [vi 0, vi 0, vi 0, vi 0, vi 0, .slice none 0 0, .slice (some ⟨l, 0, none⟩) d.length d.length, .slice (some ⟨n, 0, none⟩) f.length f.length, .slice (some ⟨o, 0, none⟩) g.length g.length, vi 0, vi 0] rfl (by kernel_rfl)) rfl (((b.tail).tail).tail) (((b.tail).tail).tail) fun a c => ?_
  refine ro 7 true true ?_
  refine bw c b fun v a w c b => ?_
  refine WL.nil ?_
  refine r3 ((((b.tail).tail).tail).tail) ?_
  refine sr [.P 8 .p] c ((((b.tail).tail).tail).tail) ((((b.tail).tail).tail).tail) fun a c => ?_
  refine Rg.done (by kernel_rfl) ?_
  replace b := pm [.F 7,.F 7,.F 7,.F 7,.F 5,.F 6,.F 7,.F 7] b
  exact key _ _ _ _ _ _ _ _ _ M L K u p q x O c.pk b
 clear c b a w; intro y z A v l n o a w M L K u p q x O c b
 subst aY
 refine W.seq ?_
 refine W.gen fun bD aZ => ?_
 refine rE b [] [0] [0, 1, 2, 3, 4, 5, 6, 7, 8, 9, 10, 11, 12, 13, 14, 15, 16, 17, 18] [0, 1, 2, 3, 4, 5, 6, 7, 8, 9, 10, 11, 12, 13, 14, 15, 16, 17, 18, 19] mixed ?_
 replace b := b.drew
 obtain ⟨bE, bb, a6, aE, j⟩ := gxS j
 obtain ⟨bc, bd, aF, a7⟩ := u.at aE
 subst aF
 refine sr [.P 0 .p,.P 1 .p,.T 2 true .n,.P 3 (.f 0),.T 4 true (.C 5 0 2),.P 5 (.f 0),.T 6 true (.b 4),.P 7 (.x 88),.T 8 true .h,.P 9 (.f 0),.T 10 true (.b 4)] c b (b.tail) fun a c => ?_
 obtain ⟨br, be, a8, aG, j⟩ := gxS j
 obtain ⟨bf, bg, aH, az⟩ := u.at aG
 subst aH
 refine sr [.P 11 (.x 88),.P 12 (.f 1)] c b (b.tail) fun a c => ?_
 refine tT (i := 13) true rfl c rfl (by kernel_rfl) (A6.load1 c rfl (fun w h => (az w _ h).one rfl) ty3) rfl b (b.tail) fun a c => ?_
 refine ro 14 true true ?_
 obtain ⟨U, aI, j⟩ := B4 j
 refine fq c (I1 b p q aI) ?_; rintro _ w ⟨bh, rfl, a0, b⟩; refine ⟨_, rfl, fun a c => ?_⟩
 subst a0
 refine WL.nil ?_
 refine r2 b (b.tail) ?_
 refine sr [.P 15 (.v 0 3),.T 16 false .n,.P 17 (.f 0),.P 18 (.f 0)] c b (b.tail) fun a c => ?_
 refine ro 19 false true ?_
 refine so [.S 0,.e] b c fun a w c b => ?_
 refine rf (b.tail) ?_
 refine Rg.done (by kernel_rfl) ?_
 subst aZ
 refine W.seq ?_
 refine W.gen fun bs aJ => ?_
 refine rE b [] [0] [0, 1, 2, 3, 4, 5, 6, 7, 8, 9, 10, 11, 12, 13, 14, 15, 16, 17, 18, 19, 20, 21, 22] [0, 1, 2, 3, 4, 5, 6, 7, 8, 9, 10, 11, 12, 13, 14, 15, 16, 17, 18, 19, 20, 21, 22, 23] mixed ?_
 replace b := b.drew
 obtain ⟨bt, bi, a9, aK, j⟩ := gxS j
 obtain ⟨bj, bl, aL, a_⟩ := u.at aK
 subst aL
 refine sr [.P 0 .p,.P 1 .p,.T 2 true .n,.P 3 (.f 0),.T 4 true (.C 5 0 2),.P 5 (.f 0),.T 6 true (.b 4),.P 7 .p,.P 8 .p,.P 9 (.x 88),.T 10 true .h,.P 11 (.f 0),.T 12 true (.b 4),.P 13 .p,.P 14 .p] c b (b.tail) fun a c => ?_
 obtain ⟨bu, bm, ba, aM, j⟩ := gxS j
 obtain ⟨bn, bo, aN, aA⟩ := u.at aM
 subst aN
 refine sr [.P 15 (.x 88),.P 16 (.f 2)] c b (b.tail) fun a c => ?_
 refine tT (i := 17) true rfl c rfl (by kernel_rfl) (A6.load1 c rfl (fun w h => (aA w _ h).one rfl) ty3) rfl b (b.tail) fun a c => ?_
 refine ro 18 true true ?_
 obtain ⟨V, aO, j⟩ := B4 j
 refine fq c (I1 b p q aO) ?_; rintro _ w ⟨bp, rfl, a1, b⟩; refine ⟨_, rfl, fun a c => ?_⟩
 subst a1
 refine WL.nil ?_
 refine r2 b (b.tail) ?_
 refine sr [.P 19 (.v 0 3),.T 20 false .n,.P 21 (.f 0),.P 22 (.f 1)] c b (b.tail) fun a c => ?_
 refine ro 23 false true ?_
 refine so [.S 0,.e] b c fun a w c b => ?_
 refine rf (b.tail) ?_
 refine Rg.done (by kernel_rfl) ?_
 subst aJ
 refine W.seq ?_
 refine W.gen fun bv aP => ?_
 refine rE b [] [0] [0, 1, 2, 3, 4, 5, 6, 7, 8, 9, 10, 11, 12, 13, 14, 15, 16, 17, 19, 20, 21, 23, 24, 25] [0, 1, 2, 3, 4, 5, 6, 7, 8, 9, 10, 11, 12, 13, 14, 15, 16, 17, 18, 19, 20, 21, 22, 23, 24, 25, 26] mixed ?_
 replace b := b.drew
 refine sr [.P 0 .p,.P 1 .p,.P 2 .p,.P 3 .p,.T 4 true .n,.P 5 (.f 0),.T 6 true (.C 5 0 2),.T 7 true (.B 4),.P 9 .p,.T 10 false .n,.P 11 (.f 0),.T 12 true (.C 5 0 2),.T 13 false (.B 3)] c b (b.tail) fun a c => ?_
 refine ro 8 true true ?_
 obtain ⟨X, aQ, j⟩ := B4 j
 refine fq c (P9 b p q u aQ) ?_; rintro _ w ⟨rfl, b⟩; refine ⟨_, rfl, fun a c => ?_⟩
 refine WL.nil ?_
 refine r2 b (b.tail) ?_
 refine ro 14 true true ?_
 obtain ⟨Y, aR, j⟩ := B4 j
 refine fq c (W4 b p q u aR) ?_; rintro _ w ⟨rfl, b⟩; refine ⟨_, rfl, fun a c => ?_⟩
 refine WL.nil ?_
 refine r2 b (b.tail) ?_
 refine sr [.T 15 false .n,.P 16 (.f 0),.P 17 (.f 2)] c b (b.tail) fun a c => ?_
 refine ro 18 false true ?_
 refine so [.S 0,.e] b c fun a w c b => ?_
 refine rf (b.tail) ?_
 refine Rg.take (i := 19) false rfl c rfl (by kernel_rfl) (A0 rfl) (A6.nilOk c rfl) rfl (G2 (fun h => absurd h (by decide)) (fun _ => (b.tail))) fun a c => ?_
 refine Rg.takeP (i := 20) c rfl (by kernel_rfl) (A0 rfl) (A6.fld c rfl a7C) rfl (G2 (fun h => absurd h (by decide)) (fun _ => (b.tail))) fun a c => ?_
 refine Rg.takeP (i := 21) c rfl (by kernel_rfl) (A0 rfl) (A6.fld c rfl a9Q) rfl (G2 (fun h => absurd h (by decide)) (fun _ => (b.tail))) fun a c => ?_
 refine ro 22 false true ?_
 refine so [.S 0,.e] b c fun a w c b => ?_
 refine rf (b.tail) ?_
 refine Rg.take (i := 23) false rfl c rfl (by kernel_rfl) (A0 rfl) (A6.nilOk c rfl) rfl (G2 (fun h => absurd h (by decide)) (fun _ => (b.tail))) fun a c => ?_
 refine Rg.takeP (i := 24) c rfl (by kernel_rfl) (A0 rfl) (A6.fld c rfl a7C) rfl (G2 (fun h => absurd h (by decide)) (fun _ => (b.tail))) fun a c => ?_
 refine Rg.takeP (i := 25) c rfl (by kernel_rfl) (A0 rfl) (A6.fld c rfl a9p) rfl (G2 (fun h => absurd h (by decide)) (fun _ => (b.tail))) fun a c => ?_
 refine ro 26 false true ?_
 refine so [.S 0,.e] b c fun a w c b => ?_
 refine rf (b.tail) ?_
 refine Rg.done (by kernel_rfl) ?_
 subst aP
 refine sg [.s,.p,.f 0,.b 4] b c fun a c => ?_
 obtain ⟨N, aS, j⟩ := B4 j
 refine fq c (G4 b u aS) ?_; rintro _ w ⟨P, Q, bz, bq, rfl, a2, rfl, b⟩; refine ⟨_, rfl, fun a c => ?_⟩
 refine vP b c (A6.build c (vs := [(0, .slice P N.length Q)]) [.slice P N.length Q] rfl (by kernel_rfl)) rfl fun a c => ?_
 refine so [.n,.f 0,.f 5,.A 1,.e,.s,.p,.p,.n,.f 4,.b 6,.p] b c fun a w c b => ?_
 refine WL.lit c b (e := 83) (es := 1) (vs := [(0, pp v)]) (cs := [pp v]) (A0 rfl) rfl (by kernel_rfl) rfl fun a3 a w c b => ?_
 have hF := b.fixD A8.mono 1 rfl a2 rfl; clear b; obtain ⟨aa, ah, b, a4⟩ := hF
 obtain ⟨p, q, u, M⟩ := m4 ah p q u M
 obtain ⟨L, K, x, O⟩ := m4 ah L K x O
 replace b := pm [.F 7,.F 1] b
 replace b := (b.hotOpen 1 rfl)
 replace b := b.front 2 rfl
 replace b : St _ aa (pc a3 #[pp v] 83 :: B2 83 1 H D y0.sold.length k.cs :: L5 k.hs :: pc v #[vi U.Station, vi V.Station, vi X, vi Y, vi 1, .slice P N.length Q, .slice (some ⟨l, 0, none⟩) d.length d.length, .slice (some ⟨n, 0, none⟩) f.length f.length, .slice (some ⟨o, 0, none⟩) g.length g.length, vi 0, vi 0] 82 :: B2 3 1 (some ⟨o, 0, none⟩) g.length g.length y :: B2 3 1 (some ⟨n, 0, none⟩) f.length f.length z :: B2 4 1 (some ⟨l, 0, none⟩) d.length d.length A :: pc aj #[.slice T x1.Rides.length S] 42 :: pc Z #[.slice F y0.Newest.Trains.length B, .slice G y0.Newest.Turns.length C, vi y0.Least, vi x2, .slice H y0.sold.length D, .slice I y0.Told.length E] 39 :: B2 50 5 I E y0.Told.length J :: R) := b
 obtain ⟨ai, aw, j⟩ := B4 j
 refine WL.appDx c b 0 (m := 1) (A0 rfl) rfl rfl rfl b2d rfl x.ev (rfl) (xs := [(C4.mk (C2.mk U.Station V.Station X Y 1 (A3.mk N)) d f g 0 0)]) (RX.ev rfl) rfl rfl aw rfl fun ak am a w bA c b => ?_
 replace b : St _ aa (B2 83 1 ak am ai.length (k.cs ++ [(pp v : Value)]) :: L5 k.hs :: pc v #[vi U.Station, vi V.Station, vi X, vi Y, vi 1, .slice P N.length Q, .slice (some ⟨l, 0, none⟩) d.length d.length, .slice (some ⟨n, 0, none⟩) f.length f.length, .slice (some ⟨o, 0, none⟩) g.length g.length, vi 0, vi 0] 82 :: B2 3 1 (some ⟨o, 0, none⟩) g.length g.length y :: B2 3 1 (some ⟨n, 0, none⟩) f.length f.length z :: B2 4 1 (some ⟨l, 0, none⟩) d.length d.length A :: pc aj #[.slice T x1.Rides.length S] 42 :: pc Z #[.slice F y0.Newest.Trains.length B, .slice G y0.Newest.Turns.length C, vi y0.Least, vi x2, .slice H y0.sold.length D, .slice I y0.Told.length E] 39 :: B2 50 5 I E y0.Told.length J :: R) := b
 replace b := pm [.F 1,.F 3,.F 4,.F 5,.F 5] b
 replace b : St _ aa (L5 (k.hs ++ [L5 [pc v #[vi U.Station, vi V.Station, vi X, vi Y, vi 1, .slice P N.length Q, .slice (some ⟨l, 0, none⟩) d.length d.length, .slice (some ⟨n, 0, none⟩) f.length f.length, .slice (some ⟨o, 0, none⟩) g.length g.length, vi 0, vi 0] 82, B2 4 1 (some ⟨l, 0, none⟩) d.length d.length A, B2 3 1 (some ⟨n, 0, none⟩) f.length f.length z, B2 3 1 (some ⟨o, 0, none⟩) g.length g.length y]]) :: B2 83 1 ak am ai.length (k.cs ++ [(pp v : Value)]) :: pc aj #[.slice T x1.Rides.length S] 42 :: pc Z #[.slice F y0.Newest.Trains.length B, .slice G y0.Newest.Turns.length C, vi y0.Least, vi x2, .slice H y0.sold.length D, .slice I y0.Told.length E] 39 :: B2 50 5 I E y0.Told.length J :: R) := St.oPush (ps := [pc v #[vi U.Station, vi V.Station, vi X, vi Y, vi 1, .slice P N.length Q, .slice (some ⟨l, 0, none⟩) d.length d.length, .slice (some ⟨n, 0, none⟩) f.length f.length, .slice (some ⟨o, 0, none⟩) g.length g.length, vi 0, vi 0] 82, B2 4 1 (some ⟨l, 0, none⟩) d.length d.length A, B2 3 1 (some ⟨n, 0, none⟩) f.length f.length z, B2 3 1 (some ⟨o, 0, none⟩) g.length g.length y]) (hs := k.hs) b
 have aB : HEv 1 C9 aa (a0o.mk (k.cs ++ [(pp v : Value)]) (k.hs ++ [L5 [pc v #[vi U.Station, vi V.Station, vi X, vi Y, vi 1, .slice P N.length Q, .slice (some ⟨l, 0, none⟩) d.length d.length, .slice (some ⟨n, 0, none⟩) f.length f.length, .slice (some ⟨o, 0, none⟩) g.length g.length, vi 0, vi 0] 82, B2 4 1 (some ⟨l, 0, none⟩) d.length d.length A, B2 3 1 (some ⟨n, 0, none⟩) f.length f.length z, B2 3 1 (some ⟨o, 0, none⟩) g.length g.length y]])) ai := HEv.snoc x (X9 aw).2.symm rfl ⟨_, _, _, _, _, _, _, _, _, _, _, _, _, _, _, rfl, rfl, a4, K, (rfl), L, (rfl), M, (rfl)⟩
 replace b := b.front 1 rfl
 replace b : St _ aa (M5 83 1 ak am ai.length (a0o.mk (k.cs ++ [(pp v : Value)]) (k.hs ++ [L5 [pc v #[vi U.Station, vi V.Station, vi X, vi Y, vi 1, .slice P N.length Q, .slice (some ⟨l, 0, none⟩) d.length d.length, .slice (some ⟨n, 0, none⟩) f.length f.length, .slice (some ⟨o, 0, none⟩) g.length g.length, vi 0, vi 0] 82, B2 4 1 (some ⟨l, 0, none⟩) d.length d.length A, B2 3 1 (some ⟨n, 0, none⟩) f.length f.length z, B2 3 1 (some ⟨o, 0, none⟩) g.length g.length y]])) :: pc aj #[.slice T x1.Rides.length S] 42 :: pc Z #[.slice F y0.Newest.Trains.length B, .slice G y0.Newest.Turns.length C, vi y0.Least, vi x2, .slice H y0.sold.length D, .slice I y0.Told.length E] 39 :: B2 50 5 I E y0.Told.length J :: R) := St.hotClose b
 generalize a0o.mk (k.cs ++ [(pp v : Value)]) (k.hs ++ [L5 [pc v #[vi U.Station, vi V.Station, vi X, vi Y, vi 1, .slice P N.length Q, .slice (some ⟨l, 0, none⟩) d.length d.length, .slice (some ⟨n, 0, none⟩) f.length f.length, .slice (some ⟨o, 0, none⟩) g.length g.length, vi 0, vi 0] 82, B2 4 1 (some ⟨l, 0, none⟩) d.length d.length A, B2 3 1 (some ⟨n, 0, none⟩) f.length f.length z, B2 3 1 (some ⟨o, 0, none⟩) g.length g.length y]]) = aT at b aB
 refine so [.n,.f 4,.S 2,.e,.s,.p,.n,.f 4,.b 2,.l 83 1,.p,.p,.p,.e] b c fun a w c b => ?_
 refine W.ret ?_
 refine fg [_, _] c ?_
 obtain rfl := oi j
 replace b := pm [.F 3,.F 1,.F 3,.D 3] b
 exact ⟨ak, am, ai.length, aT, aa, rfl, ah, aB, (rfl), b⟩
set_option maxHeartbeats 8000000 in
theorem X8 {w : World} {Q p q k K u L : Nat} {y0 : G3} {v x l y : Option Addr} {C : a0o} {D : List Value} (d : St w s (pc Q #[.slice v y0.net.Day.Trains.length p, .slice x y0.net.Day.Turns.length q, vi y0.net.least, vi y0.time, .slice l K k, .slice y L u] 69 :: M5 78 11 l k K C :: B2 50 5 y u L D :: R)) (i : Sl 4 A7 s v p y0.net.Day.Trains) (j : Sl 1 (RL 1 (RI .i64)) s x q y0.net.Day.Turns) (B : HEv 11 D0 s C y0.promises) (V : y0.promises.length = K) (H : Ev 5 A5 s D y0.messages) (X : y0.messages.length = L) {r : (List C2)} (Y : G1 y0 = some r) :
  Calls b2n 16 [pp Q].toArray w (fun e w => ∃ (a0 : Option Addr) (c0 n0 : Nat) (af : List Value) (t : Sg), e = .returned (.slice a0 n0 c0) ∧ s.Le t ∧ Ev 6 H0 t af r ∧ r.length = n0 ∧ St w t (B2 56 6 a0 c0 n0 af :: pc Q #[.slice v y0.net.Day.Trains.length p, .slice x y0.net.Day.Turns.length q, vi y0.net.least, vi y0.time, .slice l K k, .slice y L u] 69 :: M5 78 11 l k K C :: B2 50 5 y u L D :: R)) := by
 refine enter Tryz.func16 rfl rfl rfl fun a b => ?_
 rw [G1] at Y
 subst V
 subst X
 refine sg [.s,.p,.e,.s] d b fun a b => ?_
 replace d := d.vecNil 56 6
 refine sl [.p,.e,.q,.s,.p,.n,.f 4,.b 1,.l 78 11,.p,.e] d b fun a b => ?_
 have aM : y0.promises.length ≤ 9223372036854775807 := by have := (d.hotOpen 2 rfl).vecCap 0 rfl; unfold maxLen at this; omega
 obtain ⟨ag, g, Y⟩ := B4 Y
 refine W.cut (fun a w => ∃ o E F G n z, s.Le z ∧ o = ag ∧ Ev 6 H0 z n o ∧ o.length = G ∧ Rep a 30 [(3, .slice E G F)] ∧ St w z (B2 56 6 E F G n :: pc Q #[.slice v y0.net.Day.Trains.length p, .slice x y0.net.Day.Turns.length q, vi y0.net.least, vi y0.time, .slice l y0.promises.length k, .slice y y0.messages.length u] 69 :: M5 78 11 l k y0.promises.length C :: B2 50 5 y u y0.messages.length D :: R)) ?_ ?_
 ·refine W.block ?_
  refine W.loop (fun m a w => ∃ f J o E F G n z, f = m ∧ J + f = y0.promises.length ∧ s.Le z ∧ G1.loop1 y0 f J o = some ag ∧ Ev 6 H0 z n o ∧ o.length = G ∧ Rep a 30 [(3, .slice E G F), (10, .slice l y0.promises.length k), (11, vi ((y0.promises.length : Nat) : Int)), (12, vi ((J : Nat) : Int))] ∧ St w z (B2 56 6 E F G n :: pc Q #[.slice v y0.net.Day.Trains.length p, .slice x y0.net.Day.Turns.length q, vi y0.net.least, vi y0.time, .slice l y0.promises.length k, .slice y y0.messages.length u] 69 :: M5 78 11 l k y0.promises.length C :: B2 50 5 y u y0.messages.length D :: R)) (m := y0.promises.length) ⟨y0.promises.length, 0, [], none, 0, 0, [], s, rfl, by omega, lr, g, (Ev.nil), (rfl), b.pk, d⟩ ?_
  clear b d a w g; rintro aY a w ⟨f, J, o, E, F, G, n, z, rfl, aN, A, g, P, rfl, b, d⟩
  refine W.gen fun aZ S => ?_
  obtain ⟨i, j, B, H⟩ := m4 A i j B H
  rcases f with _ | f
  ·skip
   refine sg [.s,.p,.e,.q] d b fun a b => ?_
   refine W.condF b rfl (decide_eq_false (by omega)) ?_
   subst S
   refine W.exit rfl ?_
   exact ⟨o, E, F, o.length, n, z, A, oi g, P, rfl, b.pk, d⟩
  have aH : J < y0.promises.length := by omega
  rw [G1.loop1] at g
  refine sg [.s,.p,.e,.q] d b fun a b => ?_
  refine W.condT b rfl (decide_eq_true (by omega)) ?_
  refine sg [.k,.q,.o,.s] d b fun a b => ?_
  obtain ⟨c, ah, aI, ai, g⟩ := gxS g
  have Z := (d.hotOpen 2 rfl).vecAok 0 rfl (by omega : (((J : Nat) : Int)).toNat < y0.promises.length)
  refine vP d b (A6.idx b ((((J : Nat) : Int)).toNat) rfl rfl b0n ah (by omega) Z) rfl fun a b => ?_
  obtain ⟨a1, aO, aj⟩ := HEv.at B ai
  obtain ⟨aw, ax, ay, az, aA, aP, aB, aC, aD, aQ, aE, ak, am, aJ, aF, aG, T, a2, aR, a3, aS, aT, aK⟩ := aj
  subst aG
  refine vP d b (A6.loadA (cs := [vi c.Promise.From, vi c.Promise.To, vi c.Promise.Dep, vi c.Promise.Arr, vi c.Promise.State, .slice aw c.Promise.Journey.Rides.length ax, .slice ay aA az, .slice aB aD aC, .slice aE am ak, vi c.station, vi c.when]) b rfl (fun w h => (St.hotSees h 2 rfl aF rfl).part 0 11) b0Y) rfl fun a b => ?_
  refine al b d a2U fun aU a w b d => ?_
  refine so [.A 0,.e,.s,.f 0,.C 0 0 6] d b fun a w b d => ?_
  refine al b d b0c fun aV a w b d => ?_
  refine so [.A 0,.e,.s,.f 5,.f 0,.b 0] d b fun a w b d => ?_
  obtain ⟨I, aa, g⟩ := B4 g
  refine fq b (G4 d T aa) ?_; rintro _ w ⟨M, N, aW, aL, rfl, an, rfl, d⟩; refine ⟨_, rfl, fun a b => ?_⟩
  refine vP d b (A6.build b (vs := [(0, .slice M I.length N)]) [.slice M I.length N] rfl (by kernel_rfl)) rfl fun a b => ?_
  refine so [.f 5,.A 1,.e,.r,.p,.B 1] d b fun a w b d => ?_
  have hF := d.fixD A8.mono 0 rfl an rfl; clear d; obtain ⟨ap, O, d, aq⟩ := hF
  obtain ⟨T, P, i, j⟩ := m4 O T P i j
  obtain ⟨B, H⟩ := m2 O B H
  refine WL.lit b d (e := 56) (es := 6) (vs := [(0, .agg (List.toArray [vi c.Promise.From, vi c.Promise.To, vi c.Promise.Dep, vi c.Promise.Arr, vi c.Promise.State, .slice M I.length N]))]) (cs := [vi c.Promise.From, vi c.Promise.To, vi c.Promise.Dep, vi c.Promise.Arr, vi c.Promise.State, .slice M I.length N]) (A0 rfl) rfl (by kernel_rfl) rfl fun aX a w b d => ?_
  obtain ⟨U, ad, g⟩ := B4 g
  refine WL.appD b d 2 (m := 1) (A0 rfl) rfl rfl rfl b1v rfl P rfl (xs := [(C2.mk c.Promise.From c.Promise.To c.Promise.Dep c.Promise.Arr c.Promise.State (A3.mk I))]) (Ev.cons (c1 := [vi c.Promise.From, vi c.Promise.To, vi c.Promise.Dep, vi c.Promise.Arr, vi c.Promise.State, .slice M I.length N]) ⟨_, _, rfl, aq⟩ rfl (Ev.nil)) rfl rfl ad rfl fun ar au ae a w av b d => ?_
  refine so [.p,.e,.r,.i,.p,.e,.D 0,.D 0] d b fun a w b d => ?_
  subst S
  exact ⟨f, Nat.lt_succ_self _, f, J + 1, U, ar, au, U.length, ae, ap, rfl, (by omega), (Sg.Le.trans A O), g, av, (rfl), b.pk, d⟩
 clear b d a w; rintro a w ⟨o, E, F, G, n, z, A, rfl, P, rfl, b, d⟩
 obtain ⟨i, j, B, H⟩ := m4 A i j B H
 refine sg [.s,.p,.p,.e] d b fun a b => ?_
 refine W.ret ?_
 refine fg [_] b ?_
 obtain rfl := oi Y
 exact ⟨E, F, o.length, n, z, rfl, A, P, rfl, d⟩
set_option maxHeartbeats 8000000 in
theorem V4 {w : World} {P q u l K v L : Nat} {y0 : F3} {x y n z : Option Addr} {D : a0o} {E : List Value} (d : St w s (pc P #[.slice x y0.Newest.Trains.length q, .slice y y0.Newest.Turns.length u, vi y0.Least, vi y0.Time, .slice n K l, .slice z L v] 39 :: M5 83 1 n l K D :: B2 50 5 z v L E :: R)) (i : Sl 4 A7 s x q y0.Newest.Trains) (k : Sl 1 (RL 1 (RI .i64)) s y u y0.Newest.Turns) (C : HEv 1 C9 s D y0.sold) (X : y0.sold.length = K) (I : Ev 5 A5 s E y0.Told) (Y : y0.Told.length = L) {r : (List C2)} (Z : F0 y0 = some r) :
  Calls b2n 17 [pp P].toArray w (fun e w => ∃ (a0 : Option Addr) (c0 n0 : Nat) (ag : List Value) (t : Sg), e = .returned (.slice a0 n0 c0) ∧ s.Le t ∧ Ev 6 H0 t ag r ∧ r.length = n0 ∧ St w t (B2 56 6 a0 c0 n0 ag :: pc P #[.slice x y0.Newest.Trains.length q, .slice y y0.Newest.Turns.length u, vi y0.Least, vi y0.Time, .slice n K l, .slice z L v] 39 :: M5 83 1 n l K D :: B2 50 5 z v L E :: R)) := by
 refine enter Tryz.func17 rfl rfl rfl fun a b => ?_
 rw [F0] at Z
 subst X
 subst Y
 refine sg [.s,.p,.e,.s] d b fun a b => ?_
 replace d := d.vecNil 56 6
 refine sl [.p,.e,.q,.s,.p,.n,.f 4,.b 1,.l 83 1,.p,.e] d b fun a b => ?_
 have aE : y0.sold.length ≤ 9223372036854775807 := by have := (d.hotOpen 2 rfl).vecCap 0 rfl; unfold maxLen at this; omega
 obtain ⟨ah, g, Z⟩ := B4 Z
 refine W.cut (fun a w => ∃ p F G H o A, s.Le A ∧ p = ah ∧ Ev 6 H0 A o p ∧ p.length = H ∧ Rep a 32 [(3, .slice F H G)] ∧ St w A (B2 56 6 F G H o :: pc P #[.slice x y0.Newest.Trains.length q, .slice y y0.Newest.Turns.length u, vi y0.Least, vi y0.Time, .slice n y0.sold.length l, .slice z y0.Told.length v] 39 :: M5 83 1 n l y0.sold.length D :: B2 50 5 z v y0.Told.length E :: R)) ?_ ?_
 ·refine W.block ?_
  refine W.loop (fun m a w => ∃ f J p F G H o A, f = m ∧ J + f = y0.sold.length ∧ s.Le A ∧ F0.loop1 y0 f J p = some ah ∧ Ev 6 H0 A o p ∧ p.length = H ∧ Rep a 32 [(3, .slice F H G), (10, .slice n y0.sold.length l), (11, vi ((y0.sold.length : Nat) : Int)), (12, vi ((J : Nat) : Int))] ∧ St w A (B2 56 6 F G H o :: pc P #[.slice x y0.Newest.Trains.length q, .slice y y0.Newest.Turns.length u, vi y0.Least, vi y0.Time, .slice n y0.sold.length l, .slice z y0.Told.length v] 39 :: M5 83 1 n l y0.sold.length D :: B2 50 5 z v y0.Told.length E :: R)) (m := y0.sold.length) ⟨y0.sold.length, 0, [], none, 0, 0, [], s, rfl, by omega, lr, g, (Ev.nil), (rfl), b.pk, d⟩ ?_
  clear b d a w g; rintro aP a w ⟨f, J, p, F, G, H, o, A, rfl, aF, B, g, N, rfl, b, d⟩
  refine W.gen fun aQ T => ?_
  obtain ⟨i, k, C, I⟩ := m4 B i k C I
  rcases f with _ | f
  ·skip
   refine sg [.s,.p,.e,.q] d b fun a b => ?_
   refine W.condF b rfl (decide_eq_false (by omega)) ?_
   subst T
   refine W.exit rfl ?_
   exact ⟨p, F, G, p.length, o, A, B, oi g, N, rfl, b.pk, d⟩
  have aA : J < y0.sold.length := by omega
  rw [F0.loop1] at g
  refine sg [.s,.p,.e,.q] d b fun a b => ?_
  refine W.condT b rfl (decide_eq_true (by omega)) ?_
  refine sg [.k,.q,.o,.s] d b fun a b => ?_
  obtain ⟨c, ai, aB, aj, g⟩ := gxS g
  have aa := (d.hotOpen 2 rfl).vecAok 0 rfl (by omega : (((J : Nat) : Int)).toNat < y0.sold.length)
  refine vP d b (A6.idx b ((((J : Nat) : Int)).toNat) rfl rfl a9I ai (by omega) aa) rfl fun a b => ?_
  obtain ⟨aR, ak, am⟩ := HEv.at C aj
  obtain ⟨aG, aw, ax, aS, aT, aU, aH, aV, aW, aX, aI, aY, aJ, aK, aC, ay, az, U, aZ, rfl, a1, rfl, aL, rfl⟩ := am
  subst az
  refine vP d b (A6.load1 b rfl (fun w h => (St.hotSees h 2 rfl ay rfl).one (j := 0) rfl) a9q) rfl fun a b => ?_
  refine sl [.p,.e,.s,.p,.n,.f 0] d b fun a b => ?_
  refine vP d b (A6.loadA (cs := [vi c.Promise.From, vi c.Promise.To, vi c.Promise.Dep, vi c.Promise.Arr, vi c.Promise.State, .slice aw c.Promise.Journey.Rides.length ax]) b rfl (fun w h => (St.hotObjSees 2 h rfl ak).part 0 6) b2g) rfl fun a b => ?_
  refine al b d b0c fun aM a w b d => ?_
  refine so [.A 0,.e,.s,.f 5,.f 0,.b 0] d b fun a w b d => ?_
  obtain ⟨O, ad, g⟩ := B4 g
  refine fq b (G4 d U ad) ?_; rintro _ w ⟨Q, S, aN, aD, rfl, an, rfl, d⟩; refine ⟨_, rfl, fun a b => ?_⟩
  refine so [.f 5,.f 0,.S 1,.e,.r,.p,.B 1] d b fun a w b d => ?_
  have hF := d.fixD A8.mono 0 rfl an rfl; clear d; obtain ⟨ap, M, d, aq⟩ := hF
  obtain ⟨U, N, i, k⟩ := m4 M U N i k
  obtain ⟨C, I⟩ := m2 M C I
  refine WL.lit b d (e := 56) (es := 6) (vs := [(0, .agg (List.toArray [vi c.Promise.From, vi c.Promise.To, vi c.Promise.Dep, vi c.Promise.Arr, vi c.Promise.State, .slice Q O.length S]))]) (cs := [vi c.Promise.From, vi c.Promise.To, vi c.Promise.Dep, vi c.Promise.Arr, vi c.Promise.State, .slice Q O.length S]) (A0 rfl) rfl (by kernel_rfl) rfl fun aO a w b d => ?_
  obtain ⟨V, ae, g⟩ := B4 g
  refine WL.appD b d 1 (m := 1) (A0 rfl) rfl rfl rfl b1v rfl N rfl (xs := [(C2.mk c.Promise.From c.Promise.To c.Promise.Dep c.Promise.Arr c.Promise.State (A3.mk O))]) (Ev.cons (c1 := [vi c.Promise.From, vi c.Promise.To, vi c.Promise.Dep, vi c.Promise.Arr, vi c.Promise.State, .slice Q O.length S]) ⟨_, _, rfl, aq⟩ rfl (Ev.nil)) rfl rfl ae rfl fun ar au af a w av b d => ?_
  refine so [.p,.e,.r,.i,.p,.e,.D 0] d b fun a w b d => ?_
  subst T
  exact ⟨f, Nat.lt_succ_self _, f, J + 1, V, ar, au, V.length, af, ap, rfl, (by omega), (Sg.Le.trans B M), g, av, (rfl), b.pk, d⟩
 clear b d a w; rintro a w ⟨p, F, G, H, o, A, B, rfl, N, rfl, b, d⟩
 obtain ⟨i, k, C, I⟩ := m4 B i k C I
 refine sg [.s,.p,.p,.e] d b fun a b => ?_
 refine W.ret ?_
 refine fg [_] b ?_
 obtain rfl := oi Z
 exact ⟨F, G, p.length, o, A, rfl, B, N, rfl, d⟩
set_option maxHeartbeats 8000000 in
theorem Z7 {w : World} {x0 : C2} {h i : Option Addr} {j k : Nat} {x1 : C2} (d : St w s (R)) (u : Sl 3 A8 s h j x0.Journey.Rides) (v : Sl 3 A8 s i k x1.Journey.Rides) {r : Bool} (q : O3 x0 x1 = some r) :
  Calls b2n 18 [.agg (List.toArray [vi x0.From, vi x0.To, vi x0.Dep, vi x0.Arr, vi x0.State, .slice h x0.Journey.Rides.length j]), .agg (List.toArray [vi x1.From, vi x1.To, vi x1.Dep, vi x1.Arr, vi x1.State, .slice i x1.Journey.Rides.length k])].toArray w (fun e w => e = .returned (.bool r) ∧ St w s (R)) := by
 refine enter Tryz.func18 rfl rfl rfl fun a c => ?_
 rw [O3] at q
 refine sg [.s] d c fun a c => ?_
 refine bw c d fun y a w c d => ?_
 refine bw c d fun z a w c d => ?_
 refine sl [.p,.e,.q] d c fun a c => ?_
 obtain ⟨A, b, q⟩ := B4 q
 refine W.cut (fun a w => ∃ p, p = A ∧ Rep a 47 [(4, .bool p)] ∧ St w s (pc z #[vi x1.From, vi x1.To, vi x1.Dep, vi x1.Arr, vi x1.State, .slice i x1.Journey.Rides.length k] 56 :: pc y #[vi x0.From, vi x0.To, vi x0.Dep, vi x0.Arr, vi x0.State, .slice h x0.Journey.Rides.length j] 56 :: R)) ?_ ?_
 ·refine W.gen fun C f => ?_
  refine sg [.r,.f 0,.b 1,.f 0,.b 0,.p,.p] d c fun a c => ?_
  rcases b2o (x0.From == x1.From) with l | l
  ·replace b := iteT l b
   refine sl [.f 1,.b 1,.f 1,.b 0,.p,.T,.p] d c fun a c => ?_
   rcases b2o (x0.To == x1.To) with m | m
   ·replace b := iteT m b
    refine sl [.f 2,.b 1,.f 2,.b 0,.p,.T,.p] d c fun a c => ?_
    rcases b2o (x0.Dep == x1.Dep) with n | n
    ·replace b := iteT n b
     refine sl [.f 3,.b 1,.f 3,.b 0,.p,.T,.p] d c fun a c => ?_
     rcases b2o (x0.Arr == x1.Arr) with o | o
     ·replace b := iteT o b
      refine sl [.f 4,.b 1,.f 4,.b 0,.p,.T,.p] d c fun a c => ?_
      rcases b2o (x0.State == x1.State) with g | g
      ·replace b := iteT g b
       refine sl [.f 5,.f 0,.b 1,.f 5,.f 0,.b 0] d c fun a c => ?_
       obtain ⟨B, x, b⟩ := B4 b
       have t := R6 d u v x
       refine WL.fnq c (t) (F9 c rfl rfl rfl g) b2l rfl rfl rfl ?_
       clear c d t; rintro e w ⟨rfl, d⟩; refine ⟨_, rfl, ?_⟩; clear a; intro a c
       refine sl [.T,.p,.e] d c fun a c => ?_
       subst f
       exact ⟨B, oi b, c.pk, d⟩
      replace b := iteF g b
      refine sl [.O,.O,.O,.O,.O,.O,.O,.N,.p,.e] d c fun a c => ?_
      subst f
      exact ⟨false, oi b, c.pk, d⟩
     replace b := iteF o b
     refine sl [.O,.O,.O,.O,.O,.N,.p,.O,.O,.O,.O,.O,.O,.O,.N,.p,.e] d c fun a c => ?_
     subst f
     exact ⟨false, oi b, c.pk, d⟩
    replace b := iteF n b
    refine sl [.O,.O,.O,.O,.O,.N,.p,.O,.O,.O,.O,.O,.N,.p,.O,.O,.O,.O,.O,.O,.O,.N,.p,.e] d c fun a c => ?_
    subst f
    exact ⟨false, oi b, c.pk, d⟩
   replace b := iteF m b
   refine sl [.O,.O,.O,.O,.O,.N,.p,.O,.O,.O,.O,.O,.N,.p,.O,.O,.O,.O,.O,.N,.p,.O,.O,.O,.O,.O,.O,.O,.N,.p,.e] d c fun a c => ?_
   subst f
   exact ⟨false, oi b, c.pk, d⟩
  replace b := iteF l b
  refine sl [.O,.O,.O,.O,.O,.N,.p,.O,.O,.O,.O,.O,.N,.p,.O,.O,.O,.O,.O,.N,.p,.O,.O,.O,.O,.O,.N,.p,.O,.O,.O,.O,.O,.O,.O,.N,.p,.e] d c fun a c => ?_
  subst f
  exact ⟨false, oi b, c.pk, d⟩
 clear c d a w; rintro a w ⟨p, rfl, c, d⟩
 refine W.ret ?_
 refine fg [_] c ?_
 obtain rfl := oi q
 replace d := pm [.D 0,.D 0] d
 exact ⟨rfl, d⟩
set_option maxHeartbeats 8000000 in
theorem R9 {w : World} {x0 : List C2} {q t : Option Addr} {u v : Nat} {x1 : List C2} (c : St w s (R)) (C : Sl 6 H0 s q u x0) (I : Sl 6 H0 s t v x1) {r : Bool} (g : D3 x0 x1 = some r) :
  Calls b2n 15 [.slice q x0.length u, .slice t x1.length v, .func (.func 18) #[] #[]].toArray w (fun e w => e = .returned (.bool r) ∧ St w s (R)) := by
 refine enter Tryz.func15 rfl rfl rfl fun a b => ?_
 rw [D3] at g
 refine sg [.s,.p,.e,.q,.s,.p,.l 56 6,.p,.l 56 6,.p,.e] c b fun a b => ?_
 refine W.cond b rfl (fun j => ?_) (fun j => ?_)
 ·replace g := iteT j g
  refine sg [.s,.p,.e] c b fun a b => ?_
  refine W.ret ?_
  refine fg [_] b ?_
  obtain rfl := oi g
  exact ⟨rfl, c⟩
 replace g := iteF j g
 refine sg [.k,.q,.s,.p,.l 56 6,.p,.e] c b fun a b => ?_
 obtain ⟨o, d, g⟩ := B4 g
 refine W.cut (fun a w => (.next ()) = o ∧ Rep a 32 [] ∧ St w s (R)) ?_ ?_
 ·refine W.block ?_
  refine W.loop (fun m a w => ∃ f i, f.length = m ∧ x0.drop i = f ∧ D3.loop1 x1 f i = some o ∧ Rep a 32 [(1, .slice t x1.length v), (2, .func (.func 18) #[] #[]), (15, .slice q x0.length u), (16, vi ((x0).length : Int)), (17, vi ((i : Nat) : Int))] ∧ St w s (R)) (m := x0.length) ⟨x0, 0, rfl, rfl, d, b.pk, c⟩ ?_
  clear b c a w d; rintro O a w ⟨f, i, rfl, h, d, b, c⟩
  refine W.gen fun P k => ?_
  rcases f with _ | ⟨Q, f⟩
  ·have n := E8 h
   refine sg [.s,.p,.e,.q] c b fun a b => ?_
   refine W.condF b rfl (decide_eq_false (by omega)) ?_
   subst k
   refine W.exit rfl ?_
   exact ⟨oi d, b.pk, c⟩
  obtain ⟨n, x, h⟩ := C3 h
  rw [D3.loop1] at d
  refine sg [.s,.p,.e,.q] c b fun a b => ?_
  refine W.condT b rfl (decide_eq_true (by omega)) ?_
  obtain ⟨J, K, y, F⟩ := C.at x
  obtain ⟨S, T, rfl, D⟩ := y
  refine sg [.k,.q,.o,.s,.p,.x 56,.h] c b fun a b => ?_
  refine al b c b0c fun U a w b c => ?_
  obtain ⟨V, L, G, z, d⟩ := gxS d
  obtain ⟨M, N, A, H⟩ := I.at z
  obtain ⟨X, Y, rfl, E⟩ := A
  refine so [.p,.A 0,.e,.s,.p,.p,.x 56,.h] c b fun a w b c => ?_
  refine al b c b0c fun Z a w b c => ?_
  refine so [.A 0,.e,.s,.p,.B 1,.B 0] c b fun a w b c => ?_
  obtain ⟨aa, B, d⟩ := B4 d
  have p := Z7 c D E B
  refine WL.fnw b (p) rfl (A0 rfl) b1S rfl rfl rfl ?_
  clear b c p; rintro e w ⟨rfl, c⟩; refine ⟨_, rfl, ?_⟩; clear a; intro a b
  refine sl [.p,.e] c b fun a b => ?_
  refine W.cond b rfl (fun l => ?_) (fun l => ?_)
  ·replace d := iteT l d
   refine sg [.s,.p,.e] c b fun a b => ?_
   refine W.ret ?_
   subst k
   rw [← oi d] at g
   dsimp only at g
   refine fg [_] b ?_
   obtain rfl := oi g
   replace c := pm [.D 0,.D 0] c
   exact ⟨rfl, c⟩
  replace d := iteF l d
  have := C.small
  refine sm [.k,.r,.i,.p,.e,.D 0,.D 0] c b fun a w b c => ?_
  subst k
  exact ⟨f.length, Nat.lt_succ_self _, f, i + 1, rfl, h, d, b.pk, c⟩
 clear b c a w; rintro a w ⟨rfl, b, c⟩
 dsimp only at g
 refine sg [.s,.p,.e] c b fun a b => ?_
 refine W.ret ?_
 refine fg [_] b ?_
 obtain rfl := oi g
 exact ⟨rfl, c⟩
set_option maxHeartbeats 8000000 in
theorem U9 {w : World} {x0 : List A4} {f : Option Addr} {g : Nat} (c : St w s (R)) (l : Sl 5 A5 s f g x0) {r : (List A4)} (d : K2 x0 = some r) :
  Calls b2n 42 [.slice f x0.length g].toArray w (fun e w => ∃ (f : Option Addr) (g i : Nat) (h : List Value), e = .returned (.slice f i g) ∧ Ev 5 A5 s h r ∧ r.length = i ∧ St w s (B2 50 5 f g i h :: R)) := by
 refine enter Tryz.func42 rfl rfl rfl fun a b => ?_
 rw [K2] at d
 refine sg [.s,.p,.e,.q,.s,.p] c b fun a b => ?_
 refine vP c b (A6.isNil b rfl rfl b0P) rfl fun a b => WL.nil ?_
 rcases f with _ | u
 ·obtain rfl := l.none_nil
  replace d : some [] = _ := d
  refine W.condT b rfl rfl ?_
  refine sg [.s,.p,.e] c b fun a b => ?_
  refine W.ret ?_
  replace c := c.vecNil 50 5
  refine fg [_] b ?_
  obtain rfl := oi d
  exact ⟨none, 0, 0, [], rfl, (Ev.nil), (rfl), c⟩
 skip
 refine W.condF b rfl rfl ?_
 refine sg [.k,.s] c b fun a b => ?_
 refine WL.lit b c (e := 50) (es := 5) (vs := []) (cs := []) (A0 rfl) rfl (by kernel_rfl) rfl fun v a w b c => ?_
 replace c := c.ptVec (es := 5) (m := 0) rfl (by decide)
 have n : Ev 5 A5 s [] [] := (Ev.nil)
 refine sl [.p] c b fun a b => ?_
 obtain ⟨o, j, d⟩ := B4 d
 refine WL.appS b c 0 (A0 rfl) rfl rfl (xs := x0) rfl rfl a6K A5.one n (rfl) l j rfl fun p q k a w t b c => ?_
 refine sl [.p,.e] c b fun a b => ?_
 refine W.ret ?_
 refine fg [_] b ?_
 obtain rfl := oi d
 exact ⟨p, q, o.length, k, rfl, t, (rfl), c⟩
set_option maxHeartbeats 8000000 in
theorem Y1 {w : World} {t c d k f l g : Nat} {y0 : G3} {i j m n : Option Addr} {o : a0o} {p : List Value} (b : St w s (pc t #[.slice i y0.net.Day.Trains.length c, .slice j y0.net.Day.Turns.length d, vi y0.net.least, vi y0.time, .slice m f k, .slice n g l] 69 :: M5 78 11 m k f o :: B2 50 5 n l g p :: R)) (G : Sl 4 A7 s i c y0.net.Day.Trains) (H : Sl 1 (RL 1 (RI .i64)) s j d y0.net.Day.Turns) (N : HEv 11 D0 s o y0.promises) (v : y0.promises.length = f) (A : Ev 5 A5 s p y0.messages) (x : y0.messages.length = g) {r : (List A4)} (y : N4 y0 = some r) :
  Calls b2n 19 [pp t].toArray w (fun e w => ∃ (I : Option Addr) (J B : Nat) (z : List Value), e = .returned (.slice I B J) ∧ Ev 5 A5 s z r ∧ r.length = B ∧ St w s (B2 50 5 I J B z :: pc t #[.slice i y0.net.Day.Trains.length c, .slice j y0.net.Day.Turns.length d, vi y0.net.least, vi y0.time, .slice m f k, .slice n g l] 69 :: M5 78 11 m k f o :: B2 50 5 n l g p :: R)) := by
 refine enter Tryz.func19 rfl rfl rfl fun a q => ?_
 rw [N4] at y
 subst v
 subst x
 refine sg [.s,.p,.e,.s,.p,.n,.f 5,.b 0] b q fun a q => ?_
 obtain ⟨K, C, y⟩ := B4 y
 have hF := b.lendV A5.mono 2 rfl A (rfl); clear b; obtain ⟨P, O, b, D, E⟩ := hF
 refine fq q (U9 b D C) ?_; rintro _ w ⟨L, M, Q, F, rfl, u, rfl, b⟩; refine ⟨_, rfl, fun a q => ?_⟩
 replace b := E _ _ b
 replace u := Ev.flat (s2 := s) (fun _ _ _ _ h => h) u
 refine sl [.p,.e] b q fun a q => ?_
 refine W.ret ?_
 refine fg [_] q ?_
 obtain rfl := oi y
 replace b := pm [.F 3,.F 3,.F 3] b
 exact ⟨L, M, K.length, F, rfl, u, rfl, b⟩
end Go.Proofs.YthllfhmpjclplaaGreatDoor
