/- Runs of plain operations told by a list of short words, one line for each run. No condition. -/
import Derived.Test.YthllfhmpjclplaaGreatDoorFpPln
import Derived.Test.YthllfhmpjclplaaGreatDoorFpFld
namespace Go.Fp
open Go
inductive Cd
  | p | f (o : Nat) | n | b (i : Nat) | B (i : Nat) | l (e m : Nat) | s | q | r | e | k | o | S (i : Nat) | A (i : Nat) | F (i : Nat) | D (i : Nat)
  | x (e : Nat) | h | H | y (i : Nat) | g (i : Nat) | G (i : Nat) | z (i j : Nat) | i | C (i o k : Nat) | v (o t : Nat) | T | N | O | U
inductive Rd'
  | P (i : Nat) (c : Cd) | T (i : Nat) (b : Bool) (c : Cd)
structure GC (c : Cd) (P : Program) (C : World → Prop) (n : Nat) (E : Env) (o : Oper) (v : Value) : Prop where
  go : ∀ a, Rep a n E → A6 P C a o v
section
variable {P : Program} {C : World → Prop} {s : Sg} {R : List HP} {n : Nat} {E : Env} {d : Option Tmp} {ty : TypeId} {pos : String} {aft : Array Edge} {g : Option (Nat × Bool)} {o : Oper} {v : Value} {α : Type} {Rr : Rd α} {t : TypeId} {z : Operand}
theorem GC.p_ (hv : pop E.ev o.op = some v) : GC .p P C n E o v := ⟨fun _ hE => A6.p hE hv⟩
theorem GC.f_ {f off b o : Nat} (hx : E.ev z = some (.pointer (some ⟨b, o, none⟩))) (ht : a0x P t f off = true) : GC (.f off) P C n E ⟨d, .fieldAddr t z f, ty, pos, aft, g⟩ (.pointer (some ⟨b, o + off, none⟩)) := ⟨fun _ hE => A6.fld hE hx ht⟩
theorem GC.n_ {p : Addr} (hx : E.ev z = some (.pointer (some p))) : GC .n P C n E ⟨d, .nilCheck z, ty, pos, aft, g⟩ (.pointer (some p)) := ⟨fun _ hE => A6.nilOk hE hx⟩
theorem GC.b_ {b off : Nat} {c : List Value} {T : TypeId} {fr : Nat × Nat} {i : Nat} (hx : E.ev z = some (.pointer (some ⟨b, off, none⟩))) (hr : R[i]? = some (pt b (.cells c.toArray T fr))) (hv : c[off]? = some v) (ht : Q8 P t false 1 = true) :
    GC (.b i) P (fun w => St w s R) n E ⟨d, .load t z, ty, pos, aft, g⟩ v := ⟨fun _ hE => A6.loadB hE i hx hr hv ht⟩
theorem GC.B_ {b : Nat} {c : List Value} {T : TypeId} {fr : Nat × Nat} {i : Nat} (hx : E.ev z = some (.pointer (some ⟨b, 0, none⟩))) (hr : R[i]? = some (pt b (.cells c.toArray T fr))) (ht : Q8 P t true c.length = true) :
    GC (.B i) P (fun w => St w s R) n E ⟨d, .load t z, ty, pos, aft, g⟩ (.agg c.toArray) := ⟨fun _ hE => A6.loadBA hE i hx hr ht⟩
theorem GC.C_ {b : Nat} {c : List Value} {T : TypeId} {fr : Nat × Nat} {i o k : Nat} (hx : E.ev z = some (.pointer (some ⟨b, o, none⟩))) (hr : R[i]? = some (pt b (.cells c.toArray T fr))) (ht : Q8 P t true ((c.drop o).take k).length = true) :
    GC (.C i o k) P (fun w => St w s R) n E ⟨d, .load t z, ty, pos, aft, g⟩ (.agg ((c.drop o).take k).toArray) := ⟨fun _ hE => A6.loadA hE hx (fun _ h => by have := (St.seesAt h i hr).part o k; rwa [Nat.zero_add] at this) ht⟩
theorem GC.l_ {e es : TypeId} {sa : Option Addr} {m c : Nat} (hx : E.ev z = some (.slice sa m c)) (ht : a0q P t e es = true) : GC (.l e es) P C n E ⟨d, .call ⟨.builtin .len, #[z], #[t]⟩, ty, pos, aft, g⟩ (.int .i64 m) := ⟨fun _ hE => A6.len hE hx ht⟩
theorem GC.x_ {e es : TypeId} {ix : Operand} {sa : Option Addr} {c : Nat} {kd : IntKind} {i : Int} {k : Nat} {l : List α} (hx : E.ev z = some (.slice sa l.length c)) (hi : E.ev ix = some (.int kd i)) (hik : i = (k : Int)) (hlt : k < l.length) (hl : Sl es Rr s sa c l) (ht : a0q P t e es = true) :
    GC (.x e) P C n E ⟨d, .indexAddr t z ix, ty, pos, aft, g⟩ (.pointer (some ⟨ab sa, ao sa + k * es, none⟩)) := ⟨fun _ hE => A6.idx hE k hx hi ht hik hlt (hl.aok hlt)⟩
theorem GC.h_ {b off : Nat} {cs : List Value} (hx : E.ev z = some (.pointer (some ⟨b, off, none⟩))) (hs : ∀ w rs, St w s rs → a0M w b off cs) (ht : Q8 P t true cs.length = true) : GC .h P (fun w => St w s R) n E ⟨d, .load t z, ty, pos, aft, g⟩ (.agg cs.toArray) :=
  ⟨fun _ hE => A6.loadA hE hx (fun w h => hs w _ h) ht⟩
theorem GC.H_ {b off : Nat} (hx : E.ev z = some (.pointer (some ⟨b, off, none⟩))) (hs : ∀ w rs, St w s rs → a0M w b off [v]) (ht : Q8 P t false 1 = true) : GC .H P (fun w => St w s R) n E ⟨d, .load t z, ty, pos, aft, g⟩ v :=
  ⟨fun _ hE => A6.load1 hE hx (fun w h => hs w _ h) ht⟩
theorem GC.y_ {e es : TypeId} {ix : Operand} {sa : Option Addr} {m c : Nat} {kd : IntKind} {i : Int} {k j : Nat} {cs : List Value} (hx : E.ev z = some (.slice sa m c)) (hi : E.ev ix = some (.int kd i)) (hik : i = (k : Int)) (hr : R[j]? = some (B2 e es sa c m cs)) (ht : a0q P t e es = true) (hkm : k < m) :
    GC (.y j) P (fun w => St w s R) n E ⟨d, .indexAddr t z ix, ty, pos, aft, g⟩ (.pointer (some ⟨ab sa, ao sa + k * es, none⟩)) := ⟨fun _ hE w hw => A6.idx (C := fun _ => True) hE k hx hi ht hik hkm (St.vecAok hw j hr hkm) w trivial⟩
theorem GC.g_ {e es p j : Nat} {sa : Option Addr} {m c : Nat} {cs : List Value} (hx : E.ev z = some (.pointer (some ⟨ab sa, ao sa + p, none⟩))) (hr : R[j]? = some (B2 e es sa c m cs)) (hg : ∀ j u, [v][j]? = some u → cs[p + j]? = some u) (ht : Q8 P t false 1 = true) :
    GC (.g j) P (fun w => St w s R) n E ⟨d, .load t z, ty, pos, aft, g⟩ v := ⟨fun _ hE => A6.load1 hE hx (fun _ h => St.vecSees h j hr p _ hg) ht⟩
theorem GC.G_ {e es p j : Nat} {sa : Option Addr} {m c : Nat} {cs vs : List Value} (hx : E.ev z = some (.pointer (some ⟨ab sa, ao sa + p, none⟩))) (hr : R[j]? = some (B2 e es sa c m cs)) (hg : ∀ j u, vs[j]? = some u → cs[p + j]? = some u) (ht : Q8 P t true vs.length = true) :
    GC (.G j) P (fun w => St w s R) n E ⟨d, .load t z, ty, pos, aft, g⟩ (.agg vs.toArray) := ⟨fun _ hE => A6.loadA hE hx (fun _ h => St.vecSees h j hr p _ hg) ht⟩
theorem GC.z_ {b o m i j : Nat} {Z : List Value → HP} {vs : List Value} (hx : E.ev z = some (.pointer (some ⟨b, o + j, none⟩))) (hr : R[i]? = some (Z vs)) (hZ : a1D b o m Z) (hm : vs.length = m) (hv : vs[j]? = some v) (ht : Q8 P t false 1 = true) :
    GC (.z i j) P (fun w => St w s R) n E ⟨d, .load t z, ty, pos, aft, g⟩ v := ⟨fun _ hE => A6.loadZN hZ hE i j hx hr hm hv ht⟩
theorem GC.i_ {t' : TypeId} {k : Nat} (hx : E.ev z = some (.int .i64 (k : Int))) (hk : k < 9223372036854775807) : GC .i P C n E ⟨d, .binOp .add t z (.const (.int .i64 1)) t', ty, pos, aft, g⟩ (.int .i64 ((k + 1 : Nat) : Int)) := ⟨fun _ hE => A6.inc hE hx hk⟩
theorem GC.v_ {f off ft : Nat} {cs : List Value} (hx : E.ev z = some (.agg cs.toArray)) (h : a7L P t f off ft = true) (ht : Q8 P ft false 1 = true) (hv : cs[off]? = some v) : GC (.v off ft) P C n E ⟨d, .field t z f, ty, pos, aft, g⟩ v := ⟨fun _ hE => A6.field1 hE hx h ht hv⟩
theorem GC.T_ {c x y : Operand} {b : Bool} (hc : E.ev c = some (.bool b)) (hb : b = true) (hx : E.ev x = some v) : GC .T P C n E ⟨d, .pick c x y, ty, pos, aft, g⟩ v := ⟨fun _ hE => A6.pickT hE hc hb hx⟩
theorem GC.N_ {c x y : Operand} {b : Bool} (hc : E.ev c = some (.bool b)) (hb : b = false) (hy : E.ev y = some v) : GC .N P C n E ⟨d, .pick c x y, ty, pos, aft, g⟩ v := ⟨fun _ hE => A6.pickF hE hc hb hy⟩
end
def Wn (n : Nat) (E : Env) (ops : Array Oper) (o : Oper) : Prop := ∀ a, Rep a n E → Region.wanted o (yielded ops a.tmps) = true
theorem wn0 {n : Nat} {E : Env} {ops : Array Oper} {o : Oper} (h : o.guard = none) : Wn n E ops o := fun _ _ => A0 h
theorem wn1 {n : Nat} {E : Env} {ops : Array Oper} {o : Oper} {j d : Nat} {b c : Bool} (h : o.guard = some (j, b)) (hj : (ops[j]?).bind (·.dst) = some d) (hd : E.get d = some (.bool c)) (hbc : c = b) : Wn n E ops o := fun _ hE => F9 hE h hj hd hbc
structure Seg (H : Prop) (n : Nat) (cs : List Cd) (E : Env) (X : Act → Prop) (E' : Env) (Y : Act → Prop) : Prop where
  go : H → ∀ a, Rep a n E → (∀ a, Rep a n E' → Y a) → X a
structure a0K (s : Sg) (n : Nat) (cs : List Cd) (E : Env) (R : List HP) (X : Act → World → Prop) (E' : Env) (R' : List HP) (Y : Act → World → Prop) : Prop where
  go : ∀ a w, Rep a n E → St w s R → (∀ a w, Rep a n E' → St w s R' → Y a w) → X a w
section
variable {P : Program} {K : Kt} {w : World} {s : Sg} {R R' : List HP} {n : Nat} {E E' E1 : Env} {ops : Array Oper} {l : List Oper} {d : Option Tmp} {ty : TypeId} {pos : String} {aft : Array Edge} {H : Prop} {X Y : Act → Prop} {U V Z : Act → World → Prop} {cs : List Cd} {c : Cd} {o : Oper} {v : Value} {x y : Code} {id : Nat}
theorem Seg.z_ : Seg H n [] E X E X := ⟨fun _ a h k => k a h⟩
theorem Seg.s_ (hd : Y3 l = true) (q : Seg H n cs E (fun a => WL P l.toArray { K with nor := fun a w => W P y K a w } l a w) E' Y) : Seg H n (.s :: cs) E (fun a => W P (.seq (.region id l.toArray false) y) K a w) E' Y := ⟨fun h a hE k => W.seq (W.region (q.go h a hE k) hd)⟩
theorem Seg.q_ (q : Seg H n cs E (fun a => W P x { K with nor := fun a w => W P y K a w } a w) E' Y) : Seg H n (.q :: cs) E (fun a => W P (.seq x y) K a w) E' Y := ⟨fun h a hE k => W.seq (q.go h a hE k)⟩
theorem Seg.r_ (hd : Y3 l = true) (q : Seg H n cs E (fun a => WL P l.toArray K l a w) E' Y) : Seg H n (.r :: cs) E (fun a => W P (.region id l.toArray false) K a w) E' Y := ⟨fun h a hE k => W.region (q.go h a hE k) hd⟩
theorem Seg.e_ (q : Seg H n cs E (fun a => K.nor a w) E' Y) : Seg H n (.e :: cs) E (fun a => WL P ops K [] a w) E' Y := ⟨fun h a hE k => WL.nil (q.go h a hE k)⟩
theorem Seg.k_ (q : Seg H n cs E (fun a => K.nor a w) E' Y) : Seg H n (.k :: cs) E (fun a => W P .skip K a w) E' Y := ⟨fun h a hE k => W.skip (q.go h a hE k)⟩
theorem Seg.o_ (q : Seg H n cs E (fun a => W P x { K with ex := (id, K.nor) :: K.ex } a w) E' Y) : Seg H n (.o :: cs) E (fun a => W P (.block id x) K a w) E' Y := ⟨fun h a hE k => W.block (q.go h a hE k)⟩
theorem Seg.g_ (g : GC c P (fun w => St w s R) n E o v) (hd : J5 o.dst n = true) (hg : Wn n E ops o) (q : Seg (St w s R) n cs (E.put o.dst v) (fun a => WL P ops K l a w) E' Y) : Seg (St w s R) n (c :: cs) E (fun a => WL P ops K (o :: l) a w) E' Y :=
  ⟨fun h a hE k => WL.v (C := fun w => St w s R) h hE (hg a hE) (g.go a hE) hd fun a hE => q.go h a hE k⟩
theorem Seg.O_ {j d' : Nat} {b b' : Bool} (h : o.guard = some (j, b)) (hj : (ops[j]?).bind (·.dst) = some d') (hd' : E.get d' = some (.bool b')) (hbc : b' = !b) (hd : J5 o.dst n = true) (q : Seg H n cs (E.put o.dst undef) (fun a => WL P ops K l a w) E' Y) : Seg H n (.O :: cs) E (fun a => WL P ops K (o :: l) a w) E' Y :=
  ⟨fun h0 _ hE k => WL.no hE (K0 hE h hj hd' (by rw [hbc]; cases b <;> decide)) hd fun a hE => q.go h0 a hE k⟩
theorem Seg.U_ {j d' : Nat} {b : Bool} (h : o.guard = some (j, b)) (hj : (ops[j]?).bind (·.dst) = some d') (hd' : E.get d' = some undef) (hd : J5 o.dst n = true) (q : Seg H n cs (E.put o.dst undef) (fun a => WL P ops K l a w) E' Y) : Seg H n (.U :: cs) E (fun a => WL P ops K (o :: l) a w) E' Y :=
  ⟨fun h0 _ hE k => WL.no hE (a2n hE h hj hd') hd fun a hE => q.go h0 a hE k⟩
theorem sg (cs : List Cd) {a : Act} (hS : St w s R) (hE : Rep a n E) (k : ∀ a, Rep a n E' → Y a)
    (h : Seg (St w s R) n cs E (fun a => W P x K a w) E' Y := by
      repeat (first
        | (apply Seg.g_; (first | (apply GC.p_; exact rfl) | (apply GC.f_; exact rfl; kernel_rfl) | (apply GC.b_; exact rfl; exact rfl; exact rfl; kernel_rfl) | (apply GC.n_; exact rfl) | (apply GC.B_; exact rfl; exact rfl; kernel_rfl) | (apply GC.l_; exact rfl; kernel_rfl) | (apply GC.x_; exact rfl; exact rfl; (first | exact rfl | assumption); assumption; assumption; kernel_rfl) | (apply GC.h_; exact rfl; assumption; kernel_rfl) | (apply GC.H_; exact rfl; assumption; kernel_rfl) | (apply GC.y_; exact rfl; exact rfl; (first | exact rfl | assumption); exact rfl; kernel_rfl; (first | assumption | omega)) | (apply GC.g_; exact rfl; exact rfl; assumption; kernel_rfl) | (apply GC.G_; exact rfl; exact rfl; assumption; kernel_rfl) | (apply GC.z_; exact rfl; exact rfl; assumption; exact rfl; exact rfl; kernel_rfl) | (apply GC.i_; exact rfl; omega) | (apply GC.C_; exact rfl; exact rfl; kernel_rfl) | (apply GC.v_; exact rfl; kernel_rfl; kernel_rfl; exact rfl) | (apply GC.T_; exact rfl; (first | exact rfl | assumption); exact rfl) | (apply GC.N_; exact rfl; (first | exact rfl | assumption); exact rfl)); exact rfl; (first | (apply wn0; exact rfl) | (apply wn1; exact rfl; exact rfl; exact rfl; first | exact rfl | assumption)))
        | (apply Seg.s_; exact rfl)
        | (apply Seg.e_)
        | (apply Seg.q_)
        | (apply Seg.r_; exact rfl)
        | (apply Seg.k_)
        | (apply Seg.o_)
        | (apply Seg.O_; exact rfl; exact rfl; exact rfl; (first | exact rfl | (simp only [Bool.not_true, Bool.not_false]; assumption)); exact rfl)
        | (apply Seg.U_; exact rfl; exact rfl; exact rfl; exact rfl))
      exact Seg.z_) : W P x K a w := h.go hS a hE k
theorem sl (cs : List Cd) {a : Act} (hS : St w s R) (hE : Rep a n E) (k : ∀ a, Rep a n E' → Y a)
    (h : Seg (St w s R) n cs E (fun a => WL P ops K l a w) E' Y := by
      repeat (first
        | (apply Seg.g_; (first | (apply GC.p_; exact rfl) | (apply GC.f_; exact rfl; kernel_rfl) | (apply GC.b_; exact rfl; exact rfl; exact rfl; kernel_rfl) | (apply GC.n_; exact rfl) | (apply GC.B_; exact rfl; exact rfl; kernel_rfl) | (apply GC.l_; exact rfl; kernel_rfl) | (apply GC.x_; exact rfl; exact rfl; (first | exact rfl | assumption); assumption; assumption; kernel_rfl) | (apply GC.h_; exact rfl; assumption; kernel_rfl) | (apply GC.H_; exact rfl; assumption; kernel_rfl) | (apply GC.y_; exact rfl; exact rfl; (first | exact rfl | assumption); exact rfl; kernel_rfl; (first | assumption | omega)) | (apply GC.g_; exact rfl; exact rfl; assumption; kernel_rfl) | (apply GC.G_; exact rfl; exact rfl; assumption; kernel_rfl) | (apply GC.z_; exact rfl; exact rfl; assumption; exact rfl; exact rfl; kernel_rfl) | (apply GC.i_; exact rfl; omega) | (apply GC.C_; exact rfl; exact rfl; kernel_rfl) | (apply GC.v_; exact rfl; kernel_rfl; kernel_rfl; exact rfl) | (apply GC.T_; exact rfl; (first | exact rfl | assumption); exact rfl) | (apply GC.N_; exact rfl; (first | exact rfl | assumption); exact rfl)); exact rfl; (first | (apply wn0; exact rfl) | (apply wn1; exact rfl; exact rfl; exact rfl; first | exact rfl | assumption)))
        | (apply Seg.s_; exact rfl)
        | (apply Seg.e_)
        | (apply Seg.q_)
        | (apply Seg.r_; exact rfl)
        | (apply Seg.k_)
        | (apply Seg.o_)
        | (apply Seg.O_; exact rfl; exact rfl; exact rfl; (first | exact rfl | (simp only [Bool.not_true, Bool.not_false]; assumption)); exact rfl)
        | (apply Seg.U_; exact rfl; exact rfl; exact rfl; exact rfl))
      exact Seg.z_) : WL P ops K l a w := h.go hS a hE k
theorem a0K.z_ : a0K s n [] E R U E R U := ⟨fun a w h1 h2 k => k a w h1 h2⟩
theorem a0K.u_ (h : ∀ w, Seg (St w s R) n [c] E (fun a => U a w) E1 (fun a => Z a w)) (q : a0K s n cs E1 R Z E' R' V) : a0K s n (c :: cs) E R U E' R' V :=
  ⟨fun a w hE hS k => (h w).go hS a hE fun a hE => q.go a w hE hS k⟩
theorem a0K.F_ {i : Nat} {r : HP} (hr : R[i]? = some r) (q : a0K s n cs E (r :: R.eraseIdx i) U E' R' V) : a0K s n (.F i :: cs) E R U E' R' V := ⟨fun a w hE hS k => q.go a w hE (hS.front i hr) k⟩
theorem a0K.D_ {i : Nat} (q : a0K s n cs E (R.eraseIdx i) U E' R' V) : a0K s n (.D i :: cs) E R U E' R' V := ⟨fun a w hE hS k => q.go a w hE (hS.dropAt i) k⟩
theorem a0K.S_ {i : Nat} {t T : TypeId} {b off : Nat} {c : List Value} {x y : Operand} (hr : R[i]? = some (pt b (.cells c.toArray T (0, 0)))) (hx : E.ev x = some (.pointer (some ⟨b, off, none⟩))) (hy : E.ev y = some v) (hv : v.cells = [v].toArray) (ht : Q8 P t false 1 = true)
    (h1 : [v].all (·.oneCell') = true) (hfit : Nat.ble (off + 1) c.length = true) (hd : J5 d n = true)
    (q : a0K s n cs (E.put d undef) (R.set i (pt b (.cells (c.take off ++ [v] ++ c.drop (off + 1)).toArray T (0, 0)))) (fun a w => WL P ops K l a w) E' R' V) : a0K s n (.S i :: cs) E R (fun a w => WL P ops K (⟨d, .store t x y, ty, pos, aft, none⟩ :: l) a w) E' R' V :=
  ⟨fun _ _ hE hS k => WL.storeI hE hS i hr (vs := [v]) _ (A0 rfl) hx hy hv ht h1 hfit rfl hd fun a w hE hS => q.go a w hE hS k⟩
theorem a0K.A_ {i : Nat} {t T : TypeId} {b off : Nat} {c vs : List Value} {x y : Operand} (hr : R[i]? = some (pt b (.cells c.toArray T (0, 0)))) (hx : E.ev x = some (.pointer (some ⟨b, off, none⟩))) (hy : E.ev y = some (.agg vs.toArray)) (ht : Q8 P t true vs.length = true)
    (h1 : vs.all (·.oneCell') = true) (hfit : Nat.ble (off + vs.length) c.length = true) (hd : J5 d n = true)
    (q : a0K s n cs (E.put d undef) (R.set i (pt b (.cells (c.take off ++ vs ++ c.drop (off + vs.length)).toArray T (0, 0)))) (fun a w => WL P ops K l a w) E' R' V) : a0K s n (.A i :: cs) E R (fun a w => WL P ops K (⟨d, .store t x y, ty, pos, aft, none⟩ :: l) a w) E' R' V :=
  ⟨fun _ _ hE hS k => WL.storeI hE hS i hr (vs := vs) _ (A0 rfl) hx hy rfl ht h1 hfit rfl hd fun a w hE hS => q.go a w hE hS k⟩
theorem sm (cs : List Cd) {a : Act} (hS : St w s R) (hE : Rep a n E) (k : ∀ a w, Rep a n E' → St w s R' → V a w)
    (h : a0K s n cs E R (fun a w => W P x K a w) E' R' V := by
      repeat (first
        | (apply a0K.D_)
        | (apply a0K.F_; exact rfl)
        | (apply a0K.S_; exact rfl; exact rfl; exact rfl; exact rfl; kernel_rfl; exact rfl; exact rfl; exact rfl)
        | (apply a0K.A_; exact rfl; exact rfl; exact rfl; kernel_rfl; exact rfl; exact rfl; exact rfl)
        | (apply a0K.u_; intro w; (first | (apply Seg.g_; (first | (apply GC.p_; exact rfl) | (apply GC.f_; exact rfl; kernel_rfl) | (apply GC.b_; exact rfl; exact rfl; exact rfl; kernel_rfl) | (apply GC.n_; exact rfl) | (apply GC.B_; exact rfl; exact rfl; kernel_rfl) | (apply GC.l_; exact rfl; kernel_rfl) | (apply GC.x_; exact rfl; exact rfl; (first | exact rfl | assumption); assumption; assumption; kernel_rfl) | (apply GC.h_; exact rfl; assumption; kernel_rfl) | (apply GC.H_; exact rfl; assumption; kernel_rfl) | (apply GC.y_; exact rfl; exact rfl; (first | exact rfl | assumption); exact rfl; kernel_rfl; (first | assumption | omega)) | (apply GC.g_; exact rfl; exact rfl; assumption; kernel_rfl) | (apply GC.G_; exact rfl; exact rfl; assumption; kernel_rfl) | (apply GC.z_; exact rfl; exact rfl; assumption; exact rfl; exact rfl; kernel_rfl) | (apply GC.i_; exact rfl; omega) | (apply GC.C_; exact rfl; exact rfl; kernel_rfl) | (apply GC.v_; exact rfl; kernel_rfl; kernel_rfl; exact rfl) | (apply GC.T_; exact rfl; (first | exact rfl | assumption); exact rfl) | (apply GC.N_; exact rfl; (first | exact rfl | assumption); exact rfl)); exact rfl; (first | (apply wn0; exact rfl) | (apply wn1; exact rfl; exact rfl; exact rfl; first | exact rfl | assumption))) | (apply Seg.s_; exact rfl) | (apply Seg.e_) | (apply Seg.q_) | (apply Seg.r_; exact rfl) | (apply Seg.k_) | (apply Seg.o_) | (apply Seg.O_; exact rfl; exact rfl; exact rfl; (first | exact rfl | (simp only [Bool.not_true, Bool.not_false]; assumption)); exact rfl) | (apply Seg.U_; exact rfl; exact rfl; exact rfl; exact rfl)); exact Seg.z_))
      exact a0K.z_) : W P x K a w := h.go a w hE hS k
theorem so (cs : List Cd) {a : Act} (hS : St w s R) (hE : Rep a n E) (k : ∀ a w, Rep a n E' → St w s R' → V a w)
    (h : a0K s n cs E R (fun a w => WL P ops K l a w) E' R' V := by
      repeat (first
        | (apply a0K.D_)
        | (apply a0K.F_; exact rfl)
        | (apply a0K.S_; exact rfl; exact rfl; exact rfl; exact rfl; kernel_rfl; exact rfl; exact rfl; exact rfl)
        | (apply a0K.A_; exact rfl; exact rfl; exact rfl; kernel_rfl; exact rfl; exact rfl; exact rfl)
        | (apply a0K.u_; intro w; (first | (apply Seg.g_; (first | (apply GC.p_; exact rfl) | (apply GC.f_; exact rfl; kernel_rfl) | (apply GC.b_; exact rfl; exact rfl; exact rfl; kernel_rfl) | (apply GC.n_; exact rfl) | (apply GC.B_; exact rfl; exact rfl; kernel_rfl) | (apply GC.l_; exact rfl; kernel_rfl) | (apply GC.x_; exact rfl; exact rfl; (first | exact rfl | assumption); assumption; assumption; kernel_rfl) | (apply GC.h_; exact rfl; assumption; kernel_rfl) | (apply GC.H_; exact rfl; assumption; kernel_rfl) | (apply GC.y_; exact rfl; exact rfl; (first | exact rfl | assumption); exact rfl; kernel_rfl; (first | assumption | omega)) | (apply GC.g_; exact rfl; exact rfl; assumption; kernel_rfl) | (apply GC.G_; exact rfl; exact rfl; assumption; kernel_rfl) | (apply GC.z_; exact rfl; exact rfl; assumption; exact rfl; exact rfl; kernel_rfl) | (apply GC.i_; exact rfl; omega) | (apply GC.C_; exact rfl; exact rfl; kernel_rfl) | (apply GC.v_; exact rfl; kernel_rfl; kernel_rfl; exact rfl) | (apply GC.T_; exact rfl; (first | exact rfl | assumption); exact rfl) | (apply GC.N_; exact rfl; (first | exact rfl | assumption); exact rfl)); exact rfl; (first | (apply wn0; exact rfl) | (apply wn1; exact rfl; exact rfl; exact rfl; first | exact rfl | assumption))) | (apply Seg.s_; exact rfl) | (apply Seg.e_) | (apply Seg.q_) | (apply Seg.r_; exact rfl) | (apply Seg.k_) | (apply Seg.o_) | (apply Seg.O_; exact rfl; exact rfl; exact rfl; (first | exact rfl | (simp only [Bool.not_true, Bool.not_false]; assumption)); exact rfl) | (apply Seg.U_; exact rfl; exact rfl; exact rfl; exact rfl)); exact Seg.z_))
      exact a0K.z_) : WL P ops K l a w := h.go a w hE hS k
structure Pm (cs : List Cd) (R R' : List HP) : Prop where
  go : ∀ w s, St w s R → St w s R'
theorem Pm.z_ : Pm [] R R := ⟨fun _ _ h => h⟩
theorem Pm.F_ {i : Nat} {r : HP} (hr : R[i]? = some r) (q : Pm cs (r :: R.eraseIdx i) R') : Pm (.F i :: cs) R R' := ⟨fun w s h => q.go w s (h.front i hr)⟩
theorem Pm.D_ {i : Nat} (q : Pm cs (R.eraseIdx i) R') : Pm (.D i :: cs) R R' := ⟨fun w s h => q.go w s (h.dropAt i)⟩
theorem pm (cs : List Cd) (hS : St w s R)
    (h : Pm cs R R' := by
      repeat (first
        | (apply Pm.D_)
        | (apply Pm.F_; exact rfl))
      exact Pm.z_) : St w s R' := h.go w s hS
section
variable {C : World → Prop} {Q : Act → Prop}
theorem Seq.g_ (g : GC c P C n E o v) (hd : J5 o.dst n = true) (hg : Wn n E ops o) (q : Seg H n cs (E.put o.dst v) (fun a => QL P ops C Q l a) E' Y) : Seg H n (c :: cs) E (fun a => QL P ops C Q (o :: l) a) E' Y :=
  ⟨fun h a hE k => QL.v hE (hg a hE) (g.go a hE) hd fun a hE => q.go h a hE k⟩
theorem Seq.O_ {j d' : Nat} {b b' : Bool} (h : o.guard = some (j, b)) (hj : (ops[j]?).bind (·.dst) = some d') (hd' : E.get d' = some (.bool b')) (hbc : b' = !b) (hd : J5 o.dst n = true) (q : Seg H n cs (E.put o.dst undef) (fun a => QL P ops C Q l a) E' Y) : Seg H n (.O :: cs) E (fun a => QL P ops C Q (o :: l) a) E' Y :=
  ⟨fun h0 _ hE k => QL.no hE (K0 hE h hj hd' (by rw [hbc]; cases b <;> decide)) hd fun a hE => q.go h0 a hE k⟩
theorem Seq.U_ {j d' : Nat} {b : Bool} (h : o.guard = some (j, b)) (hj : (ops[j]?).bind (·.dst) = some d') (hd' : E.get d' = some undef) (hd : J5 o.dst n = true) (q : Seg H n cs (E.put o.dst undef) (fun a => QL P ops C Q l a) E' Y) : Seg H n (.U :: cs) E (fun a => QL P ops C Q (o :: l) a) E' Y :=
  ⟨fun h0 _ hE k => QL.no hE (a2n hE h hj hd') hd fun a hE => q.go h0 a hE k⟩
theorem sq (cs : List Cd) {a : Act} (hE : Rep a n E) (k : ∀ a, Rep a n E' → Y a)
    (h : Seg True n cs E (fun a => QL P ops C Q l a) E' Y := by
      repeat (first
        | (apply Seq.g_; (first | (apply GC.p_; exact rfl) | (apply GC.f_; exact rfl; kernel_rfl) | (apply GC.b_; exact rfl; exact rfl; exact rfl; kernel_rfl) | (apply GC.n_; exact rfl) | (apply GC.B_; exact rfl; exact rfl; kernel_rfl) | (apply GC.l_; exact rfl; kernel_rfl) | (apply GC.x_; exact rfl; exact rfl; (first | exact rfl | assumption); assumption; assumption; kernel_rfl) | (apply GC.h_; exact rfl; assumption; kernel_rfl) | (apply GC.H_; exact rfl; assumption; kernel_rfl) | (apply GC.y_; exact rfl; exact rfl; (first | exact rfl | assumption); exact rfl; kernel_rfl; (first | assumption | omega)) | (apply GC.g_; exact rfl; exact rfl; assumption; kernel_rfl) | (apply GC.G_; exact rfl; exact rfl; assumption; kernel_rfl) | (apply GC.z_; exact rfl; exact rfl; assumption; exact rfl; exact rfl; kernel_rfl) | (apply GC.i_; exact rfl; omega) | (apply GC.C_; exact rfl; exact rfl; kernel_rfl) | (apply GC.v_; exact rfl; kernel_rfl; kernel_rfl; exact rfl) | (apply GC.T_; exact rfl; (first | exact rfl | assumption); exact rfl) | (apply GC.N_; exact rfl; (first | exact rfl | assumption); exact rfl)); exact rfl; (first | (apply wn0; exact rfl) | (apply wn1; exact rfl; exact rfl; exact rfl; first | exact rfl | assumption)))
        | (apply Seq.O_; exact rfl; exact rfl; exact rfl; (first | exact rfl | (simp only [Bool.not_true, Bool.not_false]; assumption)); exact rfl)
        | (apply Seq.U_; exact rfl; exact rfl; exact rfl; exact rfl))
      exact Seg.z_) : QL P ops C Q l a := h.go trivial a hE k
theorem rQ {a : Act} (hS : St w s R) (hm : P.follows .mixedOrders = true) (h : QL P l.toArray (fun w => St w s R) (fun a => ∀ w, St w s R → K.nor a w) l a) (hB : Region.lexB .any l.toArray = true := by kernel_rfl) (hd : Y3 l = true := by rfl) : W P (.region id l.toArray true) K a w :=
  W.regionQ (C := fun w => St w s R) hm hB hS.drew h hd
end
end
structure a5m (A B : World → Prop) (w : World) (n : Nat) (cs : List Rd') (E : Env) (X : Act → Prop) (E' : Env) (Y : Act → Prop) : Prop where
  go : A w → B w → ∀ a, Rep a n E → (∀ a, Rep a n E' → Y a) → X a
section
variable {P : Program} {ops : Array Oper} {A B : World → Prop} {pre : Bool → Nat → Bool} {k0 : Act → World → Prop} {N : Nat} {E E' : Env} {w : World} {x y : Bool} {cs : List Rd'} {X Y : Act → Prop}
theorem a5m.z_ : a5m A B w N [] E X E X := ⟨fun _ _ a h k => k a h⟩
theorem a5m.p_ {i : Nat} {c : Cd} {o : Oper} {v : Value} {k : Nat} {l : Array Bool} (hi : ops[i]? = some o) (hB : tkP ops l pre i = true) (hv : GC c P (fun _ => True) N E o v) (hd : J5 o.dst N = true) (hg : Wn N E ops o)
    (q : a5m A B w N cs (E.put o.dst v) (fun a => Rg P .any ops (KB k0).q (sel A B) pre (tw x y) k (l.setIfInBounds i true) a w) E' Y) : a5m A B w N (.P i c :: cs) E (fun a => Rg P .any ops (KB k0).q (sel A B) pre (tw x y) (k + 1) l a w) E' Y :=
  ⟨fun h1 h2 a hE z => Rg.takeP hE hi hB (hg a hE) (hv.go a hE) hd (G2 (fun _ => h1) (fun _ => h2)) fun a hE => q.go h1 h2 a hE z⟩
theorem a5m.t_ {i : Nat} {c : Cd} {o : Oper} {v : Value} {k : Nat} {l : Array Bool} {b : Bool} (hb : tw x y b = true) (hi : ops[i]? = some o) (hB : tkB ops l pre b i = true) (hv : GC c P (sel A B b) N E o v) (hd : J5 o.dst N = true) (hg : Wn N E ops o)
    (q : a5m A B w N cs (E.put o.dst v) (fun a => Rg P .any ops (KB k0).q (sel A B) pre (tw x y) k (l.setIfInBounds i true) a w) E' Y) : a5m A B w N (.T i b c :: cs) E (fun a => Rg P .any ops (KB k0).q (sel A B) pre (tw x y) (k + 1) l a w) E' Y :=
  ⟨fun h1 h2 a hE z => Rg.take b hb hE hi hB (hg a hE) (hv.go a hE) hd (G2 (fun _ => h1) (fun _ => h2)) fun a hE => q.go h1 h2 a hE z⟩
theorem sr (cs : List Rd') {a : Act} {k : Nat} {l : Array Bool} (hE : Rep a N E) (h1 : A w) (h2 : B w) (z : ∀ a, Rep a N E' → Y a)
    (h : a5m A B w N cs E (fun a => Rg P .any ops (KB k0).q (sel A B) pre (tw x y) k l a w) E' Y := by
      repeat (first
        | (apply a5m.p_; exact rfl; kernel_rfl; (first | (apply GC.p_; exact rfl) | (apply GC.f_; exact rfl; kernel_rfl) | (apply GC.n_; exact rfl) | (apply GC.l_; exact rfl; kernel_rfl) | (apply GC.x_; exact rfl; exact rfl; (first | exact rfl | assumption); assumption; assumption; kernel_rfl) | (apply GC.i_; exact rfl; omega) | (apply GC.v_; exact rfl; kernel_rfl; kernel_rfl; exact rfl) | (apply GC.T_; exact rfl; (first | exact rfl | assumption); exact rfl) | (apply GC.N_; exact rfl; (first | exact rfl | assumption); exact rfl)); exact rfl; (first | (apply wn0; exact rfl) | (apply wn1; exact rfl; exact rfl; exact rfl; first | exact rfl | assumption)))
        | (apply a5m.t_; exact rfl; exact rfl; kernel_rfl; (first | (apply GC.b_; exact rfl; exact rfl; exact rfl; kernel_rfl) | (apply GC.n_; exact rfl) | (apply GC.B_; exact rfl; exact rfl; kernel_rfl) | (apply GC.h_; exact rfl; assumption; kernel_rfl) | (apply GC.H_; exact rfl; assumption; kernel_rfl) | (apply GC.y_; exact rfl; exact rfl; (first | exact rfl | assumption); exact rfl; kernel_rfl; (first | assumption | omega)) | (apply GC.g_; exact rfl; exact rfl; assumption; kernel_rfl) | (apply GC.G_; exact rfl; exact rfl; assumption; kernel_rfl) | (apply GC.z_; exact rfl; exact rfl; assumption; exact rfl; exact rfl; kernel_rfl) | (apply GC.C_; exact rfl; exact rfl; kernel_rfl)); exact rfl; (first | (apply wn0; exact rfl) | (apply wn1; exact rfl; exact rfl; exact rfl; first | exact rfl | assumption))))
      exact a5m.z_) : Rg P .any ops (KB k0).q (sel A B) pre (tw x y) k l a w := h.go h1 h2 a hE z
end
end Go.Fp
