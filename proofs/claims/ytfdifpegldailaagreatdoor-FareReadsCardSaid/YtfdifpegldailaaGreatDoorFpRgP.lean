/- A region whose order is open, in which calls may panic. No condition. -/
import Derived.Test.YtfdifpegldailaaGreatDoorFpRgn
import Derived.Test.YtfdifpegldailaaGreatDoorFpPan
namespace Go.Fp
open Go
def PanF (p : List PanicEntry → Act → World → Prop) : Prop := ∀ c d v a w, p c (Act.put a d v) w → p c a w
def KQ (k : Act → World → Prop) (p : List PanicEntry → Act → World → Prop) : Kt := ⟨k, fun _ _ => False, [], p, none⟩
section
variable {P : Program} {ops : Array Oper} {S : Bool → World → Prop} {pre : Bool → Nat → Bool} {N : Nat} {K : Kt} {k0 : Act → World → Prop} {p : List PanicEntry → Act → World → Prop} {a : Act} {w : World} {E : Env}
theorem wpOp_of_listQ {i : Nat} {o : Oper} {k1 k2 : Act → World → Prop} (ho : ops[i]? = some o) (h : WL P ops (KQ k1 p) [o] a w) : wpOp P ops (KQ k2 p).q i k1 a w := by
  unfold WL at h
  rw [wpList] at h
  unfold wpOp
  simp only [ho]
  split
  · rename_i hw
    rw [if_pos hw] at h
    rcases h with h | ⟨_, a', w', h⟩
    · refine .inl ?_
      unfold Oper.wp at *
      generalize (execOp a.eval o).run P w = r at *
      cases r with
      | ok m w' =>
        cases m <;> simp only [Oper.upon] at h ⊢
        case value u => exact h
        case skip => exact h
        case defer d => exact h
        case enter f args =>
          refine Calls.mono h fun e w'' he => ?_
          cases e with
          | returned u => exact he
          | panicked c => exact he
          | outgrown => obtain ⟨a', w', h⟩ := he; exact h.elim
        case row row args => exact h
      | halt x w' =>
        cases x <;> simp only [Oper.upon] at h ⊢
        case panic u => exact h
    · exact h.elim
  · rename_i hw
    rw [if_neg hw] at h
    exact h
theorem Rq.take (hp : PanF p) {i : Nat} {o : Oper} {v : Value} {k : Nat} {l : Array Bool} {st : Bool → Bool} (b : Bool) (hb : st b = true) (hE : Rep a N E) (hi : ops[i]? = some o) (hB : tkB ops l pre b i = true) (hg : Region.wanted o (yielded ops a.tmps) = true) (hv : Gives P (S b) a o v) (hd : dstOk o.dst N = true) (hS : ∀ c, st c = true → S c w)
    (q : ∀ a, Rep a N (E.put o.dst v) → Rg P .any ops (KQ k0 p).q S pre st k (l.setIfInBounds i true) a w) : Rg P .any ops (KQ k0 p).q S pre st (k + 1) l a w := by
  simp only [tkB, tkP, Bool.and_eq_true] at hB
  obtain ⟨⟨⟨⟨h1, h2⟩, h4⟩, h5⟩, h3⟩ := hB
  exact Rg.first hi b (both (by simpa using h2)) (sinks_spec h3) (Region.noSelect_spec h1) (fun c a w h => hp c _ _ a w h) k st l a w hb (Region.free_spec hi h4) (by simpa using h5) (.inl ⟨hg, hv⟩) hS (q _ (hE.puts hd v))
theorem Rq.takeP (hp : PanF p) {i : Nat} {o : Oper} {v : Value} {k : Nat} {l : Array Bool} {st : Bool → Bool} (hE : Rep a N E) (hi : ops[i]? = some o) (hB : tkP ops l pre i = true) (hg : Region.wanted o (yielded ops a.tmps) = true) (hv : Gives P (fun _ => True) a o v) (hd : dstOk o.dst N = true) (hS : ∀ c, st c = true → S c w)
    (q : ∀ a, Rep a N (E.put o.dst v) → Rg P .any ops (KQ k0 p).q S pre st k (l.setIfInBounds i true) a w) : Rg P .any ops (KQ k0 p).q S pre st (k + 1) l a w := by
  simp only [tkP, Bool.and_eq_true] at hB
  obtain ⟨⟨⟨h1, h2⟩, h4⟩, h5⟩ := hB
  exact Rg.firstP hi (both (by simpa using h2)) (Region.noSelect_spec h1) (fun c a w h => hp c _ _ a w h) k st l a w (Region.free_spec hi h4) (by simpa using h5) (.inl ⟨hg, hv⟩) hS (q _ (hE.puts hd v))
theorem Rq.no (hp : PanF p) {i : Nat} {o : Oper} {k : Nat} {l : Array Bool} {st : Bool → Bool} (hE : Rep a N E) (hi : ops[i]? = some o) (hB : tkP ops l pre i = true) (hg : Region.wanted o (yielded ops a.tmps) = false) (hd : dstOk o.dst N = true) (hS : ∀ c, st c = true → S c w)
    (q : ∀ a, Rep a N (E.put o.dst undef) → Rg P .any ops (KQ k0 p).q S pre st k (l.setIfInBounds i true) a w) : Rg P .any ops (KQ k0 p).q S pre st (k + 1) l a w := by
  simp only [tkP, Bool.and_eq_true] at hB
  obtain ⟨⟨⟨h1, h2⟩, h4⟩, h5⟩ := hB
  exact Rg.firstP hi (both (by simpa using h2)) (Region.noSelect_spec h1) (fun c a w h => hp c _ _ a w h) k st l a w (Region.free_spec hi h4) (by simpa using h5) (.inr ⟨hg, rfl⟩) hS (q _ (hE.puts hd undef))
theorem Rq.one {i : Nat} {o : Oper} {k : Nat} {l : Array Bool} {x y : Bool} (x' y' : Bool) (hi : ops[i]? = some o) (hr : Region.ready .any ops l = [i]) (h1 : (x && pre true i) = x') (h2 : (y && pre false i) = y')
    (h : WL P ops (KQ (fun a w => ((x' = true → S true w) ∧ (y' = true → S false w)) ∧ Rg P .any ops (KQ k0 p).q S pre (tw x' y') k (l.setIfInBounds i true) a w) p) [o] a w) : Rg P .any ops (KQ k0 p).q S pre (tw x y) (k + 1) l a w := by
  refine ⟨fun h0 => (by rw [h0] at hr; cases hr), fun j hj => ?_⟩
  rw [hr] at hj
  have : j = i := by simpa using hj
  subst this
  have e := tw_and (x := x) (y := y) h1 h2
  refine wpOp_mono ?_ (wpOp_of_listQ (k2 := k0) hi h)
  rintro a w ⟨⟨q1, q2⟩, q3⟩
  rw [e]
  exact ⟨fun b hb => by have h5 := congrFun e b; rw [h5] at hb; exact tw_all q1 q2 b hb, q3⟩
theorem Rq.done {k : Nat} {l : Array Bool} {st : Bool → Bool} (hr : Region.ready .any ops l = []) (h : k0 a w) : Rg P .any ops (KQ k0 p).q S pre st k l a w := by
  cases k with
  | zero => exact ⟨hr, h⟩
  | succ k => exact ⟨fun _ => h, by rw [hr]; simp⟩
theorem rQ {s : Sg} {R : List HP} (_hS : St w s R) (is js A B : List Nat) {id : Nat} {l : List Oper} (hm : P.follows .mixedOrders = true)
    (h : Rg P .any l.toArray (KQ K.nor K.pan).q (sel (fun w => St w s (drs is R)) (fun w => St w s (drs js R))) (fun b i => cond b (A.contains i) (B.contains i)) (tw true true) l.length (Array.replicate l.length false) a w.drew)
    (hd : nodefer l = true := by rfl) : W P (.region id l.toArray true) K a w := by
  have h' : Rg P .any l.toArray (KQ K.nor K.pan).q (sel (fun w => St w s (drs is R)) (fun w => St w s (drs js R))) (fun b i => cond b (A.contains i) (B.contains i)) (tw true true) l.toArray.size (Array.replicate l.toArray.size false) a { w with drawn := w.drawn + 1 } := by simpa using h
  have hK : W P (.region id l.toArray true) { KQ K.nor K.pan with rd := K.rd } a w := W.anyR hm (by simpa using hd) (Rg.any _ _ _ _ _ h')
  refine wpIn_mono hK ?_
  intro e a w q
  cases e with
  | normal => exact q
  | exit id => obtain ⟨k, hk, _⟩ := q; cases hk
  | ret => exact q.elim
  | panic c => exact q
  | _ => exact q.elim
end
end Go.Fp
