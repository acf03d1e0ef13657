/- The walks of the functions that MendProducts reaches: each call comes to what its mirror says. The conditions are those of each contract. -/
import Derived.Test.YtfioafdipipcaaaProg
import Derived.Test.YtfioafdipipcaaaMendProductsM
import Derived.Test.YtfioafdipipcaaaFpMore
import Derived.Test.YtfioafdipipcaaaMendProductsW1
namespace Go.Proofs.Ytfioafdipipcaaa
open Go Go.Fp
set_option maxHeartbeats 8000000 in
theorem Fishref2ClosureOf_ok {fu : Nat}  {w : World} {s : Sg} {R : List HP} {x0 : List (List Int)} {a0 : Option Addr} {c0 : Nat} (hS : St w s (R)) (h0 : Sl 1 (RL 1 (RI .i64)) s a0 c0 x0) {r : (List (List Int)) × Int} (hr : Fishref2ClosureOf fu x0 = some r) :
    Calls Try.prog 32 [.slice a0 x0.length c0].toArray w (fun e w => ∃ (a0 : Option Addr) (c0 : Nat) (t : Sg), e = .returned (.tuple #[.slice a0 r.1.length c0, .int .i64 r.2]) ∧ s.Le t ∧ Sl 1 (RL 1 (RI .i64)) t a0 c0 r.1 ∧ St w t (R)) := by
  refine enter Try.func32 rfl rfl rfl fun a hE => ?_
  rw [Fishref2ClosureOf] at hr
  refine W.seq ?_
  refine W.region ?_
  refine WL.vS hS hE (runs_plain rfl) (Gives.p hE rfl) rfl ?_; clear hE a; intro a hE
  refine WL.vS hS hE (runs_plain rfl) (Gives.p hE rfl) rfl ?_; clear hE a; intro a hE
  refine WL.nil ?_
  refine W.seq ?_
  refine W.region ?_
  refine WL.vS hS hE (runs_plain rfl) (Gives.p hE rfl) rfl ?_; clear hE a; intro a hE
  refine WL.vS hS hE (runs_plain rfl) (Gives.len hE rfl sl40) rfl ?_; clear hE a; intro a hE
  refine WL.vS hS hE (runs_plain rfl) (Gives.p hE rfl) rfl ?_; clear hE a; intro a hE
  refine WL.nil ?_
  refine W.seq ?_
  refine W.seq ?_
  refine W.region ?_
  refine WL.vS hS hE (runs_plain rfl) (Gives.p hE rfl) rfl ?_; clear hE a; intro a hE
  refine WL.vS hS hE (runs_plain rfl) (Gives.p hE rfl) rfl ?_; clear hE a; intro a hE
  refine WL.nil ?_
  refine W.cond hE rfl (fun hc51 => ?_) (fun hc51 => ?_)
  · replace hr := iteT hc51 hr
    refine W.seq ?_
    refine W.region ?_
    refine WL.vS hS hE (runs_plain rfl) (Gives.p hE rfl) rfl ?_; clear hE a; intro a hE
    refine WL.vS hS hE (runs_plain rfl) (Gives.p hE rfl) rfl ?_; clear hE a; intro a hE
    refine WL.nil ?_
    refine W.ret ?_
    refine finG (fn := Try.f32) (rs := [.tmp 2, .tmp 3]) (vs := [_, _]) hE rfl ⟨rfl, rfl, trivial⟩ ?_
    obtain rfl := Option.some.inj hr
    exact ⟨none, 0, s, rfl, (Sg.Le.refl _), Sl.nil, hS⟩
  · replace hr := iteF hc51 hr
    refine W.skip ?_
    refine W.seq ?_
    refine W.seq ?_
    refine W.region ?_
    refine WL.vS hS hE (runs_plain rfl) (Gives.p hE rfl) rfl ?_; clear hE a; intro a hE
    refine WL.vS hS hE (runs_plain rfl) (Gives.len hE rfl sl40) rfl ?_; clear hE a; intro a hE
    refine WL.vS hS hE (runs_plain rfl) (Gives.p hE rfl) rfl ?_; clear hE a; intro a hE
    refine WL.nil ?_
    obtain ⟨q53, hq52, hr⟩ := bndS hr
    refine W.cut (fun a w => (.next ()) = q53 ∧ Rep a 132 [(0, .slice a0 x0.length c0), (4, .int .i64 ((x0).length : Int))] ∧ St w s (R)) ?_ ?_
    · refine W.block ?_
      refine W.loop (fun m a w => ∃ (rest56 : List (List Int)) (k54 : Nat), rest56.length = m ∧ x0.drop k54 = rest56 ∧ Fishref2ClosureOf.loop1 x0 rest56 = q53 ∧ Rep a 132 [(0, .slice a0 x0.length c0), (4, .int .i64 ((x0).length : Int)), (18, .slice a0 x0.length c0), (19, .int .i64 ((x0).length : Int)), (20, .int .i64 ((k54 : Nat) : Int))] ∧ St w s (R)) (m := x0.length) ⟨x0, 0, rfl, rfl, hq52, hE.pick _ ⟨rfl, rfl, rfl, rfl, rfl, trivial⟩, hS⟩ ?_
      clear hE hS a w hq52; rintro m60 a w ⟨rest56, k54, rfl, hd57, hq52, hE, hS⟩
      refine W.gen fun K63 hK63 => ?_
      rcases rest56 with _ | ⟨x55, rest56⟩
      · have hlt58 := drop_nil hd57
        refine W.seq ?_
        refine W.region ?_
        refine WL.vS hS hE (runs_plain rfl) (Gives.p hE rfl) rfl ?_; clear hE a; intro a hE
        refine WL.nil ?_
        refine W.seq ?_
        refine W.condF hE rfl (decide_eq_false (by omega)) ?_
        subst hK63
        refine W.exit rfl ?_
        exact ⟨hq52, hE.pick _ ⟨rfl, rfl, trivial⟩, hS⟩
      · obtain ⟨hlt58, hx59, hd57⟩ := drop_cons hd57
        rw [Fishref2ClosureOf.loop1] at hq52
        refine W.seq ?_
        refine W.region ?_
        refine WL.vS hS hE (runs_plain rfl) (Gives.p hE rfl) rfl ?_; clear hE a; intro a hE
        refine WL.nil ?_
        refine W.seq ?_
        refine W.condT hE rfl (decide_eq_true (by omega)) ?_
        refine W.skip ?_
        refine W.seq ?_
        refine W.block ?_
        refine W.seq ?_
        refine W.region ?_
        obtain ⟨cs64, hl65, hR66, hat67⟩ := h0.at hx59
        obtain ⟨a68, c69, rfl, h70⟩ := hR66
        refine WL.vS hS hE (runs_plain rfl) (Gives.idx hE k54 rfl rfl sl40 rfl hlt58 (h0.aok hlt58)) rfl ?_; clear hE a; intro a hE
        refine WL.vS hS hE (runs_plain rfl) (Gives.load1 hE rfl (fun w h => hat67 w _ h) ty22) rfl ?_; clear hE a; intro a hE
        refine WL.vS hS hE (runs_plain rfl) (Gives.p hE rfl) rfl ?_; clear hE a; intro a hE
        refine WL.nil ?_
        refine W.seq ?_
        refine W.region ?_
        refine WL.vS hS hE (runs_plain rfl) (Gives.p hE rfl) rfl ?_; clear hE a; intro a hE
        refine WL.vS hS hE (runs_plain rfl) (Gives.len hE rfl sl22) rfl ?_; clear hE a; intro a hE
        refine WL.vS hS hE (runs_plain rfl) (Gives.p hE rfl) rfl ?_; clear hE a; intro a hE
        refine WL.vS hS hE (runs_plain rfl) (Gives.p hE rfl) rfl ?_; clear hE a; intro a hE
        refine WL.nil ?_
        refine W.cond hE rfl (fun hc71 => ?_) (fun hc71 => ?_)
        · replace hq52 := iteT hc71 hq52
          refine W.seq ?_
          refine W.region ?_
          refine WL.vS hS hE (runs_plain rfl) (Gives.p hE rfl) rfl ?_; clear hE a; intro a hE
          refine WL.vS hS hE (runs_plain rfl) (Gives.p hE rfl) rfl ?_; clear hE a; intro a hE
          refine WL.nil ?_
          refine W.ret ?_
          subst hK63
          rw [← hq52] at hr
          dsimp only at hr
          refine finG (fn := Try.f32) (rs := [.tmp 2, .tmp 3]) (vs := [_, _]) hE rfl ⟨rfl, rfl, trivial⟩ ?_
          obtain rfl := Option.some.inj hr
          exact ⟨none, 0, s, rfl, (Sg.Le.refl _), Sl.nil, hS⟩
        · replace hq52 := iteF hc71 hq52
          refine W.skip ?_
          refine W.region ?_
          refine WL.vS hS hE (runs_plain rfl) (Gives.inc hE rfl (by have := h0.small; omega)) rfl ?_; clear hE a; intro a hE
          refine WL.vS hS hE (runs_plain rfl) (Gives.p hE rfl) rfl ?_; clear hE a; intro a hE
          refine WL.nil ?_
          subst hK63
          exact ⟨rest56.length, Nat.lt_succ_self _, rest56, k54 + 1, rfl, hd57, hq52, hE.pick _ ⟨rfl, rfl, rfl, rfl, rfl, trivial⟩, hS⟩
    · clear hE hS a w; rintro a w ⟨rfl, hE, hS⟩
      dsimp only at hr
      refine W.seq ?_
      refine W.seq ?_
      refine W.region ?_
      refine WL.vS hS hE (runs_plain rfl) (Gives.p hE rfl) rfl ?_; clear hE a; intro a hE
      refine WL.fnq hE (Fishref2numbersFault_ok hS h0 rfl (r := Fishref2numbersFault x0)) (runs_plain rfl) bd74 rfl rfl rfl ?_
      clear hE hS; rintro e w ⟨rfl, hS⟩; refine ⟨_, rfl, ?_⟩; clear a; intro a hE
      refine WL.vS hS hE (runs_plain rfl) (Gives.p hE rfl) rfl ?_; clear hE a; intro a hE
      refine WL.nil ?_
      refine W.seq ?_
      refine W.region ?_
      refine WL.vS hS hE (runs_plain rfl) (Gives.p hE rfl) rfl ?_; clear hE a; intro a hE
      refine WL.vS hS hE (runs_plain rfl) (Gives.p hE rfl) rfl ?_; clear hE a; intro a hE
      refine WL.nil ?_
      refine W.cond hE rfl (fun hc72 => ?_) (fun hc72 => ?_)
      · replace hr := iteT hc72 hr
        refine W.seq ?_
        refine W.region ?_
        refine WL.vS hS hE (runs_plain rfl) (Gives.p hE rfl) rfl ?_; clear hE a; intro a hE
        refine WL.vS hS hE (runs_plain rfl) (Gives.p hE rfl) rfl ?_; clear hE a; intro a hE
        refine WL.vS hS hE (runs_plain rfl) (Gives.p hE rfl) rfl ?_; clear hE a; intro a hE
        refine WL.nil ?_
        refine W.ret ?_
        refine finG (fn := Try.f32) (rs := [.tmp 2, .tmp 3]) (vs := [_, _]) hE rfl ⟨rfl, rfl, trivial⟩ ?_
        obtain rfl := Option.some.inj hr
        exact ⟨none, 0, s, rfl, (Sg.Le.refl _), Sl.nil, hS⟩
      · replace hr := iteF hc72 hr
        refine W.skip ?_
        refine W.seq ?_
        refine W.region ?_
        refine WL.vS hS hE (runs_plain rfl) (Gives.p hE rfl) rfl ?_; clear hE a; intro a hE
        obtain ⟨x73, hx74, hr⟩ := bindS hr
        refine WL.mkND (Rr := RI .i64) (Ti := 3) (es := 1) hE hS (runs_plain rfl) rfl rfl ap40 zr22 hx74 rfl ?_; clear hE hS a w; intro b75 ds76 a w h77 hE hS
        refine WL.vS hS hE (runs_plain rfl) (Gives.p hE rfl) rfl ?_; clear hE a; intro a hE
        refine WL.nil ?_
        refine W.seq ?_
        refine W.seq ?_
        refine W.region ?_
        refine WL.vS hS hE (runs_plain rfl) (Gives.p hE rfl) rfl ?_; clear hE a; intro a hE
        refine WL.vS hS hE (runs_plain rfl) (Gives.len hE rfl sl40) rfl ?_; clear hE a; intro a hE
        refine WL.vS hS hE (runs_plain rfl) (Gives.p hE rfl) rfl ?_; clear hE a; intro a hE
        refine WL.nil ?_
        have hb90 : x73.length ≤ 9223372036854775807 := by have := hS.nCap 0 rfl; unfold maxLen at this; omega
        obtain ⟨q80, hq79, hr⟩ := bindS hr
        refine W.cut (fun a w => ∃ (q91 : List (List Int)), ∃ (ds95 : List In), ∃ (s88 : Sg), s.Le s88 ∧ (.next q91) = q80 ∧ NEv 1 (RI .i64) s88 ds95 q91 ∧ q91.length = x73.length ∧ Rep a 132 [(8, .slice (some ⟨b75, 0, none⟩) x73.length x73.length)] ∧ St w s88 (nestC 22 3 1 (some ⟨b75, 0, none⟩) x73.length x73.length ds95 :: R)) ?_ ?_
        · refine W.block ?_
          refine W.loop (fun m a w => ∃ (rest83 : Nat) (k81 : Nat), ∃ (q91 : List (List Int)), ∃ (ds95 : List In), ∃ (s88 : Sg), rest83 = m ∧ k81 + rest83 = x73.length ∧ s.Le s88 ∧ Fishref2ClosureOf.loop2 x0 fu rest83 k81 q91 = some q80 ∧ NEv 1 (RI .i64) s88 ds95 q91 ∧ q91.length = x73.length ∧ Rep a 132 [(0, .slice a0 x0.length c0), (4, .int .i64 ((x0).length : Int)), (8, .slice (some ⟨b75, 0, none⟩) x73.length x73.length), (37, .int .i64 ((x73.length : Nat) : Int)), (38, .int .i64 ((k81 : Nat) : Int))] ∧ St w s88 (nestC 22 3 1 (some ⟨b75, 0, none⟩) x73.length x73.length ds95 :: R)) (m := x73.length) ⟨x73.length, 0, x73, ds76, s, rfl, by omega, (Sg.Le.refl _), hq79, h77, (rfl), hE.pick _ ⟨rfl, rfl, rfl, rfl, rfl, trivial⟩, hS⟩ ?_
          clear hE hS a w hq79; rintro m87 a w ⟨rest83, k81, q91, ds95, s88, rfl, hd84, hle89, hq79, h96, hn97, hE, hS⟩
          refine W.gen fun K98 hK98 => ?_
          replace h0 := Sl.mono (RL.mono RI.mono) hle89 h0
          replace h77 := NEv.mono RI.mono hle89 h77
          rcases rest83 with _ | rest83
          · skip
            refine W.seq ?_
            refine W.region ?_
            refine WL.vS hS hE (runs_plain rfl) (Gives.p hE rfl) rfl ?_; clear hE a; intro a hE
            refine WL.nil ?_
            refine W.seq ?_
            refine W.condF hE rfl (decide_eq_false (by omega)) ?_
            subst hK98
            refine W.exit rfl ?_
            exact ⟨q91, ds95, s88, hle89, Option.some.inj hq79, h96, hn97, hE.pick _ ⟨rfl, trivial⟩, hS⟩
          · have hlt85 : k81 < x73.length := by omega
            rw [Fishref2ClosureOf.loop2] at hq79
            refine W.seq ?_
            refine W.region ?_
            refine WL.vS hS hE (runs_plain rfl) (Gives.p hE rfl) rfl ?_; clear hE a; intro a hE
            refine WL.nil ?_
            refine W.seq ?_
            refine W.condT hE rfl (decide_eq_true (by omega)) ?_
            refine W.skip ?_
            refine W.seq ?_
            refine W.block ?_
            refine W.seq ?_
            refine W.region ?_
            refine WL.vS hS hE (runs_plain rfl) (Gives.p hE rfl) rfl ?_; clear hE a; intro a hE
            refine WL.vS hS hE (runs_plain rfl) (Gives.p hE rfl) rfl ?_; clear hE a; intro a hE
            refine WL.nil ?_
            refine W.seq ?_
            refine W.region ?_
            refine WL.vS hS hE (runs_plain rfl) (Gives.p hE rfl) rfl ?_; clear hE a; intro a hE
            refine WL.vS hS hE (runs_plain rfl) (Gives.p hE rfl) rfl ?_; clear hE a; intro a hE
            refine WL.lit hE hS (e := 3) (es := 1) (vs := [(0, .int .i64 (-4611686018427387904))]) (cs := [.int .i64 (-4611686018427387904)]) (runs_plain rfl) rfl (by kernel_rfl) rfl ?_; clear hE hS a w; intro b99 a w hE hS
            replace hS := hS.ptVec (es := 1) (m := 1) rfl (by decide)
            have h101 : Ev 1 (RI .i64) s88 [.int .i64 (-4611686018427387904)] [(-4611686018427387904)] := (Ev.cons (c1 := [.int .i64 (-4611686018427387904)]) rfl rfl (Ev.nil))
            have hF := hS.fixD RI.mono 0 rfl h101 (rfl); clear hS; obtain ⟨s102, hle103, hS, h104⟩ := hF
            replace h0 := Sl.mono (RL.mono RI.mono) hle103 h0
            replace h96 := NEv.mono RI.mono hle103 h96
            refine WL.vS hS hE (runs_plain rfl) (Gives.p hE rfl) rfl ?_; clear hE a; intro a hE
            obtain ⟨q105, hq106, hq79⟩ := bindS hq79
            have hc_ := SlicesRepeatLint_ok hS h104 hq106
            refine WL.fnq hE (hc_) (runs_plain rfl) bd57 rfl rfl rfl ?_
            clear hE hS hc_; rintro e w ⟨a107, c108, n109, cs110, rfl, h111, rfl, hS⟩; refine ⟨_, rfl, ?_⟩; clear a; intro a hE
            obtain ⟨_, hx113, hq79⟩ := bindS hq79
            obtain ⟨h114, h115⟩ := ix_some hx113
            refine WL.vS hS hE (runs_plain rfl) (Gives.idx hE ((((k81 : Nat) : Int)).toNat) rfl rfl sl40 h114 (by have := hn97; omega) (hS.nAok 1 rfl (by have := hn97; omega : (((k81 : Nat) : Int)).toNat < x73.length))) rfl ?_; clear hE a; intro a hE
            obtain ⟨d116, hd117⟩ : ∃ d, ds95[(((k81 : Nat) : Int)).toNat]? = some d := ⟨_, List.getElem?_eq_getElem (by have h1 := h96.len; have h2 := hn97; omega)⟩
            replace hS := (hS.borrow 1 rfl hd117).tail
            obtain ⟨x118, hx119, hq79⟩ := bindS hq79
            refine WL.storeND hE hS 0 rfl (runs_plain rfl) rfl rfl ty22 h96 hn97 (by have := (sx_some hx119).1; omega) hx119 h111 rfl rfl ?_; clear hE hS a w; intro ds120 a w h121 hn122 hE hS
            refine WL.nil ?_
            refine W.seq ?_
            refine W.region ?_
            refine WL.vS hS hE (runs_plain rfl) (Gives.p hE rfl) rfl ?_; clear hE a; intro a hE
            refine WL.vS hS hE (runs_plain rfl) (Gives.p hE rfl) rfl ?_; clear hE a; intro a hE
            obtain ⟨x123, hx124, hq79⟩ := bindS hq79
            obtain ⟨hi125, hlt126, hy127⟩ := gx_some hx124
            obtain ⟨a128, c129, cs130, hd131, hev132⟩ := h121.at hy127
            refine WL.vS hS hE (runs_plain rfl) (Gives.idx hE ((((k81 : Nat) : Int)).toNat) rfl rfl sl40 hi125 (by have := hn122; omega) (hS.nAok 0 rfl (by have := hn122; omega : (((k81 : Nat) : Int)).toNat < x73.length))) rfl ?_; clear hE a; intro a hE
            refine WL.vS hS hE (runs_plain rfl) (Gives.load1 (v := .slice a128 x123.length c129) hE rfl (fun w h => St.nSees h 0 rfl hd131) ty22) rfl ?_; clear hE a; intro a hE
            refine WL.vS hS hE (runs_plain rfl) (Gives.p hE rfl) rfl ?_; clear hE a; intro a hE
            replace hS := hS.borrowM 0 rfl hd131
            obtain ⟨_, hx135, hq79⟩ := bindS hq79
            obtain ⟨h136, h137⟩ := ix_some hx135
            refine WL.vS hS hE (runs_plain rfl) (Gives.idx hE ((((k81 : Nat) : Int)).toNat) rfl rfl sl22 h136 (by omega) (hS.vecAok 0 rfl (by omega : (((k81 : Nat) : Int)).toNat < x123.length))) rfl ?_; clear hE a; intro a hE
            obtain ⟨x139, hx140, hq79⟩ := bindS hq79
            refine WL.setD hE hS 0 rfl (runs_plain rfl) rfl rfl (vs := [.int .i64 0]) rfl ty3 rfl rfl rfl hev132 (rfl) (sx_some hx140).1 hx140 rfl rfl ?_; clear hE hS a w; intro cs141 a w h142 hn143 hE hS
            refine WL.nil ?_
            refine W.seq ?_
            refine W.region ?_
            refine WL.vS hS hE (runs_plain rfl) (Gives.p hE rfl) rfl ?_; clear hE a; intro a hE
            refine WL.vS hS hE (runs_plain rfl) (Gives.p hE rfl) rfl ?_; clear hE a; intro a hE
            refine WL.vS hS hE (runs_plain rfl) (Gives.p hE rfl) rfl ?_; clear hE a; intro a hE
            refine WL.nil ?_
            replace hS := hS.giveBack 0 rfl hd131
            have h145 := h121.set (k := (((k81 : Nat) : Int)).toNat) (d := ⟨a128, c129, x123.length, cs141⟩) h142 hn143
            have hn146 : (x118.set ((((k81 : Nat) : Int)).toNat) x139).length = x73.length := by simp; exact hn122
            generalize List.set ds120 ((((k81 : Nat) : Int)).toNat) _ = ds144 at hS h145
            obtain ⟨q159, hq158, hq79⟩ := bindS hq79
            refine W.cut (fun a w => ∃ (q164 : Int), ∃ (q165 : List (List Int)), ∃ (ds169 : List In), (.next (q164, q165)) = q159 ∧ NEv 1 (RI .i64) s102 ds169 q165 ∧ q165.length = x73.length ∧ Rep a 132 [(0, .slice a0 x0.length c0), (4, .int .i64 ((x0).length : Int)), (8, .slice (some ⟨b75, 0, none⟩) x73.length x73.length), (37, .int .i64 ((x73.length : Nat) : Int)), (38, .int .i64 ((k81 : Nat) : Int))] ∧ St w s102 (nestC 22 3 1 (some ⟨b75, 0, none⟩) x73.length x73.length ds169 :: R)) ?_ ?_
            · refine W.block ?_
              refine W.loop (fun m a w => ∃ (n160 : Nat), ∃ (q164 : Int), ∃ (q165 : List (List Int)), ∃ (ds169 : List In), n160 = m ∧ Fishref2ClosureOf.loop4 x0 k81 n160 q164 q165 = some q159 ∧ NEv 1 (RI .i64) s102 ds169 q165 ∧ q165.length = x73.length ∧ Rep a 132 [(0, .slice a0 x0.length c0), (4, .int .i64 ((x0).length : Int)), (8, .slice (some ⟨b75, 0, none⟩) x73.length x73.length), (9, .int .i64 ((k81 : Nat) : Int)), (37, .int .i64 ((x73.length : Nat) : Int)), (38, .int .i64 ((k81 : Nat) : Int)), (54, .int .i64 (w64 (((x0).length : Int) + 1))), (55, .int .i64 q164)] ∧ St w s102 (nestC 22 3 1 (some ⟨b75, 0, none⟩) x73.length x73.length ds169 :: R)) (m := fu) ⟨fu, 0, (x118.set ((((k81 : Nat) : Int)).toNat) x139), ds144, rfl, hq158, h145, hn146, hE.pick _ ⟨rfl, rfl, rfl, rfl, rfl, rfl, rfl, rfl, trivial⟩, hS⟩ ?_
              clear hE hS a w hq158; rintro m161 a w ⟨n160, q164, q165, ds169, rfl, hq158, h170, hn171, hE, hS⟩
              refine W.gen fun K172 hK172 => ?_
              rcases n160 with _ | n160
              · rw [Fishref2ClosureOf.loop4] at hq158; exact absurd hq158 (by simp)
              rw [Fishref2ClosureOf.loop4] at hq158
              refine W.seq ?_
              refine W.region ?_
              refine WL.vS hS hE (runs_plain rfl) (Gives.p hE rfl) rfl ?_; clear hE a; intro a hE
              refine WL.nil ?_
              refine W.seq ?_
              refine W.cond hE rfl (fun hc173 => ?_) (fun hc173 => ?_)
              · replace hq158 := iteT hc173 hq158
                refine W.skip ?_
                refine W.seq ?_
                refine W.block ?_
                refine W.seq ?_
                refine W.region ?_
                refine WL.vS hS hE (runs_plain rfl) (Gives.p hE rfl) rfl ?_; clear hE a; intro a hE
                refine WL.vS hS hE (runs_plain rfl) (Gives.p hE rfl) rfl ?_; clear hE a; intro a hE
                refine WL.nil ?_
                refine W.seq ?_
                refine W.region ?_
                refine WL.vS hS hE (runs_plain rfl) (Gives.p hE rfl) rfl ?_; clear hE a; intro a hE
                refine WL.vS hS hE (runs_plain rfl) (Gives.p hE rfl) rfl ?_; clear hE a; intro a hE
                refine WL.nil ?_
                obtain ⟨q175, hq174, hq158⟩ := bindS hq158
                refine W.cut (fun a w => ∃ (q185 : List (List Int)), ∃ (ds189 : List In), (.next q185) = q175 ∧ NEv 1 (RI .i64) s102 ds189 q185 ∧ q185.length = x73.length ∧ Rep a 132 [(0, .slice a0 x0.length c0), (4, .int .i64 ((x0).length : Int)), (8, .slice (some ⟨b75, 0, none⟩) x73.length x73.length), (9, .int .i64 ((k81 : Nat) : Int)), (37, .int .i64 ((x73.length : Nat) : Int)), (38, .int .i64 ((k81 : Nat) : Int)), (54, .int .i64 (w64 (((x0).length : Int) + 1))), (55, .int .i64 q164)] ∧ St w s102 (nestC 22 3 1 (some ⟨b75, 0, none⟩) x73.length x73.length ds189 :: R)) ?_ ?_
                · refine W.block ?_
                  refine W.loop (fun m a w => ∃ (rest178 : List (List Int)) (k176 : Nat), ∃ (q185 : List (List Int)), ∃ (ds189 : List In), rest178.length = m ∧ x0.drop k176 = rest178 ∧ Fishref2ClosureOf.loop5 x0 k81 q164 rest178 k176 q185 = some q175 ∧ NEv 1 (RI .i64) s102 ds189 q185 ∧ q185.length = x73.length ∧ Rep a 132 [(0, .slice a0 x0.length c0), (4, .int .i64 ((x0).length : Int)), (8, .slice (some ⟨b75, 0, none⟩) x73.length x73.length), (9, .int .i64 ((k81 : Nat) : Int)), (10, .int .i64 q164), (37, .int .i64 ((x73.length : Nat) : Int)), (38, .int .i64 ((k81 : Nat) : Int)), (54, .int .i64 (w64 (((x0).length : Int) + 1))), (55, .int .i64 q164), (58, .int .i64 ((x0).length : Int)), (59, .int .i64 ((k176 : Nat) : Int))] ∧ St w s102 (nestC 22 3 1 (some ⟨b75, 0, none⟩) x73.length x73.length ds189 :: R)) (m := x0.length) ⟨x0, 0, q165, ds169, rfl, rfl, hq174, h170, hn171, hE.pick _ ⟨rfl, rfl, rfl, rfl, rfl, rfl, rfl, rfl, rfl, rfl, rfl, trivial⟩, hS⟩ ?_
                  clear hE hS a w hq174; rintro m182 a w ⟨rest178, k176, q185, ds189, rfl, hd179, hq174, h190, hn191, hE, hS⟩
                  refine W.gen fun K192 hK192 => ?_
                  rcases rest178 with _ | ⟨x177, rest178⟩
                  · have hlt180 := drop_nil hd179
                    refine W.seq ?_
                    refine W.region ?_
                    refine WL.vS hS hE (runs_plain rfl) (Gives.p hE rfl) rfl ?_; clear hE a; intro a hE
                    refine WL.nil ?_
                    refine W.seq ?_
                    refine W.condF hE rfl (decide_eq_false (by omega)) ?_
                    subst hK192
                    refine W.exit rfl ?_
                    exact ⟨q185, ds189, Option.some.inj hq174, h190, hn191, hE.pick _ ⟨rfl, rfl, rfl, rfl, rfl, rfl, rfl, rfl, trivial⟩, hS⟩
                  · obtain ⟨hlt180, hx181, hd179⟩ := drop_cons hd179
                    rw [Fishref2ClosureOf.loop5] at hq174
                    refine W.seq ?_
                    refine W.region ?_
                    refine WL.vS hS hE (runs_plain rfl) (Gives.p hE rfl) rfl ?_; clear hE a; intro a hE
                    refine WL.nil ?_
                    refine W.seq ?_
                    refine W.condT hE rfl (decide_eq_true (by omega)) ?_
                    refine W.skip ?_
                    refine W.seq ?_
                    refine W.block ?_
                    refine W.seq ?_
                    refine W.region ?_
                    refine WL.vS hS hE (runs_plain rfl) (Gives.p hE rfl) rfl ?_; clear hE a; intro a hE
                    refine WL.vS hS hE (runs_plain rfl) (Gives.p hE rfl) rfl ?_; clear hE a; intro a hE
                    refine WL.nil ?_
                    refine W.seq ?_
                    refine W.region ?_
                    refine WL.vS hS hE (runs_plain rfl) (Gives.p hE rfl) rfl ?_; clear hE a; intro a hE
                    refine WL.vS hS hE (runs_plain rfl) (Gives.p hE rfl) rfl ?_; clear hE a; intro a hE
                    refine WL.nil ?_
                    obtain ⟨q194, hq193, hq174⟩ := bindS hq174
                    refine W.cut (fun a w => ∃ (q204 : List (List Int)), ∃ (ds208 : List In), (.next q204) = q194 ∧ NEv 1 (RI .i64) s102 ds208 q204 ∧ q204.length = x73.length ∧ Rep a 132 [(0, .slice a0 x0.length c0), (4, .int .i64 ((x0).length : Int)), (8, .slice (some ⟨b75, 0, none⟩) x73.length x73.length), (9, .int .i64 ((k81 : Nat) : Int)), (10, .int .i64 q164), (37, .int .i64 ((x73.length : Nat) : Int)), (38, .int .i64 ((k81 : Nat) : Int)), (54, .int .i64 (w64 (((x0).length : Int) + 1))), (55, .int .i64 q164), (58, .int .i64 ((x0).length : Int)), (59, .int .i64 ((k176 : Nat) : Int))] ∧ St w s102 (nestC 22 3 1 (some ⟨b75, 0, none⟩) x73.length x73.length ds208 :: R)) ?_ ?_
                    · refine W.block ?_
                      refine W.loop (fun m a w => ∃ (rest197 : List (List Int)) (k195 : Nat), ∃ (q204 : List (List Int)), ∃ (ds208 : List In), rest197.length = m ∧ x0.drop k195 = rest197 ∧ Fishref2ClosureOf.loop6 x0 k81 q164 x177 k176 rest197 k195 q204 = some q194 ∧ NEv 1 (RI .i64) s102 ds208 q204 ∧ q204.length = x73.length ∧ Rep a 132 [(0, .slice a0 x0.length c0), (4, .int .i64 ((x0).length : Int)), (8, .slice (some ⟨b75, 0, none⟩) x73.length x73.length), (9, .int .i64 ((k81 : Nat) : Int)), (10, .int .i64 q164), (11, .int .i64 ((k176 : Nat) : Int)), (37, .int .i64 ((x73.length : Nat) : Int)), (38, .int .i64 ((k81 : Nat) : Int)), (54, .int .i64 (w64 (((x0).length : Int) + 1))), (55, .int .i64 q164), (58, .int .i64 ((x0).length : Int)), (59, .int .i64 ((k176 : Nat) : Int)), (62, .int .i64 ((x0).length : Int)), (63, .int .i64 ((k195 : Nat) : Int))] ∧ St w s102 (nestC 22 3 1 (some ⟨b75, 0, none⟩) x73.length x73.length ds208 :: R)) (m := x0.length) ⟨x0, 0, q185, ds189, rfl, rfl, hq193, h190, hn191, hE.pick _ ⟨rfl, rfl, rfl, rfl, rfl, rfl, rfl, rfl, rfl, rfl, rfl, rfl, rfl, rfl, trivial⟩, hS⟩ ?_
                      clear hE hS a w hq193; rintro m201 a w ⟨rest197, k195, q204, ds208, rfl, hd198, hq193, h209, hn210, hE, hS⟩
                      refine W.gen fun K211 hK211 => ?_
                      rcases rest197 with _ | ⟨x196, rest197⟩
                      · have hlt199 := drop_nil hd198
                        refine W.seq ?_
                        refine W.region ?_
                        refine WL.vS hS hE (runs_plain rfl) (Gives.p hE rfl) rfl ?_; clear hE a; intro a hE
                        refine WL.nil ?_
                        refine W.seq ?_
                        refine W.condF hE rfl (decide_eq_false (by omega)) ?_
                        subst hK211
                        refine W.exit rfl ?_
                        exact ⟨q204, ds208, Option.some.inj hq193, h209, hn210, hE.pick _ ⟨rfl, rfl, rfl, rfl, rfl, rfl, rfl, rfl, rfl, rfl, rfl, trivial⟩, hS⟩
                      · obtain ⟨hlt199, hx200, hd198⟩ := drop_cons hd198
                        rw [Fishref2ClosureOf.loop6] at hq193
                        refine W.seq ?_
                        refine W.region ?_
                        refine WL.vS hS hE (runs_plain rfl) (Gives.p hE rfl) rfl ?_; clear hE a; intro a hE
                        refine WL.nil ?_
                        refine W.seq ?_
                        refine W.condT hE rfl (decide_eq_true (by omega)) ?_
                        refine W.skip ?_
                        refine W.seq ?_
                        refine W.block ?_
                        refine W.seq ?_
                        refine W.region ?_
                        refine WL.vS hS hE (runs_plain rfl) (Gives.p hE rfl) rfl ?_; clear hE a; intro a hE
                        refine WL.vS hS hE (runs_plain rfl) (Gives.p hE rfl) rfl ?_; clear hE a; intro a hE
                        refine WL.nil ?_
                        refine W.seq ?_
                        refine W.seq ?_
                        obtain ⟨q213, hq212, hq193⟩ := bindS hq193
                        refine W.cut (fun a w => ∃ (q216 : Bool), q216 = q213 ∧ Rep a 132 [(0, .slice a0 x0.length c0), (4, .int .i64 ((x0).length : Int)), (8, .slice (some ⟨b75, 0, none⟩) x73.length x73.length), (9, .int .i64 ((k81 : Nat) : Int)), (10, .int .i64 q164), (11, .int .i64 ((k176 : Nat) : Int)), (12, .int .i64 ((k195 : Nat) : Int)), (37, .int .i64 ((x73.length : Nat) : Int)), (38, .int .i64 ((k81 : Nat) : Int)), (54, .int .i64 (w64 (((x0).length : Int) + 1))), (55, .int .i64 q164), (58, .int .i64 ((x0).length : Int)), (59, .int .i64 ((k176 : Nat) : Int)), (62, .int .i64 ((x0).length : Int)), (63, .int .i64 ((k195 : Nat) : Int)), (83, .bool q216)] ∧ St w s102 (nestC 22 3 1 (some ⟨b75, 0, none⟩) x73.length x73.length ds208 :: R)) ?_ ?_
                        · refine W.gen fun K217 hK217 => ?_
                          refine W.region ?_
                          refine WL.vS hS hE (runs_plain rfl) (Gives.p hE rfl) rfl ?_; clear hE a; intro a hE
                          refine WL.vS hS hE (runs_plain rfl) (Gives.p hE rfl) rfl ?_; clear hE a; intro a hE
                          obtain ⟨x218, hx219, hq212⟩ := bindS hq212
                          obtain ⟨hi220, hlt221, hy222⟩ := gx_some hx219
                          obtain ⟨a223, c224, cs225, hd226, hev227⟩ := h209.at hy222
                          refine WL.vS hS hE (runs_plain rfl) (Gives.idx hE ((((k81 : Nat) : Int)).toNat) rfl rfl sl40 hi220 (by have := hn210; omega) (hS.nAok 0 rfl (by have := hn210; omega : (((k81 : Nat) : Int)).toNat < x73.length))) rfl ?_; clear hE a; intro a hE
                          refine WL.vS hS hE (runs_plain rfl) (Gives.load1 (v := .slice a223 x218.length c224) hE rfl (fun w h => St.nSees h 0 rfl hd226) ty22) rfl ?_; clear hE a; intro a hE
                          refine WL.vS hS hE (runs_plain rfl) (Gives.p hE rfl) rfl ?_; clear hE a; intro a hE
                          obtain ⟨x228, hx229, hq212⟩ := bindS hq212
                          obtain ⟨hi230, hlt231, hy232⟩ := gx_some hx229
                          obtain ⟨vs233, hl234, hR235, hd236, hget237⟩ := hev227.at hy232
                          subst hR235
                          refine WL.vS hS hE (runs_plain rfl) (Gives.idx hE ((((k176 : Nat) : Int)).toNat) rfl rfl sl22 hi230 hlt231 (hS.nnAok 0 rfl hd226 hlt231)) rfl ?_; clear hE a; intro a hE
                          refine WL.vS hS hE (runs_plain rfl) (Gives.load1 hE rfl (fun w h => St.nnSees h 0 rfl hd226 ((((k176 : Nat) : Int)).toNat * 1) _ hget237) ty3) rfl ?_; clear hE a; intro a hE
                          refine WL.vS hS hE (runs_plain rfl) (Gives.p hE rfl) rfl ?_; clear hE a; intro a hE
                          refine WL.vS hS hE (runs_plain rfl) (Gives.p hE rfl) rfl ?_; clear hE a; intro a hE
                          rcases Bool.eq_false_or_eq_true (x228 == (-4611686018427387904)) with hg238 | hg238
                          · replace hq212 := iteT hg238 hq212
                            refine WL.no hE (runs_not hE rfl rfl rfl (by rw [hg238]; decide)) rfl ?_; clear hE a; intro a hE
                            refine WL.no hE (runs_not hE rfl rfl rfl (by rw [hg238]; decide)) rfl ?_; clear hE a; intro a hE
                            refine WL.no hE (runs_not hE rfl rfl rfl (by rw [hg238]; decide)) rfl ?_; clear hE a; intro a hE
                            refine WL.no hE (runs_not hE rfl rfl rfl (by rw [hg238]; decide)) rfl ?_; clear hE a; intro a hE
                            refine WL.no hE (runs_not hE rfl rfl rfl (by rw [hg238]; decide)) rfl ?_; clear hE a; intro a hE
                            refine WL.no hE (runs_not hE rfl rfl rfl (by rw [hg238]; decide)) rfl ?_; clear hE a; intro a hE
                            refine WL.no hE (runs_not hE rfl rfl rfl (by rw [hg238]; decide)) rfl ?_; clear hE a; intro a hE
                            refine WL.no hE (runs_not hE rfl rfl rfl (by rw [hg238]; decide)) rfl ?_; clear hE a; intro a hE
                            refine WL.vS hS hE (runs_plain rfl) (Gives.pickT hE rfl hg238 rfl) rfl ?_; clear hE a; intro a hE
                            refine WL.nil ?_
                            subst hK217
                            exact ⟨true, Option.some.inj hq212, hE.pick _ ⟨rfl, rfl, rfl, rfl, rfl, rfl, rfl, rfl, rfl, rfl, rfl, rfl, rfl, rfl, rfl, rfl, trivial⟩, hS⟩
                          · replace hq212 := iteF hg238 hq212
                            refine WL.vS hS hE (runs_if hE rfl rfl rfl hg238) (Gives.p hE rfl) rfl ?_; clear hE a; intro a hE
                            refine WL.vS hS hE (runs_if hE rfl rfl rfl hg238) (Gives.p hE rfl) rfl ?_; clear hE a; intro a hE
                            obtain ⟨cs239, hl240, hR241, hat242⟩ := h0.at hx181
                            obtain ⟨a243, c244, rfl, h245⟩ := hR241
                            refine WL.vS hS hE (runs_if hE rfl rfl rfl hg238) (Gives.idx hE k176 rfl rfl sl40 rfl hlt180 (h0.aok hlt180)) rfl ?_; clear hE a; intro a hE
                            refine WL.vS hS hE (runs_if hE rfl rfl rfl hg238) (Gives.load1 hE rfl (fun w h => hat242 w _ h) ty22) rfl ?_; clear hE a; intro a hE
                            refine WL.vS hS hE (runs_if hE rfl rfl rfl hg238) (Gives.p hE rfl) rfl ?_; clear hE a; intro a hE
                            obtain ⟨x246, hx247, hq212⟩ := bindS hq212
                            obtain ⟨hi248, hlt249, hy250⟩ := gx_some hx247
                            obtain ⟨cs251, hl252, hR253, hat254⟩ := h245.at hy250
                            subst hR253
                            refine WL.vS hS hE (runs_if hE rfl rfl rfl hg238) (Gives.idx hE (((k195 : Nat) : Int)).toNat rfl rfl sl22 hi248 hlt249 (h245.aok hlt249)) rfl ?_; clear hE a; intro a hE
                            refine WL.vS hS hE (runs_if hE rfl rfl rfl hg238) (Gives.load1 hE rfl (fun w h => hat254 w _ h) ty3) rfl ?_; clear hE a; intro a hE
                            refine WL.vS hS hE (runs_if hE rfl rfl rfl hg238) (Gives.p hE rfl) rfl ?_; clear hE a; intro a hE
                            refine WL.vS hS hE (runs_plain rfl) (Gives.pickF hE rfl hg238 rfl) rfl ?_; clear hE a; intro a hE
                            refine WL.nil ?_
                            subst hK217
                            exact ⟨(x246 == (-4611686018427387904)), Option.some.inj hq212, hE.pick _ ⟨rfl, rfl, rfl, rfl, rfl, rfl, rfl, rfl, rfl, rfl, rfl, rfl, rfl, rfl, rfl, rfl, trivial⟩, hS⟩
                        · clear hE hS a w; rintro a w ⟨q216, rfl, hE, hS⟩
                          refine W.cond hE rfl (fun hc255 => ?_) (fun hc255 => ?_)
                          · replace hq193 := iteT hc255 hq193
                            refine W.exit rfl ?_
                            refine W.region ?_
                            refine WL.vS hS hE (runs_plain rfl) (Gives.inc hE rfl (by have := h0.small; omega)) rfl ?_; clear hE a; intro a hE
                            refine WL.vS hS hE (runs_plain rfl) (Gives.p hE rfl) rfl ?_; clear hE a; intro a hE
                            refine WL.nil ?_
                            subst hK211
                            exact ⟨rest197.length, Nat.lt_succ_self _, rest197, k195 + 1, q204, ds208, rfl, hd198, hq193, h209, hn210, hE.pick _ ⟨rfl, rfl, rfl, rfl, rfl, rfl, rfl, rfl, rfl, rfl, rfl, rfl, rfl, rfl, trivial⟩, hS⟩
                          · replace hq193 := iteF hc255 hq193
                            refine W.skip ?_
                            refine W.seq ?_
                            refine W.regionQ (C := fun w => St w s102 (nestC 22 3 1 (some ⟨b75, 0, none⟩) x73.length x73.length ds208 :: R)) mixed (by kernel_rfl) hS.drew ?_
                            refine QL.v hE (runs_plain rfl) (Gives.p hE rfl) rfl ?_; clear hE a; intro a hE
                            refine QL.v hE (runs_plain rfl) (Gives.p hE rfl) rfl ?_; clear hE a; intro a hE
                            obtain ⟨x256, hx257, hq193⟩ := bindS hq193
                            obtain ⟨hi258, hlt259, hy260⟩ := gx_some hx257
                            obtain ⟨a261, c262, cs263, hd264, hev265⟩ := h209.at hy260
                            refine QL.v hE (runs_plain rfl) (Gives.idx hE ((((k81 : Nat) : Int)).toNat) rfl rfl sl40 hi258 (by have := hn210; omega) (hS.nAok 0 rfl (by have := hn210; omega : (((k81 : Nat) : Int)).toNat < x73.length))) rfl ?_; clear hE a; intro a hE
                            refine QL.v hE (runs_plain rfl) (Gives.load1 (v := .slice a261 x256.length c262) hE rfl (fun w h => St.nSees h 0 rfl hd264) ty22) rfl ?_; clear hE a; intro a hE
                            refine QL.v hE (runs_plain rfl) (Gives.p hE rfl) rfl ?_; clear hE a; intro a hE
                            obtain ⟨x266, hx267, hq193⟩ := bindS hq193
                            obtain ⟨hi268, hlt269, hy270⟩ := gx_some hx267
                            obtain ⟨vs271, hl272, hR273, hd274, hget275⟩ := hev265.at hy270
                            subst hR273
                            refine QL.v hE (runs_plain rfl) (Gives.idx hE ((((k176 : Nat) : Int)).toNat) rfl rfl sl22 hi268 hlt269 (hS.nnAok 0 rfl hd264 hlt269)) rfl ?_; clear hE a; intro a hE
                            refine QL.v hE (runs_plain rfl) (Gives.load1 hE rfl (fun w h => St.nnSees h 0 rfl hd264 ((((k176 : Nat) : Int)).toNat * 1) _ hget275) ty3) rfl ?_; clear hE a; intro a hE
                            refine QL.v hE (runs_plain rfl) (Gives.p hE rfl) rfl ?_; clear hE a; intro a hE
                            refine QL.v hE (runs_plain rfl) (Gives.p hE rfl) rfl ?_; clear hE a; intro a hE
                            obtain ⟨cs276, hl277, hR278, hat279⟩ := h0.at hx181
                            obtain ⟨a280, c281, rfl, h282⟩ := hR278
                            refine QL.v hE (runs_plain rfl) (Gives.idx hE k176 rfl rfl sl40 rfl hlt180 (h0.aok hlt180)) rfl ?_; clear hE a; intro a hE
                            refine QL.v hE (runs_plain rfl) (Gives.load1 hE rfl (fun w h => hat279 w _ h) ty22) rfl ?_; clear hE a; intro a hE
                            refine QL.v hE (runs_plain rfl) (Gives.p hE rfl) rfl ?_; clear hE a; intro a hE
                            obtain ⟨x283, hx284, hq193⟩ := bindS hq193
                            obtain ⟨hi285, hlt286, hy287⟩ := gx_some hx284
                            obtain ⟨cs288, hl289, hR290, hat291⟩ := h282.at hy287
                            subst hR290
                            refine QL.v hE (runs_plain rfl) (Gives.idx hE (((k195 : Nat) : Int)).toNat rfl rfl sl22 hi285 hlt286 (h282.aok hlt286)) rfl ?_; clear hE a; intro a hE
                            refine QL.v hE (runs_plain rfl) (Gives.load1 hE rfl (fun w h => hat291 w _ h) ty3) rfl ?_; clear hE a; intro a hE
                            refine QL.v hE (runs_plain rfl) (Gives.p hE rfl) rfl ?_; clear hE a; intro a hE
                            refine QL.v hE (runs_plain rfl) (Gives.p hE rfl) rfl ?_; clear hE a; intro a hE
                            refine QL.nil ?_; clear hS w; intro w hS
                            refine W.seq ?_
                            refine W.region ?_
                            refine WL.vS hS hE (runs_plain rfl) (Gives.p hE rfl) rfl ?_; clear hE a; intro a hE
                            refine WL.vS hS hE (runs_plain rfl) (Gives.p hE rfl) rfl ?_; clear hE a; intro a hE
                            refine WL.vS hS hE (runs_plain rfl) (Gives.p hE rfl) rfl ?_; clear hE a; intro a hE
                            obtain ⟨x292, hx293, hq193⟩ := bindS hq193
                            obtain ⟨hi294, hlt295, hy296⟩ := gx_some hx293
                            obtain ⟨a297, c298, cs299, hd300, hev301⟩ := h209.at hy296
                            refine WL.vS hS hE (runs_plain rfl) (Gives.idx hE ((((k81 : Nat) : Int)).toNat) rfl rfl sl40 hi294 (by have := hn210; omega) (hS.nAok 0 rfl (by have := hn210; omega : (((k81 : Nat) : Int)).toNat < x73.length))) rfl ?_; clear hE a; intro a hE
                            refine WL.vS hS hE (runs_plain rfl) (Gives.load1 (v := .slice a297 x292.length c298) hE rfl (fun w h => St.nSees h 0 rfl hd300) ty22) rfl ?_; clear hE a; intro a hE
                            refine WL.vS hS hE (runs_plain rfl) (Gives.p hE rfl) rfl ?_; clear hE a; intro a hE
                            obtain ⟨x302, hx303, hq193⟩ := bindS hq193
                            obtain ⟨hi304, hlt305, hy306⟩ := gx_some hx303
                            obtain ⟨vs307, hl308, hR309, hd310, hget311⟩ := hev301.at hy306
                            subst hR309
                            refine WL.vS hS hE (runs_plain rfl) (Gives.idx hE ((((k195 : Nat) : Int)).toNat) rfl rfl sl22 hi304 hlt305 (hS.nnAok 0 rfl hd300 hlt305)) rfl ?_; clear hE a; intro a hE
                            refine WL.vS hS hE (runs_plain rfl) (Gives.load1 hE rfl (fun w h => St.nnSees h 0 rfl hd300 ((((k195 : Nat) : Int)).toNat * 1) _ hget311) ty3) rfl ?_; clear hE a; intro a hE
                            refine WL.vS hS hE (runs_plain rfl) (Gives.p hE rfl) rfl ?_; clear hE a; intro a hE
                            refine WL.nil ?_
                            obtain ⟨q313, hq312, hq193⟩ := bindS hq193
                            refine W.cut (fun a w => ∃ (q316 : List (List Int)), ∃ (ds320 : List In), .next q316 = q313 ∧ NEv 1 (RI .i64) s102 ds320 q316 ∧ q316.length = x73.length ∧ Rep a 132 [(0, .slice a0 x0.length c0), (4, .int .i64 ((x0).length : Int)), (8, .slice (some ⟨b75, 0, none⟩) x73.length x73.length), (9, .int .i64 ((k81 : Nat) : Int)), (10, .int .i64 q164), (11, .int .i64 ((k176 : Nat) : Int)), (37, .int .i64 ((x73.length : Nat) : Int)), (38, .int .i64 ((k81 : Nat) : Int)), (54, .int .i64 (w64 (((x0).length : Int) + 1))), (55, .int .i64 q164), (58, .int .i64 ((x0).length : Int)), (59, .int .i64 ((k176 : Nat) : Int)), (62, .int .i64 ((x0).length : Int)), (63, .int .i64 ((k195 : Nat) : Int))] ∧ St w s102 (nestC 22 3 1 (some ⟨b75, 0, none⟩) x73.length x73.length ds320 :: R)) ?_ ?_
                            · refine W.gen fun K323 hK323 => ?_
                              refine W.cond hE rfl (fun hc324 => ?_) (fun hc324 => ?_)
                              · replace hq312 := iteT hc324 hq312
                                refine W.seq ?_
                                refine W.seq ?_
                                obtain ⟨q326, hq325, hq312⟩ := bndS hq312
                                refine W.cut (fun a w => ∃ (q329 : Bool), q329 = q326 ∧ Rep a 132 [(0, .slice a0 x0.length c0), (4, .int .i64 ((x0).length : Int)), (8, .slice (some ⟨b75, 0, none⟩) x73.length x73.length), (9, .int .i64 ((k81 : Nat) : Int)), (10, .int .i64 q164), (11, .int .i64 ((k176 : Nat) : Int)), (12, .int .i64 ((k195 : Nat) : Int)), (13, .int .i64 (w64 (x266 + x283))), (37, .int .i64 ((x73.length : Nat) : Int)), (38, .int .i64 ((k81 : Nat) : Int)), (54, .int .i64 (w64 (((x0).length : Int) + 1))), (55, .int .i64 q164), (58, .int .i64 ((x0).length : Int)), (59, .int .i64 ((k176 : Nat) : Int)), (62, .int .i64 ((x0).length : Int)), (63, .int .i64 ((k195 : Nat) : Int)), (119, .bool q329)] ∧ St w s102 (nestC 22 3 1 (some ⟨b75, 0, none⟩) x73.length x73.length ds208 :: R)) ?_ ?_
                                · refine W.gen fun K330 hK330 => ?_
                                  refine W.region ?_
                                  refine WL.vS hS hE (runs_plain rfl) (Gives.p hE rfl) rfl ?_; clear hE a; intro a hE
                                  refine WL.vS hS hE (runs_plain rfl) (Gives.p hE rfl) rfl ?_; clear hE a; intro a hE
                                  refine WL.vS hS hE (runs_plain rfl) (Gives.p hE rfl) rfl ?_; clear hE a; intro a hE
                                  refine WL.vS hS hE (runs_plain rfl) (Gives.p hE rfl) rfl ?_; clear hE a; intro a hE
                                  rcases Bool.eq_false_or_eq_true (q164 == ((x0).length : Int)) with hg331 | hg331
                                  · replace hq325 := iteT hg331 hq325
                                    refine WL.no hE (runs_not hE rfl rfl rfl (by rw [hg331]; decide)) rfl ?_; clear hE a; intro a hE
                                    refine WL.no hE (runs_not hE rfl rfl rfl (by rw [hg331]; decide)) rfl ?_; clear hE a; intro a hE
                                    refine WL.no hE (runs_not hE rfl rfl rfl (by rw [hg331]; decide)) rfl ?_; clear hE a; intro a hE
                                    refine WL.no hE (runs_not hE rfl rfl rfl (by rw [hg331]; decide)) rfl ?_; clear hE a; intro a hE
                                    refine WL.no hE (runs_undef hE rfl rfl rfl) rfl ?_; clear hE a; intro a hE
                                    refine WL.no hE (runs_undef hE rfl rfl rfl) rfl ?_; clear hE a; intro a hE
                                    refine WL.no hE (runs_not hE rfl rfl rfl (by rw [hg331]; decide)) rfl ?_; clear hE a; intro a hE
                                    refine WL.vS hS hE (runs_plain rfl) (Gives.pickT hE rfl hg331 rfl) rfl ?_; clear hE a; intro a hE
                                    refine WL.nil ?_
                                    subst hK330
                                    exact ⟨true, hq325, hE.pick _ ⟨rfl, rfl, rfl, rfl, rfl, rfl, rfl, rfl, rfl, rfl, rfl, rfl, rfl, rfl, rfl, rfl, rfl, trivial⟩, hS⟩
                                  · replace hq325 := iteF hg331 hq325
                                    refine WL.vS hS hE (runs_if hE rfl rfl rfl hg331) (Gives.p hE rfl) rfl ?_; clear hE a; intro a hE
                                    refine WL.vS hS hE (runs_if hE rfl rfl rfl hg331) (Gives.p hE rfl) rfl ?_; clear hE a; intro a hE
                                    refine WL.vS hS hE (runs_if hE rfl rfl rfl hg331) (Gives.p hE rfl) rfl ?_; clear hE a; intro a hE
                                    refine WL.vS hS hE (runs_if hE rfl rfl rfl hg331) (Gives.p hE rfl) rfl ?_; clear hE a; intro a hE
                                    rcases Bool.eq_false_or_eq_true (((k195 : Nat) : Int) == ((k81 : Nat) : Int)) with hg332 | hg332
                                    · replace hq325 := iteT hg332 hq325
                                      refine WL.vS hS hE (runs_if hE rfl rfl rfl hg332) (Gives.p hE rfl) rfl ?_; clear hE a; intro a hE
                                      refine WL.vS hS hE (runs_if hE rfl rfl rfl hg332) (Gives.p hE rfl) rfl ?_; clear hE a; intro a hE
                                      refine WL.vS hS hE (runs_if hE rfl rfl rfl hg331) (Gives.pickT hE rfl hg332 rfl) rfl ?_; clear hE a; intro a hE
                                      refine WL.vS hS hE (runs_plain rfl) (Gives.pickF hE rfl hg331 rfl) rfl ?_; clear hE a; intro a hE
                                      refine WL.nil ?_
                                      subst hK330
                                      exact ⟨decide ((w64 (x266 + x283)) > 0), hq325, hE.pick _ ⟨rfl, rfl, rfl, rfl, rfl, rfl, rfl, rfl, rfl, rfl, rfl, rfl, rfl, rfl, rfl, rfl, rfl, trivial⟩, hS⟩
                                    · replace hq325 := iteF hg332 hq325
                                      refine WL.no hE (runs_not hE rfl rfl rfl (by rw [hg332]; decide)) rfl ?_; clear hE a; intro a hE
                                      refine WL.no hE (runs_not hE rfl rfl rfl (by rw [hg332]; decide)) rfl ?_; clear hE a; intro a hE
                                      refine WL.vS hS hE (runs_if hE rfl rfl rfl hg331) (Gives.pickF hE rfl hg332 rfl) rfl ?_; clear hE a; intro a hE
                                      refine WL.vS hS hE (runs_plain rfl) (Gives.pickF hE rfl hg331 rfl) rfl ?_; clear hE a; intro a hE
                                      refine WL.nil ?_
                                      subst hK330
                                      exact ⟨false, hq325, hE.pick _ ⟨rfl, rfl, rfl, rfl, rfl, rfl, rfl, rfl, rfl, rfl, rfl, rfl, rfl, rfl, rfl, rfl, rfl, trivial⟩, hS⟩
                                · clear hE hS a w; rintro a w ⟨q329, rfl, hE, hS⟩
                                  refine W.cond hE rfl (fun hc333 => ?_) (fun hc333 => ?_)
                                  · replace hq312 := iteT hc333 hq312
                                    refine W.seq ?_
                                    refine W.region ?_
                                    refine WL.vS hS hE (runs_plain rfl) (Gives.p hE rfl) rfl ?_; clear hE a; intro a hE
                                    refine WL.vS hS hE (runs_plain rfl) (Gives.p hE rfl) rfl ?_; clear hE a; intro a hE
                                    refine WL.nil ?_
                                    refine W.ret ?_
                                    subst hK323
                                    subst hK211
                                    subst hK192
                                    subst hK172
                                    subst hK98
                                    rw [← Option.some.inj hq312] at hq193
                                    dsimp only at hq193
                                    rw [← Option.some.inj hq193] at hq174
                                    dsimp only at hq174
                                    rw [← Option.some.inj hq174] at hq158
                                    dsimp only at hq158
                                    rw [← Option.some.inj hq158] at hq79
                                    dsimp only at hq79
                                    rw [← Option.some.inj hq79] at hr
                                    dsimp only at hr
                                    refine finG (fn := Try.f32) (rs := [.tmp 2, .tmp 3]) (vs := [_, _]) hE rfl ⟨rfl, rfl, trivial⟩ ?_
                                    obtain rfl := Option.some.inj hr
                                    replace hS := hS.tail
                                    exact ⟨none, 0, s102, rfl, (Sg.Le.trans hle89 hle103), Sl.nil, hS⟩
                                  · replace hq312 := iteF hc333 hq312
                                    refine W.skip ?_
                                    refine W.region ?_
                                    refine WL.vS hS hE (runs_plain rfl) (Gives.p hE rfl) rfl ?_; clear hE a; intro a hE
                                    refine WL.vS hS hE (runs_plain rfl) (Gives.p hE rfl) rfl ?_; clear hE a; intro a hE
                                    obtain ⟨x334, hx335, hq312⟩ := bindS hq312
                                    obtain ⟨hi336, hlt337, hy338⟩ := gx_some hx335
                                    obtain ⟨a339, c340, cs341, hd342, hev343⟩ := h209.at hy338
                                    refine WL.vS hS hE (runs_plain rfl) (Gives.idx hE ((((k81 : Nat) : Int)).toNat) rfl rfl sl40 hi336 (by have := hn210; omega) (hS.nAok 0 rfl (by have := hn210; omega : (((k81 : Nat) : Int)).toNat < x73.length))) rfl ?_; clear hE a; intro a hE
                                    refine WL.vS hS hE (runs_plain rfl) (Gives.load1 (v := .slice a339 x334.length c340) hE rfl (fun w h => St.nSees h 0 rfl hd342) ty22) rfl ?_; clear hE a; intro a hE
                                    refine WL.vS hS hE (runs_plain rfl) (Gives.p hE rfl) rfl ?_; clear hE a; intro a hE
                                    refine WL.vS hS hE (runs_plain rfl) (Gives.p hE rfl) rfl ?_; clear hE a; intro a hE
                                    replace hS := hS.borrowM 0 rfl hd342
                                    obtain ⟨_, hx346, hq312⟩ := bindS hq312
                                    obtain ⟨h347, h348⟩ := ix_some hx346
                                    refine WL.vS hS hE (runs_plain rfl) (Gives.idx hE ((((k195 : Nat) : Int)).toNat) rfl rfl sl22 h347 (by omega) (hS.vecAok 0 rfl (by omega : (((k195 : Nat) : Int)).toNat < x334.length))) rfl ?_; clear hE a; intro a hE
                                    obtain ⟨x350, hx351, hq312⟩ := bindS hq312
                                    refine WL.setD hE hS 0 rfl (runs_plain rfl) rfl rfl (vs := [.int .i64 (w64 (x266 + x283))]) rfl ty3 rfl rfl rfl hev343 (rfl) (sx_some hx351).1 hx351 rfl rfl ?_; clear hE hS a w; intro cs352 a w h353 hn354 hE hS
                                    refine WL.nil ?_
                                    replace hS := hS.giveBack 0 rfl hd342
                                    have h356 := h209.set (k := (((k81 : Nat) : Int)).toNat) (d := ⟨a339, c340, x334.length, cs352⟩) h353 hn354
                                    have hn357 : (q204.set ((((k81 : Nat) : Int)).toNat) x350).length = x73.length := by simp; exact hn210
                                    generalize List.set ds208 ((((k81 : Nat) : Int)).toNat) _ = ds355 at hS h356
                                    subst hK323
                                    exact ⟨(q204.set ((((k81 : Nat) : Int)).toNat) x350), ds355, Option.some.inj hq312, h356, hn357, hE.pick _ ⟨rfl, rfl, rfl, rfl, rfl, rfl, rfl, rfl, rfl, rfl, rfl, rfl, rfl, rfl, trivial⟩, hS⟩
                              · replace hq312 := iteF hc324 hq312
                                refine W.skip ?_
                                subst hK323
                                exact ⟨q204, ds208, Option.some.inj hq312, h209, hn210, hE.pick _ ⟨rfl, rfl, rfl, rfl, rfl, rfl, rfl, rfl, rfl, rfl, rfl, rfl, rfl, rfl, trivial⟩, hS⟩
                            · clear hE hS a w; rintro a w ⟨q316, ds320, rfl, h321, hn322, hE, hS⟩
                              dsimp only at hq193
                              refine W.region ?_
                              refine WL.vS hS hE (runs_plain rfl) (Gives.inc hE rfl (by have := h0.small; omega)) rfl ?_; clear hE a; intro a hE
                              refine WL.vS hS hE (runs_plain rfl) (Gives.p hE rfl) rfl ?_; clear hE a; intro a hE
                              refine WL.nil ?_
                              subst hK211
                              exact ⟨rest197.length, Nat.lt_succ_self _, rest197, k195 + 1, q316, ds320, rfl, hd198, hq193, h321, hn322, hE.pick _ ⟨rfl, rfl, rfl, rfl, rfl, rfl, rfl, rfl, rfl, rfl, rfl, rfl, rfl, rfl, trivial⟩, hS⟩
                    · clear hE hS a w; rintro a w ⟨q204, ds208, rfl, h209, hn210, hE, hS⟩
                      dsimp only at hq174
                      refine W.region ?_
                      refine WL.vS hS hE (runs_plain rfl) (Gives.inc hE rfl (by have := h0.small; omega)) rfl ?_; clear hE a; intro a hE
                      refine WL.vS hS hE (runs_plain rfl) (Gives.p hE rfl) rfl ?_; clear hE a; intro a hE
                      refine WL.nil ?_
                      subst hK192
                      exact ⟨rest178.length, Nat.lt_succ_self _, rest178, k176 + 1, q204, ds208, rfl, hd179, hq174, h209, hn210, hE.pick _ ⟨rfl, rfl, rfl, rfl, rfl, rfl, rfl, rfl, rfl, rfl, rfl, trivial⟩, hS⟩
                · clear hE hS a w; rintro a w ⟨q185, ds189, rfl, h190, hn191, hE, hS⟩
                  dsimp only at hq158
                  refine W.region ?_
                  refine WL.vS hS hE (runs_plain rfl) (Gives.p hE rfl) rfl ?_; clear hE a; intro a hE
                  refine WL.vS hS hE (runs_plain rfl) (Gives.p hE rfl) rfl ?_; clear hE a; intro a hE
                  refine WL.nil ?_
                  subst hK172
                  exact ⟨n160, Nat.lt_succ_self _, n160, (w64 (q164 + 1)), q185, ds189, rfl, hq158, h190, hn191, hE.pick _ ⟨rfl, rfl, rfl, rfl, rfl, rfl, rfl, rfl, trivial⟩, hS⟩
              · replace hq158 := iteF hc173 hq158
                subst hK172
                refine W.exit rfl ?_
                exact ⟨q164, q165, ds169, Option.some.inj hq158, h170, hn171, hE.pick _ ⟨rfl, rfl, rfl, rfl, rfl, trivial⟩, hS⟩
            · clear hE hS a w; rintro a w ⟨q164, q165, ds169, rfl, h170, hn171, hE, hS⟩
              dsimp only at hq79
              refine W.region ?_
              refine WL.vS hS hE (runs_plain rfl) (Gives.inc hE rfl (by omega)) rfl ?_; clear hE a; intro a hE
              refine WL.vS hS hE (runs_plain rfl) (Gives.p hE rfl) rfl ?_; clear hE a; intro a hE
              refine WL.nil ?_
              subst hK98
              exact ⟨rest83, Nat.lt_succ_self _, rest83, k81 + 1, q165, ds169, s102, rfl, (by omega), (Sg.Le.trans hle89 hle103), hq79, h170, hn171, hE.pick _ ⟨rfl, rfl, rfl, rfl, rfl, trivial⟩, hS⟩
        · clear hE hS a w; rintro a w ⟨q91, ds95, s88, hle89, rfl, h96, hn97, hE, hS⟩
          dsimp only at hr
          replace h0 := Sl.mono (RL.mono RI.mono) hle89 h0
          replace h77 := NEv.mono RI.mono hle89 h77
          refine W.seq ?_
          refine W.region ?_
          refine WL.vS hS hE (runs_plain rfl) (Gives.p hE rfl) rfl ?_; clear hE a; intro a hE
          refine WL.vS hS hE (runs_plain rfl) (Gives.p hE rfl) rfl ?_; clear hE a; intro a hE
          refine WL.vS hS hE (runs_plain rfl) (Gives.p hE rfl) rfl ?_; clear hE a; intro a hE
          refine WL.nil ?_
          refine W.ret ?_
          have hF := hS.fixN RI.mono 0 rfl h96 hn97; clear hS; obtain ⟨s358, hle359, hS, h360⟩ := hF
          (try rw [← hn97] at hE)
          (try rw [← hn97] at hS)
          (try rw [← hn97] at h360)
          refine finG (fn := Try.f32) (rs := [.tmp 2, .tmp 3]) (vs := [_, _]) hE rfl ⟨rfl, rfl, trivial⟩ ?_
          obtain rfl := Option.some.inj hr
          exact ⟨(some ⟨b75, 0, none⟩), q91.length, s358, rfl, (Sg.Le.trans hle89 hle359), h360, hS⟩
set_option maxHeartbeats 8000000 in
theorem MendRoundslack_ok  {w : World} {s : Sg} {R : List HP} {x0 : MendRound} {a0_0 : Option Addr} {c0_0 : Nat} {a0_1 : Option Addr} {c0_1 : Nat} {x1 : MendLink} (hS : St w s (R)) (h0_0 : Sl 1 (RI .i64) s a0_0 c0_0 x0.Plan) (_h0_1 : Sl 4 RMendLink s a0_1 c0_1 x0.Links) {r : Int} (hr : MendRoundslack x0 x1 = some r) :
    Calls Try.prog 55 [.agg [.int .i64 x0.Period, .slice a0_0 x0.Plan.length c0_0, .slice a0_1 x0.Links.length c0_1].toArray, .agg (MendLink.cells x1).toArray].toArray w (fun e w => e = .returned (.int .i64 r) ∧ St w s (R)) := by
  refine enter Try.func55 rfl rfl rfl fun a hE => ?_
  rw [MendRoundslack] at hr
  refine W.seq ?_
  refine W.region ?_
  refine WL.box hE hS (runs_plain rfl) rfl rfl rfl ?_; clear hE hS a w; intro b51 a w hE hS
  refine WL.box hE hS (runs_plain rfl) rfl rfl rfl ?_; clear hE hS a w; intro b52 a w hE hS
  refine WL.vS hS hE (runs_plain rfl) (Gives.p hE rfl) rfl ?_; clear hE a; intro a hE
  refine WL.nil ?_
  refine W.seq ?_
  refine W.regionQ (C := fun w => St w s (pt b52 (.cells (MendLink.cells x1).toArray 36 (0, 0)) :: pt b51 (.cells #[.int .i64 x0.Period, .slice a0_0 x0.Plan.length c0_0, .slice a0_1 x0.Links.length c0_1] 25 (0, 0)) :: R)) mixed (by kernel_rfl) hS.drew ?_
  refine QL.v hE (runs_plain rfl) (Gives.fld hE rfl fl25_1) rfl ?_; clear hE a; intro a hE
  refine QL.v hE (runs_plain rfl) (Gives.loadB hE 1 rfl rfl rfl ty22) rfl ?_; clear hE a; intro a hE
  refine QL.v hE (runs_plain rfl) (Gives.fld hE rfl fl36_1) rfl ?_; clear hE a; intro a hE
  refine QL.v hE (runs_plain rfl) (Gives.loadB hE 0 rfl rfl rfl ty3) rfl ?_; clear hE a; intro a hE
  obtain ⟨x53, hx54, hr⟩ := bindS hr
  obtain ⟨hi55, hlt56, hy57⟩ := gx_some hx54
  obtain ⟨cs58, hl59, hR60, hat61⟩ := h0_0.at hy57
  subst hR60
  refine QL.v hE (runs_plain rfl) (Gives.idx hE (x1.To).toNat rfl rfl sl22 hi55 hlt56 (h0_0.aok hlt56)) rfl ?_; clear hE a; intro a hE
  refine QL.v hE (runs_plain rfl) (Gives.load1 hE rfl (fun w h => hat61 w _ h) ty3) rfl ?_; clear hE a; intro a hE
  refine QL.v hE (runs_plain rfl) (Gives.fld hE rfl fl25_1) rfl ?_; clear hE a; intro a hE
  refine QL.v hE (runs_plain rfl) (Gives.loadB hE 1 rfl rfl rfl ty22) rfl ?_; clear hE a; intro a hE
  refine QL.v hE (runs_plain rfl) (Gives.fld hE rfl fl36_0) rfl ?_; clear hE a; intro a hE
  refine QL.v hE (runs_plain rfl) (Gives.loadB hE 0 rfl rfl rfl ty3) rfl ?_; clear hE a; intro a hE
  obtain ⟨x62, hx63, hr⟩ := bindS hr
  obtain ⟨hi64, hlt65, hy66⟩ := gx_some hx63
  obtain ⟨cs67, hl68, hR69, hat70⟩ := h0_0.at hy66
  subst hR69
  refine QL.v hE (runs_plain rfl) (Gives.idx hE (x1.From).toNat rfl rfl sl22 hi64 hlt65 (h0_0.aok hlt65)) rfl ?_; clear hE a; intro a hE
  refine QL.v hE (runs_plain rfl) (Gives.load1 hE rfl (fun w h => hat70 w _ h) ty3) rfl ?_; clear hE a; intro a hE
  refine QL.v hE (runs_plain rfl) (Gives.p hE rfl) rfl ?_; clear hE a; intro a hE
  refine QL.v hE (runs_plain rfl) (Gives.fld hE rfl fl36_3) rfl ?_; clear hE a; intro a hE
  refine QL.v hE (runs_plain rfl) (Gives.loadB hE 0 rfl rfl rfl ty3) rfl ?_; clear hE a; intro a hE
  refine QL.v hE (runs_plain rfl) (Gives.fld hE rfl fl25_0) rfl ?_; clear hE a; intro a hE
  refine QL.v hE (runs_plain rfl) (Gives.loadB hE 1 rfl rfl rfl ty3) rfl ?_; clear hE a; intro a hE
  refine QL.v hE (runs_plain rfl) (Gives.p hE rfl) rfl ?_; clear hE a; intro a hE
  refine QL.v hE (runs_plain rfl) (Gives.p hE rfl) rfl ?_; clear hE a; intro a hE
  refine QL.v hE (runs_plain rfl) (Gives.fld hE rfl fl36_2) rfl ?_; clear hE a; intro a hE
  refine QL.v hE (runs_plain rfl) (Gives.loadB hE 0 rfl rfl rfl ty3) rfl ?_; clear hE a; intro a hE
  refine QL.v hE (runs_plain rfl) (Gives.p hE rfl) rfl ?_; clear hE a; intro a hE
  refine QL.v hE (runs_plain rfl) (Gives.p hE rfl) rfl ?_; clear hE a; intro a hE
  refine QL.nil ?_; clear hS w; intro w hS
  refine W.ret ?_
  refine finG (fn := Try.f55) (rs := [.tmp 4]) (vs := [_]) hE rfl ⟨rfl, trivial⟩ ?_
  obtain rfl := Option.some.inj hr
  replace hS := hS.tail
  replace hS := hS.tail
  exact ⟨rfl, hS⟩
set_option maxHeartbeats 8000000 in
theorem MendRoundring_ok {fu : Nat}  {w : World} {s : Sg} {R : List HP} {x0 : MendRound} {a0_0 : Option Addr} {c0_0 : Nat} {a0_1 : Option Addr} {c0_1 : Nat} (hS : St w s (R)) (_h0_0 : Sl 1 (RI .i64) s a0_0 c0_0 x0.Plan) (h0_1 : Sl 4 RMendLink s a0_1 c0_1 x0.Links) {r : Bool} (hr : MendRoundring fu x0 = some r) :
    Calls Try.prog 56 [.agg [.int .i64 x0.Period, .slice a0_0 x0.Plan.length c0_0, .slice a0_1 x0.Links.length c0_1].toArray].toArray w (fun e w => e = .returned (.bool r) ∧ St w s (R)) := by
  refine enter Try.func56 rfl rfl rfl fun a hE => ?_
  rw [MendRoundring] at hr
  refine W.seq ?_
  refine W.region ?_
  refine WL.box hE hS (runs_plain rfl) rfl rfl rfl ?_; clear hE hS a w; intro b51 a w hE hS
  refine WL.vS hS hE (runs_plain rfl) (Gives.p hE rfl) rfl ?_; clear hE a; intro a hE
  refine WL.nil ?_
  refine W.seq ?_
  refine W.region ?_
  refine WL.vS hS hE (runs_plain rfl) (Gives.fld hE rfl fl25_1) rfl ?_; clear hE a; intro a hE
  refine WL.vS hS hE (runs_plain rfl) (Gives.loadB hE 0 rfl rfl rfl ty22) rfl ?_; clear hE a; intro a hE
  refine WL.vS hS hE (runs_plain rfl) (Gives.len hE rfl sl22) rfl ?_; clear hE a; intro a hE
  obtain ⟨x52, hx53, hr⟩ := bindS hr
  refine WL.mkD (Rr := RI .i64) hE hS (runs_plain rfl) rfl rfl ap22 zr3 rfl hx53 rfl ?_; clear hE hS a w; intro b54 cs55 a w h56 hE hS
  refine WL.vS hS hE (runs_plain rfl) (Gives.p hE rfl) rfl ?_; clear hE a; intro a hE
  refine WL.nil ?_
  refine W.seq ?_
  refine W.seq ?_
  refine W.region ?_
  refine WL.vS hS hE (runs_plain rfl) (Gives.fld hE rfl fl25_1) rfl ?_; clear hE a; intro a hE
  refine WL.vS hS hE (runs_plain rfl) (Gives.loadB hE 1 rfl rfl rfl ty22) rfl ?_; clear hE a; intro a hE
  refine WL.vS hS hE (runs_plain rfl) (Gives.len hE rfl sl22) rfl ?_; clear hE a; intro a hE
  refine WL.vS hS hE (runs_plain rfl) (Gives.p hE rfl) rfl ?_; clear hE a; intro a hE
  refine WL.vS hS hE (runs_plain rfl) (Gives.p hE rfl) rfl ?_; clear hE a; intro a hE
  refine WL.nil ?_
  obtain ⟨q70, hq69, hr⟩ := bindS hr
  refine W.cut (fun a w => ∃ (q75 : Int), ∃ (q76 : List Int), ∃ (cs80 : List Value), (.next (q75, q76)) = q70 ∧ Ev 1 (RI .i64) s cs80 q76 ∧ q76.length = x52.length ∧ Rep a 54 [] ∧ St w s (vecC 3 1 (some ⟨b54, 0, none⟩) x52.length x52.length cs80 :: pt b51 (.cells #[.int .i64 x0.Period, .slice a0_0 x0.Plan.length c0_0, .slice a0_1 x0.Links.length c0_1] 25 (0, 0)) :: R)) ?_ ?_
  · refine W.block ?_
    refine W.loop (fun m a w => ∃ (n71 : Nat), ∃ (q75 : Int), ∃ (q76 : List Int), ∃ (cs80 : List Value), n71 = m ∧ MendRoundring.loop2 x0 n71 q75 q76 = some q70 ∧ Ev 1 (RI .i64) s cs80 q76 ∧ q76.length = x52.length ∧ Rep a 54 [(1, .pointer (some ⟨b51, 0, none⟩)), (3, .slice (some ⟨b54, 0, none⟩) x52.length x52.length), (14, .int .i64 (w64 (((x0.Plan).length : Int) + 1))), (15, .int .i64 q75)] ∧ St w s (vecC 3 1 (some ⟨b54, 0, none⟩) x52.length x52.length cs80 :: pt b51 (.cells #[.int .i64 x0.Period, .slice a0_0 x0.Plan.length c0_0, .slice a0_1 x0.Links.length c0_1] 25 (0, 0)) :: R)) (m := fu) ⟨fu, 0, x52, cs55, rfl, hq69, h56, (rfl), hE.pick _ ⟨rfl, rfl, rfl, rfl, trivial⟩, hS⟩ ?_
    clear hE hS a w hq69; rintro m72 a w ⟨n71, q75, q76, cs80, rfl, hq69, h79, hn81, hE, hS⟩
    refine W.gen fun K82 hK82 => ?_
    rcases n71 with _ | n71
    · rw [MendRoundring.loop2] at hq69; exact absurd hq69 (by simp)
    rw [MendRoundring.loop2] at hq69
    refine W.seq ?_
    refine W.region ?_
    refine WL.vS hS hE (runs_plain rfl) (Gives.p hE rfl) rfl ?_; clear hE a; intro a hE
    refine WL.nil ?_
    refine W.seq ?_
    refine W.cond hE rfl (fun hc83 => ?_) (fun hc83 => ?_)
    · replace hq69 := iteT hc83 hq69
      refine W.skip ?_
      refine W.seq ?_
      refine W.block ?_
      refine W.seq ?_
      refine W.region ?_
      refine WL.vS hS hE (runs_plain rfl) (Gives.p hE rfl) rfl ?_; clear hE a; intro a hE
      refine WL.nil ?_
      refine W.seq ?_
      refine W.seq ?_
      refine W.region ?_
      refine WL.vS hS hE (runs_plain rfl) (Gives.fld hE rfl fl25_2) rfl ?_; clear hE a; intro a hE
      refine WL.vS hS hE (runs_plain rfl) (Gives.loadB hE 1 rfl rfl rfl ty23) rfl ?_; clear hE a; intro a hE
      refine WL.vS hS hE (runs_plain rfl) (Gives.len hE rfl sl23) rfl ?_; clear hE a; intro a hE
      refine WL.vS hS hE (runs_plain rfl) (Gives.p hE rfl) rfl ?_; clear hE a; intro a hE
      refine WL.nil ?_
      obtain ⟨q85, hq84, hq69⟩ := bindS hq69
      refine W.cut (fun a w => ∃ (q95 : Bool), ∃ (q96 : List Int), ∃ (cs100 : List Value), (q95, q96) = q85 ∧ Ev 1 (RI .i64) s cs100 q96 ∧ q96.length = x52.length ∧ Rep a 54 [(1, .pointer (some ⟨b51, 0, none⟩)), (3, .slice (some ⟨b54, 0, none⟩) x52.length x52.length), (4, .bool q95), (14, .int .i64 (w64 (((x0.Plan).length : Int) + 1))), (15, .int .i64 q75)] ∧ St w s (vecC 3 1 (some ⟨b54, 0, none⟩) x52.length x52.length cs100 :: pt b51 (.cells #[.int .i64 x0.Period, .slice a0_0 x0.Plan.length c0_0, .slice a0_1 x0.Links.length c0_1] 25 (0, 0)) :: R)) ?_ ?_
      · refine W.block ?_
        refine W.loop (fun m a w => ∃ (rest88 : List MendLink) (k86 : Nat), ∃ (q95 : Bool), ∃ (q96 : List Int), ∃ (cs100 : List Value), rest88.length = m ∧ x0.Links.drop k86 = rest88 ∧ MendRoundring.loop3 rest88 q95 q96 = some q85 ∧ Ev 1 (RI .i64) s cs100 q96 ∧ q96.length = x52.length ∧ Rep a 54 [(1, .pointer (some ⟨b51, 0, none⟩)), (3, .slice (some ⟨b54, 0, none⟩) x52.length x52.length), (4, .bool q95), (14, .int .i64 (w64 (((x0.Plan).length : Int) + 1))), (15, .int .i64 q75), (18, .slice a0_1 x0.Links.length c0_1), (19, .int .i64 ((x0.Links).length : Int)), (20, .int .i64 ((k86 : Nat) : Int))] ∧ St w s (vecC 3 1 (some ⟨b54, 0, none⟩) x52.length x52.length cs100 :: pt b51 (.cells #[.int .i64 x0.Period, .slice a0_0 x0.Plan.length c0_0, .slice a0_1 x0.Links.length c0_1] 25 (0, 0)) :: R)) (m := x0.Links.length) ⟨x0.Links, 0, false, q76, cs80, rfl, rfl, hq84, h79, hn81, hE.pick _ ⟨rfl, rfl, rfl, rfl, rfl, rfl, rfl, rfl, trivial⟩, hS⟩ ?_
        clear hE hS a w hq84; rintro m92 a w ⟨rest88, k86, q95, q96, cs100, rfl, hd89, hq84, h99, hn101, hE, hS⟩
        refine W.gen fun K102 hK102 => ?_
        rcases rest88 with _ | ⟨x87, rest88⟩
        · have hlt90 := drop_nil hd89
          refine W.seq ?_
          refine W.region ?_
          refine WL.vS hS hE (runs_plain rfl) (Gives.p hE rfl) rfl ?_; clear hE a; intro a hE
          refine WL.nil ?_
          refine W.seq ?_
          refine W.condF hE rfl (decide_eq_false (by omega)) ?_
          subst hK102
          refine W.exit rfl ?_
          exact ⟨q95, q96, cs100, Option.some.inj hq84, h99, hn101, hE.pick _ ⟨rfl, rfl, rfl, rfl, rfl, trivial⟩, hS⟩
        · obtain ⟨hlt90, hx91, hd89⟩ := drop_cons hd89
          rw [MendRoundring.loop3] at hq84
          refine W.seq ?_
          refine W.region ?_
          refine WL.vS hS hE (runs_plain rfl) (Gives.p hE rfl) rfl ?_; clear hE a; intro a hE
          refine WL.nil ?_
          refine W.seq ?_
          refine W.condT hE rfl (decide_eq_true (by omega)) ?_
          refine W.skip ?_
          refine W.seq ?_
          refine W.block ?_
          refine W.seq ?_
          refine W.region ?_
          obtain ⟨cs103, hl104, hR105, hat106⟩ := h0_1.at hx91
          subst hR105
          refine WL.vS hS hE (runs_plain rfl) (Gives.idx hE k86 rfl rfl sl23 rfl hlt90 (h0_1.aok hlt90)) rfl ?_; clear hE a; intro a hE
          refine WL.vS hS hE (runs_plain rfl) (Gives.loadA hE rfl (fun w h => hat106 w _ h) ty36) rfl ?_; clear hE a; intro a hE
          refine WL.alloc hE hS (runs_plain rfl) zr36 rfl ?_; clear hE hS a w; intro b107 a w hE hS
          refine WL.storeI hE hS 0 rfl (MendLink.cells x87) (runs_plain rfl) rfl rfl rfl ty36 rfl rfl rfl rfl ?_; clear hE hS a w; intro a w hE hS
          refine WL.nil ?_
          refine W.seq ?_
          obtain ⟨q109, hq108, hq84⟩ := bindS hq84
          refine W.cut (fun a w => ∃ (q112 : Bool), q112 = q109 ∧ Rep a 54 [(1, .pointer (some ⟨b51, 0, none⟩)), (3, .slice (some ⟨b54, 0, none⟩) x52.length x52.length), (4, .bool q95), (6, .pointer (some ⟨b107, 0, none⟩)), (14, .int .i64 (w64 (((x0.Plan).length : Int) + 1))), (15, .int .i64 q75), (18, .slice a0_1 x0.Links.length c0_1), (19, .int .i64 ((x0.Links).length : Int)), (20, .int .i64 ((k86 : Nat) : Int)), (39, .bool q112)] ∧ St w s (pt b107 (.cells (MendLink.cells x87).toArray 36 (0, 0)) :: vecC 3 1 (some ⟨b54, 0, none⟩) x52.length x52.length cs100 :: pt b51 (.cells #[.int .i64 x0.Period, .slice a0_0 x0.Plan.length c0_0, .slice a0_1 x0.Links.length c0_1] 25 (0, 0)) :: R)) ?_ ?_
          · refine W.gen fun K113 hK113 => ?_
            refine W.regionQ (C := fun w => St w s (pt b107 (.cells (MendLink.cells x87).toArray 36 (0, 0)) :: vecC 3 1 (some ⟨b54, 0, none⟩) x52.length x52.length cs100 :: pt b51 (.cells #[.int .i64 x0.Period, .slice a0_0 x0.Plan.length c0_0, .slice a0_1 x0.Links.length c0_1] 25 (0, 0)) :: R)) mixed (by kernel_rfl) hS.drew ?_
            refine QL.v hE (runs_plain rfl) (Gives.fld hE rfl fl36_3) rfl ?_; clear hE a; intro a hE
            refine QL.v hE (runs_plain rfl) (Gives.loadB hE 0 rfl rfl rfl ty3) rfl ?_; clear hE a; intro a hE
            refine QL.v hE (runs_plain rfl) (Gives.p hE rfl) rfl ?_; clear hE a; intro a hE
            refine QL.v hE (runs_plain rfl) (Gives.p hE rfl) rfl ?_; clear hE a; intro a hE
            rcases Bool.eq_false_or_eq_true (x87.Back == 0) with hg114 | hg114
            · replace hq108 := iteT hg114 hq108
              refine QL.v hE (runs_if hE rfl rfl rfl hg114) (Gives.p hE rfl) rfl ?_; clear hE a; intro a hE
              refine QL.v hE (runs_if hE rfl rfl rfl hg114) (Gives.fld hE rfl fl36_1) rfl ?_; clear hE a; intro a hE
              refine QL.v hE (runs_if hE rfl rfl rfl hg114) (Gives.loadB hE 0 rfl rfl rfl ty3) rfl ?_; clear hE a; intro a hE
              obtain ⟨x115, hx116, hq108⟩ := bindS hq108
              obtain ⟨hi117, hlt118, hy119⟩ := gx_some hx116
              obtain ⟨vs120, hl121, hR122, hd123, hget124⟩ := h99.at hy119
              subst hR122
              refine QL.v hE (runs_if hE rfl rfl rfl hg114) (Gives.idx hE ((x87.To).toNat) rfl rfl sl22 hi117 (by have := hn101; omega) (hS.vecAok 1 rfl (by have := hn101; omega : (x87.To).toNat < x52.length))) rfl ?_; clear hE a; intro a hE
              refine QL.v hE (runs_if hE rfl rfl rfl hg114) (Gives.load1 hE rfl (fun w h => St.vecSees h 1 rfl ((x87.To).toNat * 1) _ hget124) ty3) rfl ?_; clear hE a; intro a hE
              refine QL.v hE (runs_if hE rfl rfl rfl hg114) (Gives.p hE rfl) rfl ?_; clear hE a; intro a hE
              refine QL.v hE (runs_if hE rfl rfl rfl hg114) (Gives.fld hE rfl fl36_0) rfl ?_; clear hE a; intro a hE
              refine QL.v hE (runs_if hE rfl rfl rfl hg114) (Gives.loadB hE 0 rfl rfl rfl ty3) rfl ?_; clear hE a; intro a hE
              obtain ⟨x125, hx126, hq108⟩ := bindS hq108
              obtain ⟨hi127, hlt128, hy129⟩ := gx_some hx126
              obtain ⟨vs130, hl131, hR132, hd133, hget134⟩ := h99.at hy129
              subst hR132
              refine QL.v hE (runs_if hE rfl rfl rfl hg114) (Gives.idx hE ((x87.From).toNat) rfl rfl sl22 hi127 (by have := hn101; omega) (hS.vecAok 1 rfl (by have := hn101; omega : (x87.From).toNat < x52.length))) rfl ?_; clear hE a; intro a hE
              refine QL.v hE (runs_if hE rfl rfl rfl hg114) (Gives.load1 hE rfl (fun w h => St.vecSees h 1 rfl ((x87.From).toNat * 1) _ hget134) ty3) rfl ?_; clear hE a; intro a hE
              refine QL.v hE (runs_if hE rfl rfl rfl hg114) (Gives.p hE rfl) rfl ?_; clear hE a; intro a hE
              refine QL.v hE (runs_plain rfl) (Gives.pickT hE rfl hg114 rfl) rfl ?_; clear hE a; intro a hE
              refine QL.nil ?_; clear hS w; intro w hS
              subst hK113
              exact ⟨decide (x115 ≤ x125), Option.some.inj hq108, hE.pick _ ⟨rfl, rfl, rfl, rfl, rfl, rfl, rfl, rfl, rfl, rfl, trivial⟩, hS⟩
            · replace hq108 := iteF hg114 hq108
              refine QL.no hE (runs_not hE rfl rfl rfl (by rw [hg114]; decide)) rfl ?_; clear hE a; intro a hE
              refine QL.no hE (runs_not hE rfl rfl rfl (by rw [hg114]; decide)) rfl ?_; clear hE a; intro a hE
              refine QL.no hE (runs_not hE rfl rfl rfl (by rw [hg114]; decide)) rfl ?_; clear hE a; intro a hE
              refine QL.no hE (runs_not hE rfl rfl rfl (by rw [hg114]; decide)) rfl ?_; clear hE a; intro a hE
              refine QL.no hE (runs_not hE rfl rfl rfl (by rw [hg114]; decide)) rfl ?_; clear hE a; intro a hE
              refine QL.no hE (runs_not hE rfl rfl rfl (by rw [hg114]; decide)) rfl ?_; clear hE a; intro a hE
              refine QL.no hE (runs_not hE rfl rfl rfl (by rw [hg114]; decide)) rfl ?_; clear hE a; intro a hE
              refine QL.no hE (runs_not hE rfl rfl rfl (by rw [hg114]; decide)) rfl ?_; clear hE a; intro a hE
              refine QL.no hE (runs_not hE rfl rfl rfl (by rw [hg114]; decide)) rfl ?_; clear hE a; intro a hE
              refine QL.no hE (runs_not hE rfl rfl rfl (by rw [hg114]; decide)) rfl ?_; clear hE a; intro a hE
              refine QL.no hE (runs_not hE rfl rfl rfl (by rw [hg114]; decide)) rfl ?_; clear hE a; intro a hE
              refine QL.v hE (runs_plain rfl) (Gives.pickF hE rfl hg114 rfl) rfl ?_; clear hE a; intro a hE
              refine QL.nil ?_; clear hS w; intro w hS
              subst hK113
              exact ⟨false, Option.some.inj hq108, hE.pick _ ⟨rfl, rfl, rfl, rfl, rfl, rfl, rfl, rfl, rfl, rfl, trivial⟩, hS⟩
          · clear hE hS a w; rintro a w ⟨q112, rfl, hE, hS⟩
            obtain ⟨q136, hq135, hq84⟩ := bindS hq84
            refine W.cut (fun a w => ∃ (q139 : Bool), ∃ (q140 : List Int), ∃ (cs144 : List Value), (q139, q140) = q136 ∧ Ev 1 (RI .i64) s cs144 q140 ∧ q140.length = x52.length ∧ Rep a 54 [(1, .pointer (some ⟨b51, 0, none⟩)), (3, .slice (some ⟨b54, 0, none⟩) x52.length x52.length), (4, .bool q139), (14, .int .i64 (w64 (((x0.Plan).length : Int) + 1))), (15, .int .i64 q75), (18, .slice a0_1 x0.Links.length c0_1), (19, .int .i64 ((x0.Links).length : Int)), (20, .int .i64 ((k86 : Nat) : Int))] ∧ St w s (pt b107 (.cells (MendLink.cells x87).toArray 36 (0, 0)) :: vecC 3 1 (some ⟨b54, 0, none⟩) x52.length x52.length cs144 :: pt b51 (.cells #[.int .i64 x0.Period, .slice a0_0 x0.Plan.length c0_0, .slice a0_1 x0.Links.length c0_1] 25 (0, 0)) :: R)) ?_ ?_
            · refine W.gen fun K146 hK146 => ?_
              refine W.cond hE rfl (fun hc147 => ?_) (fun hc147 => ?_)
              · replace hq135 := iteT hc147 hq135
                refine W.gen fun K148 hK148 => ?_
                refine W.regionE (sel (fun w => St w s (pt b107 (.cells (MendLink.cells x87).toArray 36 (0, 0)) :: vecC 3 1 (some ⟨b54, 0, none⟩) x52.length x52.length cs100 :: pt b51 (.cells #[.int .i64 x0.Period, .slice a0_0 x0.Plan.length c0_0, .slice a0_1 x0.Links.length c0_1] 25 (0, 0)) :: R)) (fun w => St w s (pt b107 (.cells (MendLink.cells x87).toArray 36 (0, 0)) :: pt b51 (.cells #[.int .i64 x0.Period, .slice a0_0 x0.Plan.length c0_0, .slice a0_1 x0.Links.length c0_1] 25 (0, 0)) :: R))) (fun b i => cond b ([0, 1, 2, 3, 4, 5, 6, 7, 8, 9, 11].contains i) ([0, 1, 2, 3, 4, 5, 6, 7, 8, 9, 10, 11].contains i)) mixed ?_
                replace hS := hS.drew
                refine Rg.takeP (i := 0) hE rfl (by kernel_rfl) (runs_plain rfl) (Gives.p hE rfl) rfl (tw_sel (fun _ => hS) (fun _ => (hS.dropAt 1))) ?_; clear hE a; intro a hE
                refine Rg.takeP (i := 1) hE rfl (by kernel_rfl) (runs_plain rfl) (Gives.fld hE rfl fl36_1) rfl (tw_sel (fun _ => hS) (fun _ => (hS.dropAt 1))) ?_; clear hE a; intro a hE
                have hT := tw_sel (A := fun w => St w s (pt b107 (.cells (MendLink.cells x87).toArray 36 (0, 0)) :: vecC 3 1 (some ⟨b54, 0, none⟩) x52.length x52.length cs100 :: pt b51 (.cells #[.int .i64 x0.Period, .slice a0_0 x0.Plan.length c0_0, .slice a0_1 x0.Links.length c0_1] 25 (0, 0)) :: R)) (B := fun w => St w s (pt b107 (.cells (MendLink.cells x87).toArray 36 (0, 0)) :: pt b51 (.cells #[.int .i64 x0.Period, .slice a0_0 x0.Plan.length c0_0, .slice a0_1 x0.Links.length c0_1] 25 (0, 0)) :: R)) (w := _) (x := true) (y := true) (fun _ => hS) (fun _ => (hS.dropAt 1))
                have hF := hS; replace hS := hS
                refine Rg.take (i := 2) true rfl hE rfl (by kernel_rfl) (runs_plain rfl) (Gives.loadB hE 0 rfl rfl rfl ty3) rfl hT ?_; clear hE a; intro a hE
                replace hS := hF; clear hF hT
                refine Rg.takeP (i := 3) hE rfl (by kernel_rfl) (runs_plain rfl) (Gives.p hE rfl) rfl (tw_sel (fun _ => hS) (fun _ => (hS.dropAt 1))) ?_; clear hE a; intro a hE
                refine Rg.takeP (i := 4) hE rfl (by kernel_rfl) (runs_plain rfl) (Gives.fld hE rfl fl36_0) rfl (tw_sel (fun _ => hS) (fun _ => (hS.dropAt 1))) ?_; clear hE a; intro a hE
                have hT := tw_sel (A := fun w => St w s (pt b107 (.cells (MendLink.cells x87).toArray 36 (0, 0)) :: vecC 3 1 (some ⟨b54, 0, none⟩) x52.length x52.length cs100 :: pt b51 (.cells #[.int .i64 x0.Period, .slice a0_0 x0.Plan.length c0_0, .slice a0_1 x0.Links.length c0_1] 25 (0, 0)) :: R)) (B := fun w => St w s (pt b107 (.cells (MendLink.cells x87).toArray 36 (0, 0)) :: pt b51 (.cells #[.int .i64 x0.Period, .slice a0_0 x0.Plan.length c0_0, .slice a0_1 x0.Links.length c0_1] 25 (0, 0)) :: R)) (w := _) (x := true) (y := true) (fun _ => hS) (fun _ => (hS.dropAt 1))
                have hF := hS; replace hS := hS
                refine Rg.take (i := 5) true rfl hE rfl (by kernel_rfl) (runs_plain rfl) (Gives.loadB hE 0 rfl rfl rfl ty3) rfl hT ?_; clear hE a; intro a hE
                replace hS := hF; clear hF hT
                obtain ⟨x149, hx150, hq135⟩ := bindS hq135
                obtain ⟨hi151, hlt152, hy153⟩ := gx_some hx150
                obtain ⟨vs154, hl155, hR156, hd157, hget158⟩ := h99.at hy153
                subst hR156
                refine Rg.takeP (i := 6) hE rfl (by kernel_rfl) (runs_plain rfl) (Gives.idx hE ((x87.From).toNat) rfl rfl sl22 hi151 (by have := hn101; omega) (hS.vecAok 1 rfl (by have := hn101; omega : (x87.From).toNat < x52.length))) rfl (tw_sel (fun _ => hS) (fun _ => (hS.dropAt 1))) ?_; clear hE a; intro a hE
                have hT := tw_sel (A := fun w => St w s (pt b107 (.cells (MendLink.cells x87).toArray 36 (0, 0)) :: vecC 3 1 (some ⟨b54, 0, none⟩) x52.length x52.length cs100 :: pt b51 (.cells #[.int .i64 x0.Period, .slice a0_0 x0.Plan.length c0_0, .slice a0_1 x0.Links.length c0_1] 25 (0, 0)) :: R)) (B := fun w => St w s (pt b107 (.cells (MendLink.cells x87).toArray 36 (0, 0)) :: pt b51 (.cells #[.int .i64 x0.Period, .slice a0_0 x0.Plan.length c0_0, .slice a0_1 x0.Links.length c0_1] 25 (0, 0)) :: R)) (w := _) (x := true) (y := true) (fun _ => hS) (fun _ => (hS.dropAt 1))
                have hF := hS; replace hS := hS
                refine Rg.take (i := 7) true rfl hE rfl (by kernel_rfl) (runs_plain rfl) (Gives.load1 hE rfl (fun w h => St.vecSees h 1 rfl ((x87.From).toNat * 1) _ hget158) ty3) rfl hT ?_; clear hE a; intro a hE
                replace hS := hF; clear hF hT
                refine Rg.takeP (i := 8) hE rfl (by kernel_rfl) (runs_plain rfl) (Gives.p hE rfl) rfl (tw_sel (fun _ => hS) (fun _ => (hS.dropAt 1))) ?_; clear hE a; intro a hE
                obtain ⟨_, hx160, hq135⟩ := bindS hq135
                obtain ⟨h161, h162⟩ := ix_some hx160
                refine Rg.takeP (i := 9) hE rfl (by kernel_rfl) (runs_plain rfl) (Gives.idx hE ((x87.To).toNat) rfl rfl sl22 h161 (by have := hn101; omega) (hS.vecAok 1 rfl (by have := hn101; omega : (x87.To).toNat < x52.length))) rfl (tw_sel (fun _ => hS) (fun _ => (hS.dropAt 1))) ?_; clear hE a; intro a hE
                refine Rg.one (i := 10) false true rfl (by kernel_rfl) (by kernel_rfl) (by kernel_rfl) ?_
                obtain ⟨x164, hx165, hq135⟩ := bindS hq135
                refine WL.setD hE hS 1 rfl (runs_plain rfl) rfl rfl (vs := [.int .i64 (w64 (x149 + 1))]) rfl ty3 rfl rfl rfl h99 hn101 (sx_some hx165).1 hx165 rfl rfl ?_; clear hE hS a w; intro cs166 a w h167 hn168 hE hS
                refine WL.nil ?_
                refine ⟨⟨fun h => absurd h (by decide), fun _ => (hS.dropAt 1)⟩, ?_⟩
                refine Rg.takeP (i := 11) hE rfl (by kernel_rfl) (runs_plain rfl) (Gives.p hE rfl) rfl (tw_sel (fun h => absurd h (by decide)) (fun _ => (hS.dropAt 1))) ?_; clear hE a; intro a hE
                refine Rg.done (by kernel_rfl) ?_
                subst hK148
                subst hK146
                exact ⟨true, x164, cs166, Option.some.inj hq135, h167, hn168, hE.pick _ ⟨rfl, rfl, rfl, rfl, rfl, rfl, rfl, rfl, trivial⟩, hS⟩
              · replace hq135 := iteF hc147 hq135
                refine W.skip ?_
                subst hK146
                exact ⟨q95, q96, cs100, Option.some.inj hq135, h99, hn101, hE.pick _ ⟨rfl, rfl, rfl, rfl, rfl, rfl, rfl, rfl, trivial⟩, hS⟩
            · clear hE hS a w; rintro a w ⟨q139, q140, cs144, rfl, h143, hn145, hE, hS⟩
              dsimp only at hq84
              refine W.region ?_
              refine WL.vS hS hE (runs_plain rfl) (Gives.inc hE rfl (by have := h0_1.small; omega)) rfl ?_; clear hE a; intro a hE
              refine WL.vS hS hE (runs_plain rfl) (Gives.p hE rfl) rfl ?_; clear hE a; intro a hE
              refine WL.nil ?_
              replace hS := hS.tail
              subst hK102
              exact ⟨rest88.length, Nat.lt_succ_self _, rest88, k86 + 1, q139, q140, cs144, rfl, hd89, hq84, h143, hn145, hE.pick _ ⟨rfl, rfl, rfl, rfl, rfl, rfl, rfl, rfl, trivial⟩, hS⟩
      · clear hE hS a w; rintro a w ⟨q95, q96, cs100, rfl, h99, hn101, hE, hS⟩
        dsimp only at hq69
        refine W.seq ?_
        refine W.region ?_
        refine WL.vS hS hE (runs_plain rfl) (Gives.p hE rfl) rfl ?_; clear hE a; intro a hE
        refine WL.vS hS hE (runs_plain rfl) (Gives.p hE rfl) rfl ?_; clear hE a; intro a hE
        refine WL.nil ?_
        refine W.cond hE rfl (fun hc169 => ?_) (fun hc169 => ?_)
        · replace hq69 := iteT hc169 hq69
          refine W.seq ?_
          refine W.region ?_
          refine WL.vS hS hE (runs_plain rfl) (Gives.p hE rfl) rfl ?_; clear hE a; intro a hE
          refine WL.nil ?_
          refine W.ret ?_
          subst hK82
          rw [← Option.some.inj hq69] at hr
          dsimp only at hr
          refine finG (fn := Try.f56) (rs := [.tmp 2]) (vs := [_]) hE rfl ⟨rfl, trivial⟩ ?_
          obtain rfl := Option.some.inj hr
          replace hS := hS.tail
          replace hS := hS.tail
          exact ⟨rfl, hS⟩
        · replace hq69 := iteF hc169 hq69
          refine W.skip ?_
          refine W.region ?_
          refine WL.vS hS hE (runs_plain rfl) (Gives.p hE rfl) rfl ?_; clear hE a; intro a hE
          refine WL.vS hS hE (runs_plain rfl) (Gives.p hE rfl) rfl ?_; clear hE a; intro a hE
          refine WL.nil ?_
          subst hK82
          exact ⟨n71, Nat.lt_succ_self _, n71, (w64 (q75 + 1)), q96, cs100, rfl, hq69, h99, hn101, hE.pick _ ⟨rfl, rfl, rfl, rfl, trivial⟩, hS⟩
    · replace hq69 := iteF hc83 hq69
      subst hK82
      refine W.exit rfl ?_
      exact ⟨q75, q76, cs80, Option.some.inj hq69, h79, hn81, hE.pick _ trivial, hS⟩
  · clear hE hS a w; rintro a w ⟨q75, q76, cs80, rfl, h79, hn81, hE, hS⟩
    dsimp only at hr
    refine W.seq ?_
    refine W.region ?_
    refine WL.vS hS hE (runs_plain rfl) (Gives.p hE rfl) rfl ?_; clear hE a; intro a hE
    refine WL.nil ?_
    refine W.ret ?_
    refine finG (fn := Try.f56) (rs := [.tmp 2]) (vs := [_]) hE rfl ⟨rfl, trivial⟩ ?_
    obtain rfl := Option.some.inj hr
    replace hS := hS.tail
    replace hS := hS.tail
    exact ⟨rfl, hS⟩
set_option maxHeartbeats 8000000 in
theorem MendCheckRound_ok {fu : Nat}  {w : World} {s : Sg} {R : List HP} {x0 : MendRound} {a0_0 : Option Addr} {c0_0 : Nat} {a0_1 : Option Addr} {c0_1 : Nat} (hS : St w s (R)) (h0_0 : Sl 1 (RI .i64) s a0_0 c0_0 x0.Plan) (h0_1 : Sl 4 RMendLink s a0_1 c0_1 x0.Links) {r : Int} (hr : MendCheckRound fu x0 = some r) :
    Calls Try.prog 16 [.agg [.int .i64 x0.Period, .slice a0_0 x0.Plan.length c0_0, .slice a0_1 x0.Links.length c0_1].toArray].toArray w (fun e w => e = .returned (.int .i64 r) ∧ St w s (R)) := by
  refine enter Try.func16 rfl rfl rfl fun a hE => ?_
  rw [MendCheckRound] at hr
  refine W.seq ?_
  refine W.region ?_
  refine WL.box hE hS (runs_plain rfl) rfl rfl rfl ?_; clear hE hS a w; intro b51 a w hE hS
  refine WL.vS hS hE (runs_plain rfl) (Gives.p hE rfl) rfl ?_; clear hE a; intro a hE
  refine WL.nil ?_
  refine W.seq ?_
  refine W.block ?_
  refine W.seq ?_
  refine W.region ?_
  refine WL.vS hS hE (runs_plain rfl) (Gives.fld hE rfl fl25_0) rfl ?_; clear hE a; intro a hE
  refine WL.vS hS hE (runs_plain rfl) (Gives.loadB hE 0 rfl rfl rfl ty3) rfl ?_; clear hE a; intro a hE
  refine WL.fnq hE (Mendwithin_ok hS  rfl (r := Mendwithin x0.Period 1 3600)) (runs_plain rfl) bd54 rfl rfl rfl ?_
  clear hE hS; rintro e w ⟨rfl, hS⟩; refine ⟨_, rfl, ?_⟩; clear a; intro a hE
  refine WL.vS hS hE (runs_plain rfl) (Gives.p hE rfl) rfl ?_; clear hE a; intro a hE
  refine WL.vS hS hE (runs_plain rfl) (Gives.p hE rfl) rfl ?_; clear hE a; intro a hE
  refine WL.nil ?_
  refine W.cond hE rfl (fun hc52 => ?_) (fun hc52 => ?_)
  · replace hr := iteT hc52 hr
    refine W.seq ?_
    refine W.region ?_
    refine WL.vS hS hE (runs_plain rfl) (Gives.p hE rfl) rfl ?_; clear hE a; intro a hE
    refine WL.nil ?_
    refine W.ret ?_
    refine finG (fn := Try.f16) (rs := [.tmp 2]) (vs := [_]) hE rfl ⟨rfl, trivial⟩ ?_
    obtain rfl := Option.some.inj hr
    replace hS := hS.tail
    exact ⟨rfl, hS⟩
  · replace hr := iteF hc52 hr
    refine W.seq ?_
    obtain ⟨q54, hq53, hr⟩ := bndS hr
    refine W.cut (fun a w => ∃ (q57 : Bool), q57 = q54 ∧ Rep a 83 [(1, .pointer (some ⟨b51, 0, none⟩)), (12, .bool q57)] ∧ St w s (pt b51 (.cells #[.int .i64 x0.Period, .slice a0_0 x0.Plan.length c0_0, .slice a0_1 x0.Links.length c0_1] 25 (0, 0)) :: R)) ?_ ?_
    · refine W.gen fun K58 hK58 => ?_
      refine W.region ?_
      refine WL.vS hS hE (runs_plain rfl) (Gives.fld hE rfl fl25_1) rfl ?_; clear hE a; intro a hE
      refine WL.vS hS hE (runs_plain rfl) (Gives.loadB hE 0 rfl rfl rfl ty22) rfl ?_; clear hE a; intro a hE
      refine WL.vS hS hE (runs_plain rfl) (Gives.len hE rfl sl22) rfl ?_; clear hE a; intro a hE
      refine WL.fnq hE (Mendwithin_ok hS  rfl (r := Mendwithin ((x0.Plan).length : Int) 1 8)) (runs_plain rfl) bd54 rfl rfl rfl ?_
      clear hE hS; rintro e w ⟨rfl, hS⟩; refine ⟨_, rfl, ?_⟩; clear a; intro a hE
      refine WL.vS hS hE (runs_plain rfl) (Gives.p hE rfl) rfl ?_; clear hE a; intro a hE
      refine WL.vS hS hE (runs_plain rfl) (Gives.p hE rfl) rfl ?_; clear hE a; intro a hE
      rcases Bool.eq_false_or_eq_true (!(Mendwithin ((x0.Plan).length : Int) 1 8)) with hg59 | hg59
      · replace hq53 := iteT hg59 hq53
        refine WL.no hE (runs_not hE rfl rfl rfl (by rw [hg59]; decide)) rfl ?_; clear hE a; intro a hE
        refine WL.no hE (runs_not hE rfl rfl rfl (by rw [hg59]; decide)) rfl ?_; clear hE a; intro a hE
        refine WL.no hE (runs_not hE rfl rfl rfl (by rw [hg59]; decide)) rfl ?_; clear hE a; intro a hE
        refine WL.no hE (runs_not hE rfl rfl rfl (by rw [hg59]; decide)) rfl ?_; clear hE a; intro a hE
        refine WL.vS hS hE (runs_plain rfl) (Gives.pickT hE rfl hg59 rfl) rfl ?_; clear hE a; intro a hE
        refine WL.vS hS hE (runs_plain rfl) (Gives.p hE rfl) rfl ?_; clear hE a; intro a hE
        refine WL.nil ?_
        subst hK58
        exact ⟨true, hq53, hE.pick _ ⟨rfl, rfl, trivial⟩, hS⟩
      · replace hq53 := iteF hg59 hq53
        refine WL.vS hS hE (runs_if hE rfl rfl rfl hg59) (Gives.fld hE rfl fl25_2) rfl ?_; clear hE a; intro a hE
        refine WL.vS hS hE (runs_if hE rfl rfl rfl hg59) (Gives.loadB hE 0 rfl rfl rfl ty23) rfl ?_; clear hE a; intro a hE
        refine WL.vS hS hE (runs_if hE rfl rfl rfl hg59) (Gives.len hE rfl sl23) rfl ?_; clear hE a; intro a hE
        refine WL.vS hS hE (runs_if hE rfl rfl rfl hg59) (Gives.p hE rfl) rfl ?_; clear hE a; intro a hE
        refine WL.vS hS hE (runs_plain rfl) (Gives.pickF hE rfl hg59 rfl) rfl ?_; clear hE a; intro a hE
        refine WL.vS hS hE (runs_plain rfl) (Gives.p hE rfl) rfl ?_; clear hE a; intro a hE
        refine WL.nil ?_
        subst hK58
        exact ⟨decide (((x0.Links).length : Int) > 24), hq53, hE.pick _ ⟨rfl, rfl, trivial⟩, hS⟩
    · clear hE hS a w; rintro a w ⟨q57, rfl, hE, hS⟩
      refine W.cond hE rfl (fun hc60 => ?_) (fun hc60 => ?_)
      · replace hr := iteT hc60 hr
        refine W.seq ?_
        refine W.region ?_
        refine WL.vS hS hE (runs_plain rfl) (Gives.p hE rfl) rfl ?_; clear hE a; intro a hE
        refine WL.nil ?_
        refine W.ret ?_
        refine finG (fn := Try.f16) (rs := [.tmp 2]) (vs := [_]) hE rfl ⟨rfl, trivial⟩ ?_
        obtain rfl := Option.some.inj hr
        replace hS := hS.tail
        exact ⟨rfl, hS⟩
      · replace hr := iteF hc60 hr
        refine W.skip ?_
        refine W.seq ?_
        refine W.seq ?_
        refine W.region ?_
        refine WL.vS hS hE (runs_plain rfl) (Gives.fld hE rfl fl25_1) rfl ?_; clear hE a; intro a hE
        refine WL.vS hS hE (runs_plain rfl) (Gives.loadB hE 0 rfl rfl rfl ty22) rfl ?_; clear hE a; intro a hE
        refine WL.vS hS hE (runs_plain rfl) (Gives.len hE rfl sl22) rfl ?_; clear hE a; intro a hE
        refine WL.vS hS hE (runs_plain rfl) (Gives.p hE rfl) rfl ?_; clear hE a; intro a hE
        refine WL.nil ?_
        obtain ⟨q62, hq61, hr⟩ := bndS hr
        refine W.cut (fun a w => (.next ()) = q62 ∧ Rep a 83 [(1, .pointer (some ⟨b51, 0, none⟩))] ∧ St w s (pt b51 (.cells #[.int .i64 x0.Period, .slice a0_0 x0.Plan.length c0_0, .slice a0_1 x0.Links.length c0_1] 25 (0, 0)) :: R)) ?_ ?_
        · refine W.block ?_
          refine W.loop (fun m a w => ∃ (rest65 : List Int) (k63 : Nat), rest65.length = m ∧ x0.Plan.drop k63 = rest65 ∧ MendCheckRound.loop1 x0 rest65 = q62 ∧ Rep a 83 [(1, .pointer (some ⟨b51, 0, none⟩)), (25, .slice a0_0 x0.Plan.length c0_0), (26, .int .i64 ((x0.Plan).length : Int)), (27, .int .i64 ((k63 : Nat) : Int))] ∧ St w s (pt b51 (.cells #[.int .i64 x0.Period, .slice a0_0 x0.Plan.length c0_0, .slice a0_1 x0.Links.length c0_1] 25 (0, 0)) :: R)) (m := x0.Plan.length) ⟨x0.Plan, 0, rfl, rfl, hq61, hE.pick _ ⟨rfl, rfl, rfl, rfl, trivial⟩, hS⟩ ?_
          clear hE hS a w hq61; rintro m69 a w ⟨rest65, k63, rfl, hd66, hq61, hE, hS⟩
          refine W.gen fun K72 hK72 => ?_
          rcases rest65 with _ | ⟨x64, rest65⟩
          · have hlt67 := drop_nil hd66
            refine W.seq ?_
            refine W.region ?_
            refine WL.vS hS hE (runs_plain rfl) (Gives.p hE rfl) rfl ?_; clear hE a; intro a hE
            refine WL.nil ?_
            refine W.seq ?_
            refine W.condF hE rfl (decide_eq_false (by omega)) ?_
            subst hK72
            refine W.exit rfl ?_
            exact ⟨hq61, hE.pick _ ⟨rfl, trivial⟩, hS⟩
          · obtain ⟨hlt67, hx68, hd66⟩ := drop_cons hd66
            rw [MendCheckRound.loop1] at hq61
            refine W.seq ?_
            refine W.region ?_
            refine WL.vS hS hE (runs_plain rfl) (Gives.p hE rfl) rfl ?_; clear hE a; intro a hE
            refine WL.nil ?_
            refine W.seq ?_
            refine W.condT hE rfl (decide_eq_true (by omega)) ?_
            refine W.skip ?_
            refine W.seq ?_
            refine W.block ?_
            refine W.seq ?_
            refine W.region ?_
            obtain ⟨cs73, hl74, hR75, hat76⟩ := h0_0.at hx68
            subst hR75
            refine WL.vS hS hE (runs_plain rfl) (Gives.idx hE k63 rfl rfl sl22 rfl hlt67 (h0_0.aok hlt67)) rfl ?_; clear hE a; intro a hE
            refine WL.vS hS hE (runs_plain rfl) (Gives.load1 hE rfl (fun w h => hat76 w _ h) ty3) rfl ?_; clear hE a; intro a hE
            refine WL.vS hS hE (runs_plain rfl) (Gives.p hE rfl) rfl ?_; clear hE a; intro a hE
            refine WL.nil ?_
            refine W.seq ?_
            refine W.region ?_
            refine WL.vS hS hE (runs_plain rfl) (Gives.p hE rfl) rfl ?_; clear hE a; intro a hE
            refine WL.vS hS hE (runs_plain rfl) (Gives.fld hE rfl fl25_0) rfl ?_; clear hE a; intro a hE
            refine WL.vS hS hE (runs_plain rfl) (Gives.loadB hE 0 rfl rfl rfl ty3) rfl ?_; clear hE a; intro a hE
            refine WL.vS hS hE (runs_plain rfl) (Gives.p hE rfl) rfl ?_; clear hE a; intro a hE
            refine WL.fnq hE (Mendwithin_ok hS  rfl (r := Mendwithin x64 0 (w64 (x0.Period - 1)))) (runs_plain rfl) bd54 rfl rfl rfl ?_
            clear hE hS; rintro e w ⟨rfl, hS⟩; refine ⟨_, rfl, ?_⟩; clear a; intro a hE
            refine WL.vS hS hE (runs_plain rfl) (Gives.p hE rfl) rfl ?_; clear hE a; intro a hE
            refine WL.nil ?_
            refine W.cond hE rfl (fun hc77 => ?_) (fun hc77 => ?_)
            · replace hq61 := iteT hc77 hq61
              refine W.seq ?_
              refine W.region ?_
              refine WL.vS hS hE (runs_plain rfl) (Gives.p hE rfl) rfl ?_; clear hE a; intro a hE
              refine WL.nil ?_
              refine W.ret ?_
              subst hK72
              rw [← hq61] at hr
              dsimp only at hr
              refine finG (fn := Try.f16) (rs := [.tmp 2]) (vs := [_]) hE rfl ⟨rfl, trivial⟩ ?_
              obtain rfl := Option.some.inj hr
              replace hS := hS.tail
              exact ⟨rfl, hS⟩
            · replace hq61 := iteF hc77 hq61
              refine W.skip ?_
              refine W.region ?_
              refine WL.vS hS hE (runs_plain rfl) (Gives.inc hE rfl (by have := h0_0.small; omega)) rfl ?_; clear hE a; intro a hE
              refine WL.vS hS hE (runs_plain rfl) (Gives.p hE rfl) rfl ?_; clear hE a; intro a hE
              refine WL.nil ?_
              subst hK72
              exact ⟨rest65.length, Nat.lt_succ_self _, rest65, k63 + 1, rfl, hd66, hq61, hE.pick _ ⟨rfl, rfl, rfl, rfl, trivial⟩, hS⟩
        · clear hE hS a w; rintro a w ⟨rfl, hE, hS⟩
          dsimp only at hr
          refine W.seq ?_
          refine W.seq ?_
          refine W.region ?_
          refine WL.vS hS hE (runs_plain rfl) (Gives.fld hE rfl fl25_2) rfl ?_; clear hE a; intro a hE
          refine WL.vS hS hE (runs_plain rfl) (Gives.loadB hE 0 rfl rfl rfl ty23) rfl ?_; clear hE a; intro a hE
          refine WL.vS hS hE (runs_plain rfl) (Gives.len hE rfl sl23) rfl ?_; clear hE a; intro a hE
          refine WL.vS hS hE (runs_plain rfl) (Gives.p hE rfl) rfl ?_; clear hE a; intro a hE
          refine WL.nil ?_
          obtain ⟨q79, hq78, hr⟩ := bindS hr
          refine W.cut (fun a w => (.next ()) = q79 ∧ Rep a 83 [(1, .pointer (some ⟨b51, 0, none⟩))] ∧ St w s (pt b51 (.cells #[.int .i64 x0.Period, .slice a0_0 x0.Plan.length c0_0, .slice a0_1 x0.Links.length c0_1] 25 (0, 0)) :: R)) ?_ ?_
          · refine W.block ?_
            refine W.loop (fun m a w => ∃ (rest82 : List MendLink) (k80 : Nat), rest82.length = m ∧ x0.Links.drop k80 = rest82 ∧ MendCheckRound.loop2 x0 rest82 = some q79 ∧ Rep a 83 [(1, .pointer (some ⟨b51, 0, none⟩)), (39, .slice a0_1 x0.Links.length c0_1), (40, .int .i64 ((x0.Links).length : Int)), (41, .int .i64 ((k80 : Nat) : Int))] ∧ St w s (pt b51 (.cells #[.int .i64 x0.Period, .slice a0_0 x0.Plan.length c0_0, .slice a0_1 x0.Links.length c0_1] 25 (0, 0)) :: R)) (m := x0.Links.length) ⟨x0.Links, 0, rfl, rfl, hq78, hE.pick _ ⟨rfl, rfl, rfl, rfl, trivial⟩, hS⟩ ?_
            clear hE hS a w hq78; rintro m86 a w ⟨rest82, k80, rfl, hd83, hq78, hE, hS⟩
            refine W.gen fun K89 hK89 => ?_
            rcases rest82 with _ | ⟨x81, rest82⟩
            · have hlt84 := drop_nil hd83
              refine W.seq ?_
              refine W.region ?_
              refine WL.vS hS hE (runs_plain rfl) (Gives.p hE rfl) rfl ?_; clear hE a; intro a hE
              refine WL.nil ?_
              refine W.seq ?_
              refine W.condF hE rfl (decide_eq_false (by omega)) ?_
              subst hK89
              refine W.exit rfl ?_
              exact ⟨Option.some.inj hq78, hE.pick _ ⟨rfl, trivial⟩, hS⟩
            · obtain ⟨hlt84, hx85, hd83⟩ := drop_cons hd83
              rw [MendCheckRound.loop2] at hq78
              refine W.seq ?_
              refine W.region ?_
              refine WL.vS hS hE (runs_plain rfl) (Gives.p hE rfl) rfl ?_; clear hE a; intro a hE
              refine WL.nil ?_
              refine W.seq ?_
              refine W.condT hE rfl (decide_eq_true (by omega)) ?_
              refine W.skip ?_
              refine W.seq ?_
              refine W.block ?_
              refine W.seq ?_
              refine W.region ?_
              obtain ⟨cs90, hl91, hR92, hat93⟩ := h0_1.at hx85
              subst hR92
              refine WL.vS hS hE (runs_plain rfl) (Gives.idx hE k80 rfl rfl sl23 rfl hlt84 (h0_1.aok hlt84)) rfl ?_; clear hE a; intro a hE
              refine WL.vS hS hE (runs_plain rfl) (Gives.loadA hE rfl (fun w h => hat93 w _ h) ty36) rfl ?_; clear hE a; intro a hE
              refine WL.alloc hE hS (runs_plain rfl) zr36 rfl ?_; clear hE hS a w; intro b94 a w hE hS
              refine WL.storeI hE hS 0 rfl (MendLink.cells x81) (runs_plain rfl) rfl rfl rfl ty36 rfl rfl rfl rfl ?_; clear hE hS a w; intro a w hE hS
              refine WL.nil ?_
              refine W.block ?_
              refine W.seq ?_
              obtain ⟨q96, hq95, hq78⟩ := bndS hq78
              refine W.cut (fun a w => ∃ (q99 : Bool), q99 = q96 ∧ Rep a 83 [(1, .pointer (some ⟨b51, 0, none⟩)), (6, .pointer (some ⟨b94, 0, none⟩)), (39, .slice a0_1 x0.Links.length c0_1), (40, .int .i64 ((x0.Links).length : Int)), (41, .int .i64 ((k80 : Nat) : Int)), (45, .bool q99)] ∧ St w s (pt b94 (.cells (MendLink.cells x81).toArray 36 (0, 0)) :: pt b51 (.cells #[.int .i64 x0.Period, .slice a0_0 x0.Plan.length c0_0, .slice a0_1 x0.Links.length c0_1] 25 (0, 0)) :: R)) ?_ ?_
              · refine W.gen fun K100 hK100 => ?_
                refine W.region ?_
                refine WL.vS hS hE (runs_plain rfl) (Gives.fld hE rfl fl36_0) rfl ?_; clear hE a; intro a hE
                refine WL.vS hS hE (runs_plain rfl) (Gives.loadB hE 0 rfl rfl rfl ty3) rfl ?_; clear hE a; intro a hE
                refine WL.vS hS hE (runs_plain rfl) (Gives.fld hE rfl fl25_1) rfl ?_; clear hE a; intro a hE
                refine WL.vS hS hE (runs_plain rfl) (Gives.loadB hE 1 rfl rfl rfl ty22) rfl ?_; clear hE a; intro a hE
                refine WL.vS hS hE (runs_plain rfl) (Gives.len hE rfl sl22) rfl ?_; clear hE a; intro a hE
                refine WL.vS hS hE (runs_plain rfl) (Gives.p hE rfl) rfl ?_; clear hE a; intro a hE
                refine WL.fnq hE (Mendwithin_ok hS  rfl (r := Mendwithin x81.From 0 (w64 (((x0.Plan).length : Int) - 1)))) (runs_plain rfl) bd54 rfl rfl rfl ?_
                clear hE hS; rintro e w ⟨rfl, hS⟩; refine ⟨_, rfl, ?_⟩; clear a; intro a hE
                refine WL.vS hS hE (runs_plain rfl) (Gives.p hE rfl) rfl ?_; clear hE a; intro a hE
                refine WL.vS hS hE (runs_plain rfl) (Gives.p hE rfl) rfl ?_; clear hE a; intro a hE
                rcases Bool.eq_false_or_eq_true (!(Mendwithin x81.From 0 (w64 (((x0.Plan).length : Int) - 1)))) with hg101 | hg101
                · replace hq95 := iteT hg101 hq95
                  refine WL.no hE (runs_not hE rfl rfl rfl (by rw [hg101]; decide)) rfl ?_; clear hE a; intro a hE
                  refine WL.no hE (runs_not hE rfl rfl rfl (by rw [hg101]; decide)) rfl ?_; clear hE a; intro a hE
                  refine WL.no hE (runs_not hE rfl rfl rfl (by rw [hg101]; decide)) rfl ?_; clear hE a; intro a hE
                  refine WL.no hE (runs_not hE rfl rfl rfl (by rw [hg101]; decide)) rfl ?_; clear hE a; intro a hE
                  refine WL.no hE (runs_not hE rfl rfl rfl (by rw [hg101]; decide)) rfl ?_; clear hE a; intro a hE
                  refine WL.no hE (runs_not hE rfl rfl rfl (by rw [hg101]; decide)) rfl ?_; clear hE a; intro a hE
                  refine WL.no hE (runs_not hE rfl rfl rfl (by rw [hg101]; decide)) rfl ?_; clear hE a; intro a hE
                  refine WL.no hE (runs_not hE rfl rfl rfl (by rw [hg101]; decide)) rfl ?_; clear hE a; intro a hE
                  refine WL.vS hS hE (runs_plain rfl) (Gives.pickT hE rfl hg101 rfl) rfl ?_; clear hE a; intro a hE
                  refine WL.vS hS hE (runs_plain rfl) (Gives.p hE rfl) rfl ?_; clear hE a; intro a hE
                  refine WL.nil ?_
                  subst hK100
                  exact ⟨true, hq95, hE.pick _ ⟨rfl, rfl, rfl, rfl, rfl, rfl, trivial⟩, hS⟩
                · replace hq95 := iteF hg101 hq95
                  refine WL.vS hS hE (runs_if hE rfl rfl rfl hg101) (Gives.fld hE rfl fl36_1) rfl ?_; clear hE a; intro a hE
                  refine WL.vS hS hE (runs_if hE rfl rfl rfl hg101) (Gives.loadB hE 0 rfl rfl rfl ty3) rfl ?_; clear hE a; intro a hE
                  refine WL.vS hS hE (runs_if hE rfl rfl rfl hg101) (Gives.fld hE rfl fl25_1) rfl ?_; clear hE a; intro a hE
                  refine WL.vS hS hE (runs_if hE rfl rfl rfl hg101) (Gives.loadB hE 1 rfl rfl rfl ty22) rfl ?_; clear hE a; intro a hE
                  refine WL.vS hS hE (runs_if hE rfl rfl rfl hg101) (Gives.len hE rfl sl22) rfl ?_; clear hE a; intro a hE
                  refine WL.vS hS hE (runs_if hE rfl rfl rfl hg101) (Gives.p hE rfl) rfl ?_; clear hE a; intro a hE
                  refine WL.fnq hE (Mendwithin_ok hS  rfl (r := Mendwithin x81.To 0 (w64 (((x0.Plan).length : Int) - 1)))) (runs_if hE rfl rfl rfl hg101) bd54 rfl rfl rfl ?_
                  clear hE hS; rintro e w ⟨rfl, hS⟩; refine ⟨_, rfl, ?_⟩; clear a; intro a hE
                  refine WL.vS hS hE (runs_if hE rfl rfl rfl hg101) (Gives.p hE rfl) rfl ?_; clear hE a; intro a hE
                  refine WL.vS hS hE (runs_plain rfl) (Gives.pickF hE rfl hg101 rfl) rfl ?_; clear hE a; intro a hE
                  refine WL.vS hS hE (runs_plain rfl) (Gives.p hE rfl) rfl ?_; clear hE a; intro a hE
                  refine WL.nil ?_
                  subst hK100
                  exact ⟨!(Mendwithin x81.To 0 (w64 (((x0.Plan).length : Int) - 1))), hq95, hE.pick _ ⟨rfl, rfl, rfl, rfl, rfl, rfl, trivial⟩, hS⟩
              · clear hE hS a w; rintro a w ⟨q99, rfl, hE, hS⟩
                refine W.cond hE rfl (fun hc102 => ?_) (fun hc102 => ?_)
                · replace hq78 := iteT hc102 hq78
                  refine W.seq ?_
                  refine W.region ?_
                  refine WL.vS hS hE (runs_plain rfl) (Gives.p hE rfl) rfl ?_; clear hE a; intro a hE
                  refine WL.nil ?_
                  refine W.ret ?_
                  subst hK89
                  rw [← Option.some.inj hq78] at hr
                  dsimp only at hr
                  refine finG (fn := Try.f16) (rs := [.tmp 2]) (vs := [_]) hE rfl ⟨rfl, trivial⟩ ?_
                  obtain rfl := Option.some.inj hr
                  replace hS := hS.tail
                  replace hS := hS.tail
                  exact ⟨rfl, hS⟩
                · replace hq78 := iteF hc102 hq78
                  refine W.seq ?_
                  obtain ⟨q104, hq103, hq78⟩ := bndS hq78
                  refine W.cut (fun a w => ∃ (q107 : Bool), q107 = q104 ∧ Rep a 83 [(1, .pointer (some ⟨b51, 0, none⟩)), (6, .pointer (some ⟨b94, 0, none⟩)), (39, .slice a0_1 x0.Links.length c0_1), (40, .int .i64 ((x0.Links).length : Int)), (41, .int .i64 ((k80 : Nat) : Int)), (64, .bool q107)] ∧ St w s (pt b94 (.cells (MendLink.cells x81).toArray 36 (0, 0)) :: pt b51 (.cells #[.int .i64 x0.Period, .slice a0_0 x0.Plan.length c0_0, .slice a0_1 x0.Links.length c0_1] 25 (0, 0)) :: R)) ?_ ?_
                  · refine W.gen fun K108 hK108 => ?_
                    refine W.region ?_
                    refine WL.vS hS hE (runs_plain rfl) (Gives.fld hE rfl fl36_2) rfl ?_; clear hE a; intro a hE
                    refine WL.vS hS hE (runs_plain rfl) (Gives.loadB hE 0 rfl rfl rfl ty3) rfl ?_; clear hE a; intro a hE
                    refine WL.fnq hE (Mendwithin_ok hS  rfl (r := Mendwithin x81.Len 0 28800)) (runs_plain rfl) bd54 rfl rfl rfl ?_
                    clear hE hS; rintro e w ⟨rfl, hS⟩; refine ⟨_, rfl, ?_⟩; clear a; intro a hE
                    refine WL.vS hS hE (runs_plain rfl) (Gives.p hE rfl) rfl ?_; clear hE a; intro a hE
                    refine WL.vS hS hE (runs_plain rfl) (Gives.p hE rfl) rfl ?_; clear hE a; intro a hE
                    rcases Bool.eq_false_or_eq_true (!(Mendwithin x81.Len 0 28800)) with hg109 | hg109
                    · replace hq103 := iteT hg109 hq103
                      refine WL.no hE (runs_not hE rfl rfl rfl (by rw [hg109]; decide)) rfl ?_; clear hE a; intro a hE
                      refine WL.no hE (runs_not hE rfl rfl rfl (by rw [hg109]; decide)) rfl ?_; clear hE a; intro a hE
                      refine WL.no hE (runs_not hE rfl rfl rfl (by rw [hg109]; decide)) rfl ?_; clear hE a; intro a hE
                      refine WL.no hE (runs_not hE rfl rfl rfl (by rw [hg109]; decide)) rfl ?_; clear hE a; intro a hE
                      refine WL.vS hS hE (runs_plain rfl) (Gives.pickT hE rfl hg109 rfl) rfl ?_; clear hE a; intro a hE
                      refine WL.vS hS hE (runs_plain rfl) (Gives.p hE rfl) rfl ?_; clear hE a; intro a hE
                      refine WL.nil ?_
                      subst hK108
                      exact ⟨true, hq103, hE.pick _ ⟨rfl, rfl, rfl, rfl, rfl, rfl, trivial⟩, hS⟩
                    · replace hq103 := iteF hg109 hq103
                      refine WL.vS hS hE (runs_if hE rfl rfl rfl hg109) (Gives.fld hE rfl fl36_3) rfl ?_; clear hE a; intro a hE
                      refine WL.vS hS hE (runs_if hE rfl rfl rfl hg109) (Gives.loadB hE 0 rfl rfl rfl ty3) rfl ?_; clear hE a; intro a hE
                      refine WL.fnq hE (Mendwithin_ok hS  rfl (r := Mendwithin x81.Back 0 3)) (runs_if hE rfl rfl rfl hg109) bd54 rfl rfl rfl ?_
                      clear hE hS; rintro e w ⟨rfl, hS⟩; refine ⟨_, rfl, ?_⟩; clear a; intro a hE
                      refine WL.vS hS hE (runs_if hE rfl rfl rfl hg109) (Gives.p hE rfl) rfl ?_; clear hE a; intro a hE
                      refine WL.vS hS hE (runs_plain rfl) (Gives.pickF hE rfl hg109 rfl) rfl ?_; clear hE a; intro a hE
                      refine WL.vS hS hE (runs_plain rfl) (Gives.p hE rfl) rfl ?_; clear hE a; intro a hE
                      refine WL.nil ?_
                      subst hK108
                      exact ⟨!(Mendwithin x81.Back 0 3), hq103, hE.pick _ ⟨rfl, rfl, rfl, rfl, rfl, rfl, trivial⟩, hS⟩
                  · clear hE hS a w; rintro a w ⟨q107, rfl, hE, hS⟩
                    refine W.cond hE rfl (fun hc110 => ?_) (fun hc110 => ?_)
                    · replace hq78 := iteT hc110 hq78
                      refine W.seq ?_
                      refine W.region ?_
                      refine WL.vS hS hE (runs_plain rfl) (Gives.p hE rfl) rfl ?_; clear hE a; intro a hE
                      refine WL.nil ?_
                      refine W.ret ?_
                      subst hK89
                      rw [← Option.some.inj hq78] at hr
                      dsimp only at hr
                      refine finG (fn := Try.f16) (rs := [.tmp 2]) (vs := [_]) hE rfl ⟨rfl, trivial⟩ ?_
                      obtain rfl := Option.some.inj hr
                      replace hS := hS.tail
                      replace hS := hS.tail
                      exact ⟨rfl, hS⟩
                    · replace hq78 := iteF hc110 hq78
                      refine W.seq ?_
                      refine W.region ?_
                      refine WL.vS hS hE (runs_plain rfl) (Gives.loadBA hE 1 rfl rfl ty25) rfl ?_; clear hE a; intro a hE
                      refine WL.vS hS hE (runs_plain rfl) (Gives.loadBA hE 0 rfl rfl ty36) rfl ?_; clear hE a; intro a hE
                      obtain ⟨q111, hq112, hq78⟩ := bindS hq78
                      have hc_ := MendRoundslack_ok hS h0_0 h0_1 hq112
                      refine WL.fnq hE (hc_) (runs_plain rfl) bd55 rfl rfl rfl ?_
                      clear hE hS hc_; rintro e w ⟨rfl, hS⟩; refine ⟨_, rfl, ?_⟩; clear a; intro a hE
                      refine WL.vS hS hE (runs_plain rfl) (Gives.p hE rfl) rfl ?_; clear hE a; intro a hE
                      refine WL.vS hS hE (runs_plain rfl) (Gives.p hE rfl) rfl ?_; clear hE a; intro a hE
                      refine WL.nil ?_
                      refine W.cond hE rfl (fun hc113 => ?_) (fun hc113 => ?_)
                      · replace hq78 := iteT hc113 hq78
                        refine W.seq ?_
                        refine W.region ?_
                        refine WL.vS hS hE (runs_plain rfl) (Gives.p hE rfl) rfl ?_; clear hE a; intro a hE
                        refine WL.nil ?_
                        refine W.ret ?_
                        subst hK89
                        rw [← Option.some.inj hq78] at hr
                        dsimp only at hr
                        refine finG (fn := Try.f16) (rs := [.tmp 2]) (vs := [_]) hE rfl ⟨rfl, trivial⟩ ?_
                        obtain rfl := Option.some.inj hr
                        replace hS := hS.tail
                        replace hS := hS.tail
                        exact ⟨rfl, hS⟩
                      · replace hq78 := iteF hc113 hq78
                        refine W.skip ?_
                        refine W.region ?_
                        refine WL.vS hS hE (runs_plain rfl) (Gives.inc hE rfl (by have := h0_1.small; omega)) rfl ?_; clear hE a; intro a hE
                        refine WL.vS hS hE (runs_plain rfl) (Gives.p hE rfl) rfl ?_; clear hE a; intro a hE
                        refine WL.nil ?_
                        replace hS := hS.tail
                        subst hK89
                        exact ⟨rest82.length, Nat.lt_succ_self _, rest82, k80 + 1, rfl, hd83, hq78, hE.pick _ ⟨rfl, rfl, rfl, rfl, trivial⟩, hS⟩
          · clear hE hS a w; rintro a w ⟨rfl, hE, hS⟩
            dsimp only at hr
            refine W.seq ?_
            refine W.seq ?_
            refine W.region ?_
            refine WL.vS hS hE (runs_plain rfl) (Gives.loadBA hE 0 rfl rfl ty25) rfl ?_; clear hE a; intro a hE
            obtain ⟨q114, hq115, hr⟩ := bindS hr
            have hc_ := MendRoundring_ok hS h0_0 h0_1 hq115
            refine WL.fnq hE (hc_) (runs_plain rfl) bd56 rfl rfl rfl ?_
            clear hE hS hc_; rintro e w ⟨rfl, hS⟩; refine ⟨_, rfl, ?_⟩; clear a; intro a hE
            refine WL.nil ?_
            refine W.cond hE rfl (fun hc116 => ?_) (fun hc116 => ?_)
            · replace hr := iteT hc116 hr
              refine W.seq ?_
              refine W.region ?_
              refine WL.vS hS hE (runs_plain rfl) (Gives.p hE rfl) rfl ?_; clear hE a; intro a hE
              refine WL.nil ?_
              refine W.ret ?_
              refine finG (fn := Try.f16) (rs := [.tmp 2]) (vs := [_]) hE rfl ⟨rfl, trivial⟩ ?_
              obtain rfl := Option.some.inj hr
              replace hS := hS.tail
              exact ⟨rfl, hS⟩
            · replace hr := iteF hc116 hr
              refine W.skip ?_
              refine W.seq ?_
              refine W.region ?_
              refine WL.vS hS hE (runs_plain rfl) (Gives.p hE rfl) rfl ?_; clear hE a; intro a hE
              refine WL.nil ?_
              refine W.ret ?_
              refine finG (fn := Try.f16) (rs := [.tmp 2]) (vs := [_]) hE rfl ⟨rfl, trivial⟩ ?_
              obtain rfl := Option.some.inj hr
              replace hS := hS.tail
              exact ⟨rfl, hS⟩
set_option maxHeartbeats 8000000 in
theorem MendRoom_ok {fu : Nat}  {w : World} {s : Sg} {R : List HP} {x0 : MendRound} {a0_0 : Option Addr} {c0_0 : Nat} {a0_1 : Option Addr} {c0_1 : Nat} (hS : St w s (R)) (h0_0 : Sl 1 (RI .i64) s a0_0 c0_0 x0.Plan) (h0_1 : Sl 4 RMendLink s a0_1 c0_1 x0.Links) {r : (List (List Int)) × Int} (hr : MendRoom fu x0 = some r) :
    Calls Try.prog 34 [.agg [.int .i64 x0.Period, .slice a0_0 x0.Plan.length c0_0, .slice a0_1 x0.Links.length c0_1].toArray].toArray w (fun e w => ∃ (a0 : Option Addr) (c0 : Nat) (t : Sg), e = .returned (.tuple #[.slice a0 r.1.length c0, .int .i64 r.2]) ∧ s.Le t ∧ Sl 1 (RL 1 (RI .i64)) t a0 c0 r.1 ∧ St w t (R)) := by
  refine enter Try.func34 rfl rfl rfl fun a hE => ?_
  rw [MendRoom] at hr
  refine W.seq ?_
  refine W.region ?_
  refine WL.box hE hS (runs_plain rfl) rfl rfl rfl ?_; clear hE hS a w; intro b51 a w hE hS
  refine WL.vS hS hE (runs_plain rfl) (Gives.p hE rfl) rfl ?_; clear hE a; intro a hE
  refine WL.vS hS hE (runs_plain rfl) (Gives.p hE rfl) rfl ?_; clear hE a; intro a hE
  refine WL.nil ?_
  refine W.seq ?_
  refine W.seq ?_
  refine W.region ?_
  refine WL.vS hS hE (runs_plain rfl) (Gives.loadBA hE 0 rfl rfl ty25) rfl ?_; clear hE a; intro a hE
  obtain ⟨q52, hq53, hr⟩ := bindS hr
  have hc_ := MendCheckRound_ok hS h0_0 h0_1 hq53
  refine WL.fnq hE (hc_) (runs_plain rfl) bd16 rfl rfl rfl ?_
  clear hE hS hc_; rintro e w ⟨rfl, hS⟩; refine ⟨_, rfl, ?_⟩; clear a; intro a hE
  refine WL.vS hS hE (runs_plain rfl) (Gives.p hE rfl) rfl ?_; clear hE a; intro a hE
  refine WL.nil ?_
  refine W.seq ?_
  refine W.region ?_
  refine WL.vS hS hE (runs_plain rfl) (Gives.p hE rfl) rfl ?_; clear hE a; intro a hE
  refine WL.vS hS hE (runs_plain rfl) (Gives.p hE rfl) rfl ?_; clear hE a; intro a hE
  refine WL.nil ?_
  refine W.cond hE rfl (fun hc54 => ?_) (fun hc54 => ?_)
  · replace hr := iteT hc54 hr
    refine W.seq ?_
    refine W.region ?_
    refine WL.vS hS hE (runs_plain rfl) (Gives.p hE rfl) rfl ?_; clear hE a; intro a hE
    refine WL.vS hS hE (runs_plain rfl) (Gives.p hE rfl) rfl ?_; clear hE a; intro a hE
    refine WL.vS hS hE (runs_plain rfl) (Gives.p hE rfl) rfl ?_; clear hE a; intro a hE
    refine WL.nil ?_
    refine W.ret ?_
    refine finG (fn := Try.f34) (rs := [.tmp 2, .tmp 3]) (vs := [_, _]) hE rfl ⟨rfl, rfl, trivial⟩ ?_
    obtain rfl := Option.some.inj hr
    replace hS := hS.tail
    exact ⟨none, 0, s, rfl, (Sg.Le.refl _), Sl.nil, hS⟩
  · replace hr := iteF hc54 hr
    refine W.skip ?_
    refine W.seq ?_
    refine W.region ?_
    refine WL.vS hS hE (runs_plain rfl) (Gives.fld hE rfl fl25_1) rfl ?_; clear hE a; intro a hE
    refine WL.vS hS hE (runs_plain rfl) (Gives.loadB hE 0 rfl rfl rfl ty22) rfl ?_; clear hE a; intro a hE
    refine WL.vS hS hE (runs_plain rfl) (Gives.len hE rfl sl22) rfl ?_; clear hE a; intro a hE
    obtain ⟨x55, hx56, hr⟩ := bindS hr
    refine WL.mkND (Rr := RI .i64) (Ti := 3) (es := 1) hE hS (runs_plain rfl) rfl rfl ap40 zr22 hx56 rfl ?_; clear hE hS a w; intro b57 ds58 a w h59 hE hS
    refine WL.vS hS hE (runs_plain rfl) (Gives.p hE rfl) rfl ?_; clear hE a; intro a hE
    refine WL.nil ?_
    refine W.seq ?_
    refine W.seq ?_
    refine W.region ?_
    refine WL.vS hS hE (runs_plain rfl) (Gives.p hE rfl) rfl ?_; clear hE a; intro a hE
    refine WL.vS hS hE (runs_plain rfl) (Gives.len hE rfl sl40) rfl ?_; clear hE a; intro a hE
    refine WL.vS hS hE (runs_plain rfl) (Gives.p hE rfl) rfl ?_; clear hE a; intro a hE
    refine WL.nil ?_
    have hb72 : x55.length ≤ 9223372036854775807 := by have := hS.nCap 0 rfl; unfold maxLen at this; omega
    obtain ⟨q62, hq61, hr⟩ := bindS hr
    refine W.cut (fun a w => ∃ (q73 : List (List Int)), ∃ (ds77 : List In), ∃ (s70 : Sg), s.Le s70 ∧ q73 = q62 ∧ NEv 1 (RI .i64) s70 ds77 q73 ∧ q73.length = x55.length ∧ Rep a 100 [(5, .slice (some ⟨b57, 0, none⟩) x55.length x55.length)] ∧ St w s70 (nestC 22 3 1 (some ⟨b57, 0, none⟩) x55.length x55.length ds77 :: pt b51 (.cells #[.int .i64 x0.Period, .slice a0_0 x0.Plan.length c0_0, .slice a0_1 x0.Links.length c0_1] 25 (0, 0)) :: R)) ?_ ?_
    · refine W.block ?_
      refine W.loop (fun m a w => ∃ (rest65 : Nat) (k63 : Nat), ∃ (q73 : List (List Int)), ∃ (ds77 : List In), ∃ (s70 : Sg), rest65 = m ∧ k63 + rest65 = x55.length ∧ s.Le s70 ∧ MendRoom.loop1 x0 fu rest65 k63 q73 = some q62 ∧ NEv 1 (RI .i64) s70 ds77 q73 ∧ q73.length = x55.length ∧ Rep a 100 [(1, .pointer (some ⟨b51, 0, none⟩)), (5, .slice (some ⟨b57, 0, none⟩) x55.length x55.length), (21, .int .i64 ((x55.length : Nat) : Int)), (22, .int .i64 ((k63 : Nat) : Int))] ∧ St w s70 (nestC 22 3 1 (some ⟨b57, 0, none⟩) x55.length x55.length ds77 :: pt b51 (.cells #[.int .i64 x0.Period, .slice a0_0 x0.Plan.length c0_0, .slice a0_1 x0.Links.length c0_1] 25 (0, 0)) :: R)) (m := x55.length) ⟨x55.length, 0, x55, ds58, s, rfl, by omega, (Sg.Le.refl _), hq61, h59, (rfl), hE.pick _ ⟨rfl, rfl, rfl, rfl, trivial⟩, hS⟩ ?_
      clear hE hS a w hq61; rintro m69 a w ⟨rest65, k63, q73, ds77, s70, rfl, hd66, hle71, hq61, h78, hn79, hE, hS⟩
      refine W.gen fun K80 hK80 => ?_
      replace h0_0 := Sl.mono RI.mono hle71 h0_0
      replace h0_1 := Sl.mono RMendLink.mono hle71 h0_1
      replace h59 := NEv.mono RI.mono hle71 h59
      rcases rest65 with _ | rest65
      · skip
        refine W.seq ?_
        refine W.region ?_
        refine WL.vS hS hE (runs_plain rfl) (Gives.p hE rfl) rfl ?_; clear hE a; intro a hE
        refine WL.nil ?_
        refine W.seq ?_
        refine W.condF hE rfl (decide_eq_false (by omega)) ?_
        subst hK80
        refine W.exit rfl ?_
        exact ⟨q73, ds77, s70, hle71, Option.some.inj hq61, h78, hn79, hE.pick _ ⟨rfl, trivial⟩, hS⟩
      · have hlt67 : k63 < x55.length := by omega
        rw [MendRoom.loop1] at hq61
        refine W.seq ?_
        refine W.region ?_
        refine WL.vS hS hE (runs_plain rfl) (Gives.p hE rfl) rfl ?_; clear hE a; intro a hE
        refine WL.nil ?_
        refine W.seq ?_
        refine W.condT hE rfl (decide_eq_true (by omega)) ?_
        refine W.skip ?_
        refine W.seq ?_
        refine W.block ?_
        refine W.seq ?_
        refine W.region ?_
        refine WL.vS hS hE (runs_plain rfl) (Gives.p hE rfl) rfl ?_; clear hE a; intro a hE
        refine WL.vS hS hE (runs_plain rfl) (Gives.p hE rfl) rfl ?_; clear hE a; intro a hE
        refine WL.nil ?_
        refine W.seq ?_
        refine W.region ?_
        refine WL.vS hS hE (runs_plain rfl) (Gives.p hE rfl) rfl ?_; clear hE a; intro a hE
        refine WL.vS hS hE (runs_plain rfl) (Gives.p hE rfl) rfl ?_; clear hE a; intro a hE
        refine WL.lit hE hS (e := 3) (es := 1) (vs := [(0, .int .i64 (-1))]) (cs := [.int .i64 (-1)]) (runs_plain rfl) rfl (by kernel_rfl) rfl ?_; clear hE hS a w; intro b81 a w hE hS
        replace hS := hS.ptVec (es := 1) (m := 1) rfl (by decide)
        have h83 : Ev 1 (RI .i64) s70 [.int .i64 (-1)] [(-1)] := (Ev.cons (c1 := [.int .i64 (-1)]) rfl rfl (Ev.nil))
        have hF := hS.fixD RI.mono 0 rfl h83 (rfl); clear hS; obtain ⟨s84, hle85, hS, h86⟩ := hF
        replace h78 := NEv.mono RI.mono hle85 h78
        replace h0_0 := Sl.mono RI.mono hle85 h0_0
        replace h0_1 := Sl.mono RMendLink.mono hle85 h0_1
        refine WL.vS hS hE (runs_plain rfl) (Gives.fld hE rfl fl25_1) rfl ?_; clear hE a; intro a hE
        refine WL.vS hS hE (runs_plain rfl) (Gives.loadB hE 1 rfl rfl rfl ty22) rfl ?_; clear hE a; intro a hE
        refine WL.vS hS hE (runs_plain rfl) (Gives.len hE rfl sl22) rfl ?_; clear hE a; intro a hE
        obtain ⟨q87, hq88, hq61⟩ := bindS hq61
        have hc_ := SlicesRepeatLint_ok hS h86 hq88
        refine WL.fnq hE (hc_) (runs_plain rfl) bd57 rfl rfl rfl ?_
        clear hE hS hc_; rintro e w ⟨a89, c90, n91, cs92, rfl, h93, rfl, hS⟩; refine ⟨_, rfl, ?_⟩; clear a; intro a hE
        obtain ⟨_, hx95, hq61⟩ := bindS hq61
        obtain ⟨h96, h97⟩ := ix_some hx95
        refine WL.vS hS hE (runs_plain rfl) (Gives.idx hE ((((k63 : Nat) : Int)).toNat) rfl rfl sl40 h96 (by have := hn79; omega) (hS.nAok 1 rfl (by have := hn79; omega : (((k63 : Nat) : Int)).toNat < x55.length))) rfl ?_; clear hE a; intro a hE
        obtain ⟨d98, hd99⟩ : ∃ d, ds77[(((k63 : Nat) : Int)).toNat]? = some d := ⟨_, List.getElem?_eq_getElem (by have h1 := h78.len; have h2 := hn79; omega)⟩
        replace hS := (hS.borrow 1 rfl hd99).tail
        obtain ⟨x100, hx101, hq61⟩ := bindS hq61
        refine WL.storeND hE hS 0 rfl (runs_plain rfl) rfl rfl ty22 h78 hn79 (by have := (sx_some hx101).1; omega) hx101 h93 rfl rfl ?_; clear hE hS a w; intro ds102 a w h103 hn104 hE hS
        refine WL.nil ?_
        refine W.seq ?_
        refine W.region ?_
        refine WL.vS hS hE (runs_plain rfl) (Gives.p hE rfl) rfl ?_; clear hE a; intro a hE
        refine WL.vS hS hE (runs_plain rfl) (Gives.p hE rfl) rfl ?_; clear hE a; intro a hE
        obtain ⟨x105, hx106, hq61⟩ := bindS hq61
        obtain ⟨hi107, hlt108, hy109⟩ := gx_some hx106
        obtain ⟨a110, c111, cs112, hd113, hev114⟩ := h103.at hy109
        refine WL.vS hS hE (runs_plain rfl) (Gives.idx hE ((((k63 : Nat) : Int)).toNat) rfl rfl sl40 hi107 (by have := hn104; omega) (hS.nAok 0 rfl (by have := hn104; omega : (((k63 : Nat) : Int)).toNat < x55.length))) rfl ?_; clear hE a; intro a hE
        refine WL.vS hS hE (runs_plain rfl) (Gives.load1 (v := .slice a110 x105.length c111) hE rfl (fun w h => St.nSees h 0 rfl hd113) ty22) rfl ?_; clear hE a; intro a hE
        refine WL.vS hS hE (runs_plain rfl) (Gives.p hE rfl) rfl ?_; clear hE a; intro a hE
        replace hS := hS.borrowM 0 rfl hd113
        obtain ⟨_, hx117, hq61⟩ := bindS hq61
        obtain ⟨h118, h119⟩ := ix_some hx117
        refine WL.vS hS hE (runs_plain rfl) (Gives.idx hE ((((k63 : Nat) : Int)).toNat) rfl rfl sl22 h118 (by omega) (hS.vecAok 0 rfl (by omega : (((k63 : Nat) : Int)).toNat < x105.length))) rfl ?_; clear hE a; intro a hE
        obtain ⟨x121, hx122, hq61⟩ := bindS hq61
        refine WL.setD hE hS 0 rfl (runs_plain rfl) rfl rfl (vs := [.int .i64 0]) rfl ty3 rfl rfl rfl hev114 (rfl) (sx_some hx122).1 hx122 rfl rfl ?_; clear hE hS a w; intro cs123 a w h124 hn125 hE hS
        refine WL.nil ?_
        refine W.seq ?_
        refine W.region ?_
        refine WL.vS hS hE (runs_plain rfl) (Gives.p hE rfl) rfl ?_; clear hE a; intro a hE
        refine WL.nil ?_
        replace hS := hS.giveBack 0 rfl hd113
        have h127 := h103.set (k := (((k63 : Nat) : Int)).toNat) (d := ⟨a110, c111, x105.length, cs123⟩) h124 hn125
        have hn128 : (x100.set ((((k63 : Nat) : Int)).toNat) x121).length = x55.length := by simp; exact hn104
        generalize List.set ds102 ((((k63 : Nat) : Int)).toNat) _ = ds126 at hS h127
        obtain ⟨q130, hq129, hq61⟩ := bindS hq61
        refine W.cut (fun a w => ∃ (q135 : Bool), ∃ (q136 : List (List Int)), ∃ (ds140 : List In), (q135, q136) = q130 ∧ NEv 1 (RI .i64) s84 ds140 q136 ∧ q136.length = x55.length ∧ Rep a 100 [(1, .pointer (some ⟨b51, 0, none⟩)), (5, .slice (some ⟨b57, 0, none⟩) x55.length x55.length), (21, .int .i64 ((x55.length : Nat) : Int)), (22, .int .i64 ((k63 : Nat) : Int))] ∧ St w s84 (nestC 22 3 1 (some ⟨b57, 0, none⟩) x55.length x55.length ds140 :: pt b51 (.cells #[.int .i64 x0.Period, .slice a0_0 x0.Plan.length c0_0, .slice a0_1 x0.Links.length c0_1] 25 (0, 0)) :: R)) ?_ ?_
        · refine W.block ?_
          refine W.loop (fun m a w => ∃ (n131 : Nat), ∃ (q135 : Bool), ∃ (q136 : List (List Int)), ∃ (ds140 : List In), n131 = m ∧ MendRoom.loop2 x0 k63 n131 q135 q136 = some q130 ∧ NEv 1 (RI .i64) s84 ds140 q136 ∧ q136.length = x55.length ∧ Rep a 100 [(1, .pointer (some ⟨b51, 0, none⟩)), (5, .slice (some ⟨b57, 0, none⟩) x55.length x55.length), (6, .int .i64 ((k63 : Nat) : Int)), (7, .bool q135), (21, .int .i64 ((x55.length : Nat) : Int)), (22, .int .i64 ((k63 : Nat) : Int))] ∧ St w s84 (nestC 22 3 1 (some ⟨b57, 0, none⟩) x55.length x55.length ds140 :: pt b51 (.cells #[.int .i64 x0.Period, .slice a0_0 x0.Plan.length c0_0, .slice a0_1 x0.Links.length c0_1] 25 (0, 0)) :: R)) (m := fu) ⟨fu, true, (x100.set ((((k63 : Nat) : Int)).toNat) x121), ds126, rfl, hq129, h127, hn128, hE.pick _ ⟨rfl, rfl, rfl, rfl, rfl, rfl, trivial⟩, hS⟩ ?_
          clear hE hS a w hq129; rintro m132 a w ⟨n131, q135, q136, ds140, rfl, hq129, h141, hn142, hE, hS⟩
          refine W.gen fun K143 hK143 => ?_
          rcases n131 with _ | n131
          · rw [MendRoom.loop2] at hq129; exact absurd hq129 (by simp)
          rw [MendRoom.loop2] at hq129
          refine W.seq ?_
          refine W.seq ?_
          refine W.region ?_
          refine WL.vS hS hE (runs_plain rfl) (Gives.p hE rfl) rfl ?_; clear hE a; intro a hE
          refine WL.nil ?_
          refine W.cond hE rfl (fun hc144 => ?_) (fun hc144 => ?_)
          · replace hq129 := iteT hc144 hq129
            refine W.skip ?_
            refine W.block ?_
            refine W.seq ?_
            refine W.region ?_
            refine WL.vS hS hE (runs_plain rfl) (Gives.p hE rfl) rfl ?_; clear hE a; intro a hE
            refine WL.nil ?_
            refine W.seq ?_
            refine W.region ?_
            refine WL.vS hS hE (runs_plain rfl) (Gives.fld hE rfl fl25_2) rfl ?_; clear hE a; intro a hE
            refine WL.vS hS hE (runs_plain rfl) (Gives.loadB hE 1 rfl rfl rfl ty23) rfl ?_; clear hE a; intro a hE
            refine WL.vS hS hE (runs_plain rfl) (Gives.len hE rfl sl23) rfl ?_; clear hE a; intro a hE
            refine WL.vS hS hE (runs_plain rfl) (Gives.p hE rfl) rfl ?_; clear hE a; intro a hE
            refine WL.nil ?_
            obtain ⟨q146, hq145, hq129⟩ := bindS hq129
            refine W.cut (fun a w => ∃ (q156 : Bool), ∃ (q157 : List (List Int)), ∃ (ds161 : List In), (q156, q157) = q146 ∧ NEv 1 (RI .i64) s84 ds161 q157 ∧ q157.length = x55.length ∧ Rep a 100 [(1, .pointer (some ⟨b51, 0, none⟩)), (5, .slice (some ⟨b57, 0, none⟩) x55.length x55.length), (6, .int .i64 ((k63 : Nat) : Int)), (7, .bool q156), (21, .int .i64 ((x55.length : Nat) : Int)), (22, .int .i64 ((k63 : Nat) : Int))] ∧ St w s84 (nestC 22 3 1 (some ⟨b57, 0, none⟩) x55.length x55.length ds161 :: pt b51 (.cells #[.int .i64 x0.Period, .slice a0_0 x0.Plan.length c0_0, .slice a0_1 x0.Links.length c0_1] 25 (0, 0)) :: R)) ?_ ?_
            · refine W.block ?_
              refine W.loop (fun m a w => ∃ (rest149 : List MendLink) (k147 : Nat), ∃ (q156 : Bool), ∃ (q157 : List (List Int)), ∃ (ds161 : List In), rest149.length = m ∧ x0.Links.drop k147 = rest149 ∧ MendRoom.loop3 x0 k63 rest149 q156 q157 = some q146 ∧ NEv 1 (RI .i64) s84 ds161 q157 ∧ q157.length = x55.length ∧ Rep a 100 [(1, .pointer (some ⟨b51, 0, none⟩)), (5, .slice (some ⟨b57, 0, none⟩) x55.length x55.length), (6, .int .i64 ((k63 : Nat) : Int)), (7, .bool q156), (21, .int .i64 ((x55.length : Nat) : Int)), (22, .int .i64 ((k63 : Nat) : Int)), (41, .slice a0_1 x0.Links.length c0_1), (42, .int .i64 ((x0.Links).length : Int)), (43, .int .i64 ((k147 : Nat) : Int))] ∧ St w s84 (nestC 22 3 1 (some ⟨b57, 0, none⟩) x55.length x55.length ds161 :: pt b51 (.cells #[.int .i64 x0.Period, .slice a0_0 x0.Plan.length c0_0, .slice a0_1 x0.Links.length c0_1] 25 (0, 0)) :: R)) (m := x0.Links.length) ⟨x0.Links, 0, false, q136, ds140, rfl, rfl, hq145, h141, hn142, hE.pick _ ⟨rfl, rfl, rfl, rfl, rfl, rfl, rfl, rfl, rfl, trivial⟩, hS⟩ ?_
              clear hE hS a w hq145; rintro m153 a w ⟨rest149, k147, q156, q157, ds161, rfl, hd150, hq145, h162, hn163, hE, hS⟩
              refine W.gen fun K164 hK164 => ?_
              rcases rest149 with _ | ⟨x148, rest149⟩
              · have hlt151 := drop_nil hd150
                refine W.seq ?_
                refine W.region ?_
                refine WL.vS hS hE (runs_plain rfl) (Gives.p hE rfl) rfl ?_; clear hE a; intro a hE
                refine WL.nil ?_
                refine W.seq ?_
                refine W.condF hE rfl (decide_eq_false (by omega)) ?_
                subst hK164
                refine W.exit rfl ?_
                exact ⟨q156, q157, ds161, Option.some.inj hq145, h162, hn163, hE.pick _ ⟨rfl, rfl, rfl, rfl, rfl, rfl, trivial⟩, hS⟩
              · obtain ⟨hlt151, hx152, hd150⟩ := drop_cons hd150
                rw [MendRoom.loop3] at hq145
                refine W.seq ?_
                refine W.region ?_
                refine WL.vS hS hE (runs_plain rfl) (Gives.p hE rfl) rfl ?_; clear hE a; intro a hE
                refine WL.nil ?_
                refine W.seq ?_
                refine W.condT hE rfl (decide_eq_true (by omega)) ?_
                refine W.skip ?_
                refine W.seq ?_
                refine W.block ?_
                refine W.seq ?_
                refine W.region ?_
                obtain ⟨cs165, hl166, hR167, hat168⟩ := h0_1.at hx152
                subst hR167
                refine WL.vS hS hE (runs_plain rfl) (Gives.idx hE k147 rfl rfl sl23 rfl hlt151 (h0_1.aok hlt151)) rfl ?_; clear hE a; intro a hE
                refine WL.vS hS hE (runs_plain rfl) (Gives.loadA hE rfl (fun w h => hat168 w _ h) ty36) rfl ?_; clear hE a; intro a hE
                refine WL.alloc hE hS (runs_plain rfl) zr36 rfl ?_; clear hE hS a w; intro b169 a w hE hS
                refine WL.storeI hE hS 0 rfl (MendLink.cells x148) (runs_plain rfl) rfl rfl rfl ty36 rfl rfl rfl rfl ?_; clear hE hS a w; intro a w hE hS
                refine WL.nil ?_
                refine W.seq ?_
                refine W.seq ?_
                refine W.regionQ (C := fun w => St w s84 (pt b169 (.cells (MendLink.cells x148).toArray 36 (0, 0)) :: nestC 22 3 1 (some ⟨b57, 0, none⟩) x55.length x55.length ds161 :: pt b51 (.cells #[.int .i64 x0.Period, .slice a0_0 x0.Plan.length c0_0, .slice a0_1 x0.Links.length c0_1] 25 (0, 0)) :: R)) mixed (by kernel_rfl) hS.drew ?_
                refine QL.v hE (runs_plain rfl) (Gives.p hE rfl) rfl ?_; clear hE a; intro a hE
                refine QL.v hE (runs_plain rfl) (Gives.p hE rfl) rfl ?_; clear hE a; intro a hE
                obtain ⟨x170, hx171, hq145⟩ := bindS hq145
                obtain ⟨hi172, hlt173, hy174⟩ := gx_some hx171
                obtain ⟨a175, c176, cs177, hd178, hev179⟩ := h162.at hy174
                refine QL.v hE (runs_plain rfl) (Gives.idx hE ((((k63 : Nat) : Int)).toNat) rfl rfl sl40 hi172 (by have := hn163; omega) (hS.nAok 1 rfl (by have := hn163; omega : (((k63 : Nat) : Int)).toNat < x55.length))) rfl ?_; clear hE a; intro a hE
                refine QL.v hE (runs_plain rfl) (Gives.load1 (v := .slice a175 x170.length c176) hE rfl (fun w h => St.nSees h 1 rfl hd178) ty22) rfl ?_; clear hE a; intro a hE
                refine QL.v hE (runs_plain rfl) (Gives.fld hE rfl fl36_0) rfl ?_; clear hE a; intro a hE
                refine QL.v hE (runs_plain rfl) (Gives.loadB hE 0 rfl rfl rfl ty3) rfl ?_; clear hE a; intro a hE
                obtain ⟨x180, hx181, hq145⟩ := bindS hq145
                obtain ⟨hi182, hlt183, hy184⟩ := gx_some hx181
                obtain ⟨vs185, hl186, hR187, hd188, hget189⟩ := hev179.at hy184
                subst hR187
                refine QL.v hE (runs_plain rfl) (Gives.idx hE ((x148.From).toNat) rfl rfl sl22 hi182 hlt183 (hS.nnAok 1 rfl hd178 hlt183)) rfl ?_; clear hE a; intro a hE
                refine QL.v hE (runs_plain rfl) (Gives.load1 hE rfl (fun w h => St.nnSees h 1 rfl hd178 ((x148.From).toNat * 1) _ hget189) ty3) rfl ?_; clear hE a; intro a hE
                refine QL.v hE (runs_plain rfl) (Gives.p hE rfl) rfl ?_; clear hE a; intro a hE
                refine QL.nil ?_; clear hS w; intro w hS
                refine W.cond hE rfl (fun hc190 => ?_) (fun hc190 => ?_)
                · replace hq145 := iteT hc190 hq145
                  refine W.exit rfl ?_
                  refine W.region ?_
                  refine WL.vS hS hE (runs_plain rfl) (Gives.inc hE rfl (by have := h0_1.small; omega)) rfl ?_; clear hE a; intro a hE
                  refine WL.vS hS hE (runs_plain rfl) (Gives.p hE rfl) rfl ?_; clear hE a; intro a hE
                  refine WL.nil ?_
                  replace hS := hS.tail
                  subst hK164
                  exact ⟨rest149.length, Nat.lt_succ_self _, rest149, k147 + 1, q156, q157, ds161, rfl, hd150, hq145, h162, hn163, hE.pick _ ⟨rfl, rfl, rfl, rfl, rfl, rfl, rfl, rfl, rfl, trivial⟩, hS⟩
                · replace hq145 := iteF hc190 hq145
                  refine W.skip ?_
                  refine W.seq ?_
                  refine W.regionQ (C := fun w => St w s84 (pt b169 (.cells (MendLink.cells x148).toArray 36 (0, 0)) :: nestC 22 3 1 (some ⟨b57, 0, none⟩) x55.length x55.length ds161 :: pt b51 (.cells #[.int .i64 x0.Period, .slice a0_0 x0.Plan.length c0_0, .slice a0_1 x0.Links.length c0_1] 25 (0, 0)) :: R)) mixed (by kernel_rfl) hS.drew ?_
                  refine QL.v hE (runs_plain rfl) (Gives.p hE rfl) rfl ?_; clear hE a; intro a hE
                  refine QL.v hE (runs_plain rfl) (Gives.p hE rfl) rfl ?_; clear hE a; intro a hE
                  obtain ⟨x191, hx192, hq145⟩ := bindS hq145
                  obtain ⟨hi193, hlt194, hy195⟩ := gx_some hx192
                  obtain ⟨a196, c197, cs198, hd199, hev200⟩ := h162.at hy195
                  refine QL.v hE (runs_plain rfl) (Gives.idx hE ((((k63 : Nat) : Int)).toNat) rfl rfl sl40 hi193 (by have := hn163; omega) (hS.nAok 1 rfl (by have := hn163; omega : (((k63 : Nat) : Int)).toNat < x55.length))) rfl ?_; clear hE a; intro a hE
                  refine QL.v hE (runs_plain rfl) (Gives.load1 (v := .slice a196 x191.length c197) hE rfl (fun w h => St.nSees h 1 rfl hd199) ty22) rfl ?_; clear hE a; intro a hE
                  refine QL.v hE (runs_plain rfl) (Gives.fld hE rfl fl36_0) rfl ?_; clear hE a; intro a hE
                  refine QL.v hE (runs_plain rfl) (Gives.loadB hE 0 rfl rfl rfl ty3) rfl ?_; clear hE a; intro a hE
                  obtain ⟨x201, hx202, hq145⟩ := bindS hq145
                  obtain ⟨hi203, hlt204, hy205⟩ := gx_some hx202
                  obtain ⟨vs206, hl207, hR208, hd209, hget210⟩ := hev200.at hy205
                  subst hR208
                  refine QL.v hE (runs_plain rfl) (Gives.idx hE ((x148.From).toNat) rfl rfl sl22 hi203 hlt204 (hS.nnAok 1 rfl hd199 hlt204)) rfl ?_; clear hE a; intro a hE
                  refine QL.v hE (runs_plain rfl) (Gives.load1 hE rfl (fun w h => St.nnSees h 1 rfl hd199 ((x148.From).toNat * 1) _ hget210) ty3) rfl ?_; clear hE a; intro a hE
                  refine QL.v hE (runs_plain rfl) (Gives.loadBA hE 2 rfl rfl ty25) rfl ?_; clear hE a; intro a hE
                  refine QL.v hE (runs_plain rfl) (Gives.loadBA hE 0 rfl rfl ty36) rfl ?_; clear hE a; intro a hE
                  obtain ⟨q211, hq212, hq145⟩ := bindS hq145
                  refine QL.fnq hE (fun w hS => MendRoundslack_ok hS h0_0 h0_1 hq212) (runs_plain rfl) bd55 rfl rfl rfl ?_; clear hE a; intro a hE
                  refine QL.v hE (runs_plain rfl) (Gives.p hE rfl) rfl ?_; clear hE a; intro a hE
                  refine QL.v hE (runs_plain rfl) (Gives.p hE rfl) rfl ?_; clear hE a; intro a hE
                  refine QL.nil ?_; clear hS w; intro w hS
                  refine W.seq ?_
                  obtain ⟨q214, hq213, hq145⟩ := bindS hq145
                  refine W.cut (fun a w => ∃ (q217 : Bool), q217 = q214 ∧ Rep a 100 [(1, .pointer (some ⟨b51, 0, none⟩)), (5, .slice (some ⟨b57, 0, none⟩) x55.length x55.length), (6, .int .i64 ((k63 : Nat) : Int)), (7, .bool q156), (9, .pointer (some ⟨b169, 0, none⟩)), (10, .int .i64 (w64 (x201 + q211))), (21, .int .i64 ((x55.length : Nat) : Int)), (22, .int .i64 ((k63 : Nat) : Int)), (41, .slice a0_1 x0.Links.length c0_1), (42, .int .i64 ((x0.Links).length : Int)), (43, .int .i64 ((k147 : Nat) : Int)), (88, .bool q217)] ∧ St w s84 (pt b169 (.cells (MendLink.cells x148).toArray 36 (0, 0)) :: nestC 22 3 1 (some ⟨b57, 0, none⟩) x55.length x55.length ds161 :: pt b51 (.cells #[.int .i64 x0.Period, .slice a0_0 x0.Plan.length c0_0, .slice a0_1 x0.Links.length c0_1] 25 (0, 0)) :: R)) ?_ ?_
                  · refine W.gen fun K218 hK218 => ?_
                    refine W.regionQ (C := fun w => St w s84 (pt b169 (.cells (MendLink.cells x148).toArray 36 (0, 0)) :: nestC 22 3 1 (some ⟨b57, 0, none⟩) x55.length x55.length ds161 :: pt b51 (.cells #[.int .i64 x0.Period, .slice a0_0 x0.Plan.length c0_0, .slice a0_1 x0.Links.length c0_1] 25 (0, 0)) :: R)) mixed (by kernel_rfl) hS.drew ?_
                    refine QL.v hE (runs_plain rfl) (Gives.p hE rfl) rfl ?_; clear hE a; intro a hE
                    refine QL.v hE (runs_plain rfl) (Gives.p hE rfl) rfl ?_; clear hE a; intro a hE
                    obtain ⟨x219, hx220, hq213⟩ := bindS hq213
                    obtain ⟨hi221, hlt222, hy223⟩ := gx_some hx220
                    obtain ⟨a224, c225, cs226, hd227, hev228⟩ := h162.at hy223
                    refine QL.v hE (runs_plain rfl) (Gives.idx hE ((((k63 : Nat) : Int)).toNat) rfl rfl sl40 hi221 (by have := hn163; omega) (hS.nAok 1 rfl (by have := hn163; omega : (((k63 : Nat) : Int)).toNat < x55.length))) rfl ?_; clear hE a; intro a hE
                    refine QL.v hE (runs_plain rfl) (Gives.load1 (v := .slice a224 x219.length c225) hE rfl (fun w h => St.nSees h 1 rfl hd227) ty22) rfl ?_; clear hE a; intro a hE
                    refine QL.v hE (runs_plain rfl) (Gives.fld hE rfl fl36_1) rfl ?_; clear hE a; intro a hE
                    refine QL.v hE (runs_plain rfl) (Gives.loadB hE 0 rfl rfl rfl ty3) rfl ?_; clear hE a; intro a hE
                    obtain ⟨x229, hx230, hq213⟩ := bindS hq213
                    obtain ⟨hi231, hlt232, hy233⟩ := gx_some hx230
                    obtain ⟨vs234, hl235, hR236, hd237, hget238⟩ := hev228.at hy233
                    subst hR236
                    refine QL.v hE (runs_plain rfl) (Gives.idx hE ((x148.To).toNat) rfl rfl sl22 hi231 hlt232 (hS.nnAok 1 rfl hd227 hlt232)) rfl ?_; clear hE a; intro a hE
                    refine QL.v hE (runs_plain rfl) (Gives.load1 hE rfl (fun w h => St.nnSees h 1 rfl hd227 ((x148.To).toNat * 1) _ hget238) ty3) rfl ?_; clear hE a; intro a hE
                    refine QL.v hE (runs_plain rfl) (Gives.p hE rfl) rfl ?_; clear hE a; intro a hE
                    refine QL.v hE (runs_plain rfl) (Gives.p hE rfl) rfl ?_; clear hE a; intro a hE
                    rcases Bool.eq_false_or_eq_true (decide (x229 < 0)) with hg239 | hg239
                    · replace hq213 := iteT hg239 hq213
                      refine QL.no hE (runs_not hE rfl rfl rfl (by rw [hg239]; decide)) rfl ?_; clear hE a; intro a hE
                      refine QL.no hE (runs_not hE rfl rfl rfl (by rw [hg239]; decide)) rfl ?_; clear hE a; intro a hE
                      refine QL.no hE (runs_not hE rfl rfl rfl (by rw [hg239]; decide)) rfl ?_; clear hE a; intro a hE
                      refine QL.no hE (runs_not hE rfl rfl rfl (by rw [hg239]; decide)) rfl ?_; clear hE a; intro a hE
                      refine QL.no hE (runs_not hE rfl rfl rfl (by rw [hg239]; decide)) rfl ?_; clear hE a; intro a hE
                      refine QL.no hE (runs_not hE rfl rfl rfl (by rw [hg239]; decide)) rfl ?_; clear hE a; intro a hE
                      refine QL.no hE (runs_not hE rfl rfl rfl (by rw [hg239]; decide)) rfl ?_; clear hE a; intro a hE
                      refine QL.no hE (runs_not hE rfl rfl rfl (by rw [hg239]; decide)) rfl ?_; clear hE a; intro a hE
                      refine QL.no hE (runs_not hE rfl rfl rfl (by rw [hg239]; decide)) rfl ?_; clear hE a; intro a hE
                      refine QL.no hE (runs_not hE rfl rfl rfl (by rw [hg239]; decide)) rfl ?_; clear hE a; intro a hE
                      refine QL.v hE (runs_plain rfl) (Gives.pickT hE rfl hg239 rfl) rfl ?_; clear hE a; intro a hE
                      refine QL.nil ?_; clear hS w; intro w hS
                      subst hK218
                      exact ⟨true, Option.some.inj hq213, hE.pick _ ⟨rfl, rfl, rfl, rfl, rfl, rfl, rfl, rfl, rfl, rfl, rfl, rfl, trivial⟩, hS⟩
                    · replace hq213 := iteF hg239 hq213
                      refine QL.v hE (runs_if hE rfl rfl rfl hg239) (Gives.p hE rfl) rfl ?_; clear hE a; intro a hE
                      refine QL.v hE (runs_if hE rfl rfl rfl hg239) (Gives.p hE rfl) rfl ?_; clear hE a; intro a hE
                      refine QL.v hE (runs_if hE rfl rfl rfl hg239) (Gives.p hE rfl) rfl ?_; clear hE a; intro a hE
                      obtain ⟨x240, hx241, hq213⟩ := bindS hq213
                      obtain ⟨hi242, hlt243, hy244⟩ := gx_some hx241
                      obtain ⟨a245, c246, cs247, hd248, hev249⟩ := h162.at hy244
                      refine QL.v hE (runs_if hE rfl rfl rfl hg239) (Gives.idx hE ((((k63 : Nat) : Int)).toNat) rfl rfl sl40 hi242 (by have := hn163; omega) (hS.nAok 1 rfl (by have := hn163; omega : (((k63 : Nat) : Int)).toNat < x55.length))) rfl ?_; clear hE a; intro a hE
                      refine QL.v hE (runs_if hE rfl rfl rfl hg239) (Gives.load1 (v := .slice a245 x240.length c246) hE rfl (fun w h => St.nSees h 1 rfl hd248) ty22) rfl ?_; clear hE a; intro a hE
                      refine QL.v hE (runs_if hE rfl rfl rfl hg239) (Gives.fld hE rfl fl36_1) rfl ?_; clear hE a; intro a hE
                      refine QL.v hE (runs_if hE rfl rfl rfl hg239) (Gives.loadB hE 0 rfl rfl rfl ty3) rfl ?_; clear hE a; intro a hE
                      obtain ⟨x250, hx251, hq213⟩ := bindS hq213
                      obtain ⟨hi252, hlt253, hy254⟩ := gx_some hx251
                      obtain ⟨vs255, hl256, hR257, hd258, hget259⟩ := hev249.at hy254
                      subst hR257
                      refine QL.v hE (runs_if hE rfl rfl rfl hg239) (Gives.idx hE ((x148.To).toNat) rfl rfl sl22 hi252 hlt253 (hS.nnAok 1 rfl hd248 hlt253)) rfl ?_; clear hE a; intro a hE
                      refine QL.v hE (runs_if hE rfl rfl rfl hg239) (Gives.load1 hE rfl (fun w h => St.nnSees h 1 rfl hd248 ((x148.To).toNat * 1) _ hget259) ty3) rfl ?_; clear hE a; intro a hE
                      refine QL.v hE (runs_if hE rfl rfl rfl hg239) (Gives.p hE rfl) rfl ?_; clear hE a; intro a hE
                      refine QL.v hE (runs_plain rfl) (Gives.pickF hE rfl hg239 rfl) rfl ?_; clear hE a; intro a hE
                      refine QL.nil ?_; clear hS w; intro w hS
                      subst hK218
                      exact ⟨decide ((w64 (x201 + q211)) < x250), Option.some.inj hq213, hE.pick _ ⟨rfl, rfl, rfl, rfl, rfl, rfl, rfl, rfl, rfl, rfl, rfl, rfl, trivial⟩, hS⟩
                  · clear hE hS a w; rintro a w ⟨q217, rfl, hE, hS⟩
                    obtain ⟨q261, hq260, hq145⟩ := bindS hq145
                    refine W.cut (fun a w => ∃ (q264 : Bool), ∃ (q265 : List (List Int)), ∃ (ds269 : List In), (q264, q265) = q261 ∧ NEv 1 (RI .i64) s84 ds269 q265 ∧ q265.length = x55.length ∧ Rep a 100 [(1, .pointer (some ⟨b51, 0, none⟩)), (5, .slice (some ⟨b57, 0, none⟩) x55.length x55.length), (6, .int .i64 ((k63 : Nat) : Int)), (7, .bool q264), (21, .int .i64 ((x55.length : Nat) : Int)), (22, .int .i64 ((k63 : Nat) : Int)), (41, .slice a0_1 x0.Links.length c0_1), (42, .int .i64 ((x0.Links).length : Int)), (43, .int .i64 ((k147 : Nat) : Int))] ∧ St w s84 (pt b169 (.cells (MendLink.cells x148).toArray 36 (0, 0)) :: nestC 22 3 1 (some ⟨b57, 0, none⟩) x55.length x55.length ds269 :: pt b51 (.cells #[.int .i64 x0.Period, .slice a0_0 x0.Plan.length c0_0, .slice a0_1 x0.Links.length c0_1] 25 (0, 0)) :: R)) ?_ ?_
                    · refine W.gen fun K272 hK272 => ?_
                      refine W.cond hE rfl (fun hc273 => ?_) (fun hc273 => ?_)
                      · replace hq260 := iteT hc273 hq260
                        refine W.gen fun K274 hK274 => ?_
                        refine W.regionE (sel (fun w => St w s84 (pt b169 (.cells (MendLink.cells x148).toArray 36 (0, 0)) :: nestC 22 3 1 (some ⟨b57, 0, none⟩) x55.length x55.length ds161 :: pt b51 (.cells #[.int .i64 x0.Period, .slice a0_0 x0.Plan.length c0_0, .slice a0_1 x0.Links.length c0_1] 25 (0, 0)) :: R)) (fun w => St w s84 (pt b169 (.cells (MendLink.cells x148).toArray 36 (0, 0)) :: pt b51 (.cells #[.int .i64 x0.Period, .slice a0_0 x0.Plan.length c0_0, .slice a0_1 x0.Links.length c0_1] 25 (0, 0)) :: R))) (fun b i => cond b ([0, 1, 2, 3, 4, 5, 6, 9].contains i) ([0, 1, 2, 3, 4, 5, 6, 7, 8, 9].contains i)) mixed ?_
                        replace hS := hS.drew
                        refine Rg.takeP (i := 0) hE rfl (by kernel_rfl) (runs_plain rfl) (Gives.p hE rfl) rfl (tw_sel (fun _ => hS) (fun _ => (hS.dropAt 1))) ?_; clear hE a; intro a hE
                        refine Rg.takeP (i := 1) hE rfl (by kernel_rfl) (runs_plain rfl) (Gives.p hE rfl) rfl (tw_sel (fun _ => hS) (fun _ => (hS.dropAt 1))) ?_; clear hE a; intro a hE
                        obtain ⟨x275, hx276, hq260⟩ := bindS hq260
                        obtain ⟨hi277, hlt278, hy279⟩ := gx_some hx276
                        obtain ⟨a280, c281, cs282, hd283, hev284⟩ := h162.at hy279
                        refine Rg.takeP (i := 2) hE rfl (by kernel_rfl) (runs_plain rfl) (Gives.idx hE ((((k63 : Nat) : Int)).toNat) rfl rfl sl40 hi277 (by have := hn163; omega) (hS.nAok 1 rfl (by have := hn163; omega : (((k63 : Nat) : Int)).toNat < x55.length))) rfl (tw_sel (fun _ => hS) (fun _ => (hS.dropAt 1))) ?_; clear hE a; intro a hE
                        have hT := tw_sel (A := fun w => St w s84 (pt b169 (.cells (MendLink.cells x148).toArray 36 (0, 0)) :: nestC 22 3 1 (some ⟨b57, 0, none⟩) x55.length x55.length ds161 :: pt b51 (.cells #[.int .i64 x0.Period, .slice a0_0 x0.Plan.length c0_0, .slice a0_1 x0.Links.length c0_1] 25 (0, 0)) :: R)) (B := fun w => St w s84 (pt b169 (.cells (MendLink.cells x148).toArray 36 (0, 0)) :: pt b51 (.cells #[.int .i64 x0.Period, .slice a0_0 x0.Plan.length c0_0, .slice a0_1 x0.Links.length c0_1] 25 (0, 0)) :: R)) (w := _) (x := true) (y := true) (fun _ => hS) (fun _ => (hS.dropAt 1))
                        have hF := hS; replace hS := hS
                        refine Rg.take (i := 3) true rfl hE rfl (by kernel_rfl) (runs_plain rfl) (Gives.load1 (v := .slice a280 x275.length c281) hE rfl (fun w h => St.nSees h 1 rfl hd283) ty22) rfl hT ?_; clear hE a; intro a hE
                        replace hS := hF; clear hF hT
                        refine Rg.takeP (i := 4) hE rfl (by kernel_rfl) (runs_plain rfl) (Gives.fld hE rfl fl36_1) rfl (tw_sel (fun _ => hS) (fun _ => (hS.dropAt 1))) ?_; clear hE a; intro a hE
                        have hT := tw_sel (A := fun w => St w s84 (pt b169 (.cells (MendLink.cells x148).toArray 36 (0, 0)) :: nestC 22 3 1 (some ⟨b57, 0, none⟩) x55.length x55.length ds161 :: pt b51 (.cells #[.int .i64 x0.Period, .slice a0_0 x0.Plan.length c0_0, .slice a0_1 x0.Links.length c0_1] 25 (0, 0)) :: R)) (B := fun w => St w s84 (pt b169 (.cells (MendLink.cells x148).toArray 36 (0, 0)) :: pt b51 (.cells #[.int .i64 x0.Period, .slice a0_0 x0.Plan.length c0_0, .slice a0_1 x0.Links.length c0_1] 25 (0, 0)) :: R)) (w := _) (x := true) (y := true) (fun _ => hS) (fun _ => (hS.dropAt 1))
                        have hF := hS; replace hS := hS
                        refine Rg.take (i := 5) true rfl hE rfl (by kernel_rfl) (runs_plain rfl) (Gives.loadB hE 0 rfl rfl rfl ty3) rfl hT ?_; clear hE a; intro a hE
                        replace hS := hF; clear hF hT
                        refine Rg.takeP (i := 6) hE rfl (by kernel_rfl) (runs_plain rfl) (Gives.p hE rfl) rfl (tw_sel (fun _ => hS) (fun _ => (hS.dropAt 1))) ?_; clear hE a; intro a hE
                        refine Rg.one (i := 7) false true rfl (by kernel_rfl) (by kernel_rfl) (by kernel_rfl) ?_
                        replace hS := hS.borrowM 1 rfl hd283
                        obtain ⟨_, hx287, hq260⟩ := bindS hq260
                        obtain ⟨h288, h289⟩ := ix_some hx287
                        refine WL.vS hS hE (runs_plain rfl) (Gives.idx hE ((x148.To).toNat) rfl rfl sl22 h288 (by omega) (hS.vecAok 0 rfl (by omega : (x148.To).toNat < x275.length))) rfl ?_; clear hE a; intro a hE
                        refine WL.nil ?_
                        refine ⟨⟨fun h => absurd h (by decide), fun _ => ((hS.tail).dropAt 1)⟩, ?_⟩
                        refine Rg.one (i := 8) false true rfl (by kernel_rfl) (by kernel_rfl) (by kernel_rfl) ?_
                        obtain ⟨x291, hx292, hq260⟩ := bindS hq260
                        refine WL.setD hE hS 0 rfl (runs_plain rfl) rfl rfl (vs := [.int .i64 (w64 (x201 + q211))]) rfl ty3 rfl rfl rfl hev284 (rfl) (sx_some hx292).1 hx292 rfl rfl ?_; clear hE hS a w; intro cs293 a w h294 hn295 hE hS
                        refine WL.nil ?_
                        refine ⟨⟨fun h => absurd h (by decide), fun _ => ((hS.tail).dropAt 1)⟩, ?_⟩
                        refine Rg.takeP (i := 9) hE rfl (by kernel_rfl) (runs_plain rfl) (Gives.p hE rfl) rfl (tw_sel (fun h => absurd h (by decide)) (fun _ => ((hS.tail).dropAt 1))) ?_; clear hE a; intro a hE
                        refine Rg.done (by kernel_rfl) ?_
                        subst hK274
                        replace hS := hS.giveBack 1 rfl hd283
                        have h297 := h162.set (k := (((k63 : Nat) : Int)).toNat) (d := ⟨a280, c281, x275.length, cs293⟩) h294 hn295
                        have hn298 : (q157.set ((((k63 : Nat) : Int)).toNat) x291).length = x55.length := by simp; exact hn163
                        generalize List.set ds161 ((((k63 : Nat) : Int)).toNat) _ = ds296 at hS h297
                        subst hK272
                        exact ⟨true, (q157.set ((((k63 : Nat) : Int)).toNat) x291), ds296, Option.some.inj hq260, h297, hn298, hE.pick _ ⟨rfl, rfl, rfl, rfl, rfl, rfl, rfl, rfl, rfl, trivial⟩, hS⟩
                      · replace hq260 := iteF hc273 hq260
                        refine W.skip ?_
                        subst hK272
                        exact ⟨q156, q157, ds161, Option.some.inj hq260, h162, hn163, hE.pick _ ⟨rfl, rfl, rfl, rfl, rfl, rfl, rfl, rfl, rfl, trivial⟩, hS⟩
                    · clear hE hS a w; rintro a w ⟨q264, q265, ds269, rfl, h270, hn271, hE, hS⟩
                      dsimp only at hq145
                      refine W.region ?_
                      refine WL.vS hS hE (runs_plain rfl) (Gives.inc hE rfl (by have := h0_1.small; omega)) rfl ?_; clear hE a; intro a hE
                      refine WL.vS hS hE (runs_plain rfl) (Gives.p hE rfl) rfl ?_; clear hE a; intro a hE
                      refine WL.nil ?_
                      replace hS := hS.tail
                      subst hK164
                      exact ⟨rest149.length, Nat.lt_succ_self _, rest149, k147 + 1, q264, q265, ds269, rfl, hd150, hq145, h270, hn271, hE.pick _ ⟨rfl, rfl, rfl, rfl, rfl, rfl, rfl, rfl, rfl, trivial⟩, hS⟩
            · clear hE hS a w; rintro a w ⟨q156, q157, ds161, rfl, h162, hn163, hE, hS⟩
              dsimp only at hq129
              subst hK143
              exact ⟨n131, Nat.lt_succ_self _, n131, q156, q157, ds161, rfl, hq129, h162, hn163, hE.pick _ ⟨rfl, rfl, rfl, rfl, rfl, rfl, trivial⟩, hS⟩
          · replace hq129 := iteF hc144 hq129
            subst hK143
            refine W.exit rfl ?_
            exact ⟨q135, q136, ds140, Option.some.inj hq129, h141, hn142, hE.pick _ ⟨rfl, rfl, rfl, rfl, trivial⟩, hS⟩
        · clear hE hS a w; rintro a w ⟨q135, q136, ds140, rfl, h141, hn142, hE, hS⟩
          dsimp only at hq61
          refine W.region ?_
          refine WL.vS hS hE (runs_plain rfl) (Gives.inc hE rfl (by omega)) rfl ?_; clear hE a; intro a hE
          refine WL.vS hS hE (runs_plain rfl) (Gives.p hE rfl) rfl ?_; clear hE a; intro a hE
          refine WL.nil ?_
          subst hK80
          exact ⟨rest65, Nat.lt_succ_self _, rest65, k63 + 1, q136, ds140, s84, rfl, (by omega), (Sg.Le.trans hle71 hle85), hq61, h141, hn142, hE.pick _ ⟨rfl, rfl, rfl, rfl, trivial⟩, hS⟩
    · clear hE hS a w; rintro a w ⟨q73, ds77, s70, hle71, rfl, h78, hn79, hE, hS⟩
      replace h0_0 := Sl.mono RI.mono hle71 h0_0
      replace h0_1 := Sl.mono RMendLink.mono hle71 h0_1
      replace h59 := NEv.mono RI.mono hle71 h59
      refine W.seq ?_
      refine W.region ?_
      refine WL.vS hS hE (runs_plain rfl) (Gives.p hE rfl) rfl ?_; clear hE a; intro a hE
      refine WL.vS hS hE (runs_plain rfl) (Gives.p hE rfl) rfl ?_; clear hE a; intro a hE
      refine WL.vS hS hE (runs_plain rfl) (Gives.p hE rfl) rfl ?_; clear hE a; intro a hE
      refine WL.nil ?_
      refine W.ret ?_
      have hF := hS.fixN RI.mono 0 rfl h78 hn79; clear hS; obtain ⟨s299, hle300, hS, h301⟩ := hF
      (try rw [← hn79] at hE)
      (try rw [← hn79] at hS)
      (try rw [← hn79] at h301)
      replace h0_0 := Sl.mono RI.mono hle300 h0_0
      replace h0_1 := Sl.mono RMendLink.mono hle300 h0_1
      refine finG (fn := Try.f34) (rs := [.tmp 2, .tmp 3]) (vs := [_, _]) hE rfl ⟨rfl, rfl, trivial⟩ ?_
      obtain rfl := Option.some.inj hr
      replace hS := hS.tail
      exact ⟨(some ⟨b57, 0, none⟩), q73.length, s299, rfl, (Sg.Le.trans hle71 hle300), h301, hS⟩
set_option maxHeartbeats 8000000 in
theorem SlicesEqualLint_ok  {w : World} {s : Sg} {R : List HP} {x0 : List Int} {a0 : Option Addr} {c0 : Nat} {x1 : List Int} {a1 : Option Addr} {c1 : Nat} (hS : St w s (R)) (h0 : Sl 1 (RI .i64) s a0 c0 x0) (h1 : Sl 1 (RI .i64) s a1 c1 x1) {r : Bool} (hr : SlicesEqualLint x0 x1 = some r) :
    Calls Try.prog 28 [.slice a0 x0.length c0, .slice a1 x1.length c1].toArray w (fun e w => e = .returned (.bool r) ∧ St w s (R)) := by
  refine enter Try.func28 rfl rfl rfl fun a hE => ?_
  rw [SlicesEqualLint] at hr
  refine W.seq ?_
  refine W.region ?_
  refine WL.vS hS hE (runs_plain rfl) (Gives.p hE rfl) rfl ?_; clear hE a; intro a hE
  refine WL.nil ?_
  refine W.seq ?_
  refine W.seq ?_
  refine W.region ?_
  refine WL.vS hS hE (runs_plain rfl) (Gives.p hE rfl) rfl ?_; clear hE a; intro a hE
  refine WL.vS hS hE (runs_plain rfl) (Gives.len hE rfl sl22) rfl ?_; clear hE a; intro a hE
  refine WL.vS hS hE (runs_plain rfl) (Gives.p hE rfl) rfl ?_; clear hE a; intro a hE
  refine WL.vS hS hE (runs_plain rfl) (Gives.len hE rfl sl22) rfl ?_; clear hE a; intro a hE
  refine WL.vS hS hE (runs_plain rfl) (Gives.p hE rfl) rfl ?_; clear hE a; intro a hE
  refine WL.nil ?_
  refine W.cond hE rfl (fun hc51 => ?_) (fun hc51 => ?_)
  · replace hr := iteT hc51 hr
    refine W.seq ?_
    refine W.region ?_
    refine WL.vS hS hE (runs_plain rfl) (Gives.p hE rfl) rfl ?_; clear hE a; intro a hE
    refine WL.nil ?_
    refine W.ret ?_
    refine finG (fn := Try.f28) (rs := [.tmp 4]) (vs := [_]) hE rfl ⟨rfl, trivial⟩ ?_
    obtain rfl := Option.some.inj hr
    exact ⟨rfl, hS⟩
  · replace hr := iteF hc51 hr
    refine W.skip ?_
    refine W.seq ?_
    refine W.seq ?_
    refine W.region ?_
    refine WL.vS hS hE (runs_plain rfl) (Gives.p hE rfl) rfl ?_; clear hE a; intro a hE
    refine WL.vS hS hE (runs_plain rfl) (Gives.len hE rfl sl22) rfl ?_; clear hE a; intro a hE
    refine WL.vS hS hE (runs_plain rfl) (Gives.p hE rfl) rfl ?_; clear hE a; intro a hE
    refine WL.nil ?_
    obtain ⟨q53, hq52, hr⟩ := bindS hr
    refine W.cut (fun a w => (.next ()) = q53 ∧ Rep a 26 [] ∧ St w s (R)) ?_ ?_
    · refine W.block ?_
      refine W.loop (fun m a w => ∃ (rest56 : List Int) (k54 : Nat), rest56.length = m ∧ x0.drop k54 = rest56 ∧ SlicesEqualLint.loop1 x1 rest56 k54 = some q53 ∧ Rep a 26 [(0, .slice a0 x0.length c0), (1, .slice a1 x1.length c1), (12, .int .i64 ((x0).length : Int)), (13, .int .i64 ((k54 : Nat) : Int))] ∧ St w s (R)) (m := x0.length) ⟨x0, 0, rfl, rfl, hq52, hE.pick _ ⟨rfl, rfl, rfl, rfl, trivial⟩, hS⟩ ?_
      clear hE hS a w hq52; rintro m60 a w ⟨rest56, k54, rfl, hd57, hq52, hE, hS⟩
      refine W.gen fun K63 hK63 => ?_
      rcases rest56 with _ | ⟨x55, rest56⟩
      · have hlt58 := drop_nil hd57
        refine W.seq ?_
        refine W.region ?_
        refine WL.vS hS hE (runs_plain rfl) (Gives.p hE rfl) rfl ?_; clear hE a; intro a hE
        refine WL.nil ?_
        refine W.seq ?_
        refine W.condF hE rfl (decide_eq_false (by omega)) ?_
        subst hK63
        refine W.exit rfl ?_
        exact ⟨Option.some.inj hq52, hE.pick _ trivial, hS⟩
      · obtain ⟨hlt58, hx59, hd57⟩ := drop_cons hd57
        rw [SlicesEqualLint.loop1] at hq52
        refine W.seq ?_
        refine W.region ?_
        refine WL.vS hS hE (runs_plain rfl) (Gives.p hE rfl) rfl ?_; clear hE a; intro a hE
        refine WL.nil ?_
        refine W.seq ?_
        refine W.condT hE rfl (decide_eq_true (by omega)) ?_
        refine W.skip ?_
        refine W.seq ?_
        refine W.block ?_
        refine W.seq ?_
        refine W.region ?_
        refine WL.vS hS hE (runs_plain rfl) (Gives.p hE rfl) rfl ?_; clear hE a; intro a hE
        refine WL.vS hS hE (runs_plain rfl) (Gives.p hE rfl) rfl ?_; clear hE a; intro a hE
        refine WL.nil ?_
        refine W.seq ?_
        refine W.regionQ (C := fun w => St w s (R)) mixed (by kernel_rfl) hS.drew ?_
        refine QL.v hE (runs_plain rfl) (Gives.p hE rfl) rfl ?_; clear hE a; intro a hE
        refine QL.v hE (runs_plain rfl) (Gives.p hE rfl) rfl ?_; clear hE a; intro a hE
        obtain ⟨cs64, hl65, hR66, hat67⟩ := h0.at hx59
        subst hR66
        refine QL.v hE (runs_plain rfl) (Gives.idx hE k54 rfl rfl sl22 rfl hlt58 (h0.aok hlt58)) rfl ?_; clear hE a; intro a hE
        refine QL.v hE (runs_plain rfl) (Gives.load1 hE rfl (fun w h => hat67 w _ h) ty3) rfl ?_; clear hE a; intro a hE
        refine QL.v hE (runs_plain rfl) (Gives.p hE rfl) rfl ?_; clear hE a; intro a hE
        refine QL.v hE (runs_plain rfl) (Gives.p hE rfl) rfl ?_; clear hE a; intro a hE
        obtain ⟨x68, hx69, hq52⟩ := bindS hq52
        obtain ⟨hi70, hlt71, hy72⟩ := gx_some hx69
        obtain ⟨cs73, hl74, hR75, hat76⟩ := h1.at hy72
        subst hR75
        refine QL.v hE (runs_plain rfl) (Gives.idx hE (((k54 : Nat) : Int)).toNat rfl rfl sl22 hi70 hlt71 (h1.aok hlt71)) rfl ?_; clear hE a; intro a hE
        refine QL.v hE (runs_plain rfl) (Gives.load1 hE rfl (fun w h => hat76 w _ h) ty3) rfl ?_; clear hE a; intro a hE
        refine QL.v hE (runs_plain rfl) (Gives.p hE rfl) rfl ?_; clear hE a; intro a hE
        refine QL.nil ?_; clear hS w; intro w hS
        refine W.cond hE rfl (fun hc77 => ?_) (fun hc77 => ?_)
        · replace hq52 := iteT hc77 hq52
          refine W.seq ?_
          refine W.region ?_
          refine WL.vS hS hE (runs_plain rfl) (Gives.p hE rfl) rfl ?_; clear hE a; intro a hE
          refine WL.nil ?_
          refine W.ret ?_
          subst hK63
          rw [← Option.some.inj hq52] at hr
          dsimp only at hr
          refine finG (fn := Try.f28) (rs := [.tmp 4]) (vs := [_]) hE rfl ⟨rfl, trivial⟩ ?_
          obtain rfl := Option.some.inj hr
          exact ⟨rfl, hS⟩
        · replace hq52 := iteF hc77 hq52
          refine W.skip ?_
          refine W.region ?_
          refine WL.vS hS hE (runs_plain rfl) (Gives.inc hE rfl (by have := h0.small; omega)) rfl ?_; clear hE a; intro a hE
          refine WL.vS hS hE (runs_plain rfl) (Gives.p hE rfl) rfl ?_; clear hE a; intro a hE
          refine WL.nil ?_
          subst hK63
          exact ⟨rest56.length, Nat.lt_succ_self _, rest56, k54 + 1, rfl, hd57, hq52, hE.pick _ ⟨rfl, rfl, rfl, rfl, trivial⟩, hS⟩
    · clear hE hS a w; rintro a w ⟨rfl, hE, hS⟩
      dsimp only at hr
      refine W.seq ?_
      refine W.region ?_
      refine WL.vS hS hE (runs_plain rfl) (Gives.p hE rfl) rfl ?_; clear hE a; intro a hE
      refine WL.nil ?_
      refine W.ret ?_
      refine finG (fn := Try.f28) (rs := [.tmp 4]) (vs := [_]) hE rfl ⟨rfl, trivial⟩ ?_
      obtain rfl := Option.some.inj hr
      exact ⟨rfl, hS⟩
set_option maxHeartbeats 8000000 in
theorem SlicesEqualFuncLLint_v1_ok  {w : World} {s : Sg} {R : List HP} {x0 : List (List Int)} {a0 : Option Addr} {c0 : Nat} {x1 : List (List Int)} {a1 : Option Addr} {c1 : Nat} (hS : St w s (R)) (h0 : Sl 1 (RL 1 (RI .i64)) s a0 c0 x0) (h1 : Sl 1 (RL 1 (RI .i64)) s a1 c1 x1) {r : Bool} (hr : SlicesEqualFuncLLint_v1 x0 x1 = some r) :
    Calls Try.prog 61 [.slice a0 x0.length c0, .slice a1 x1.length c1, .func (.func 28) #[] #[]].toArray w (fun e w => e = .returned (.bool r) ∧ St w s (R)) := by
  refine enter Try.func61 rfl rfl rfl fun a hE => ?_
  rw [SlicesEqualFuncLLint_v1] at hr
  refine W.seq ?_
  refine W.region ?_
  refine WL.vS hS hE (runs_plain rfl) (Gives.p hE rfl) rfl ?_; clear hE a; intro a hE
  refine WL.nil ?_
  refine W.seq ?_
  refine W.seq ?_
  refine W.region ?_
  refine WL.vS hS hE (runs_plain rfl) (Gives.p hE rfl) rfl ?_; clear hE a; intro a hE
  refine WL.vS hS hE (runs_plain rfl) (Gives.len hE rfl sl40) rfl ?_; clear hE a; intro a hE
  refine WL.vS hS hE (runs_plain rfl) (Gives.p hE rfl) rfl ?_; clear hE a; intro a hE
  refine WL.vS hS hE (runs_plain rfl) (Gives.len hE rfl sl40) rfl ?_; clear hE a; intro a hE
  refine WL.vS hS hE (runs_plain rfl) (Gives.p hE rfl) rfl ?_; clear hE a; intro a hE
  refine WL.nil ?_
  refine W.cond hE rfl (fun hc51 => ?_) (fun hc51 => ?_)
  · replace hr := iteT hc51 hr
    refine W.seq ?_
    refine W.region ?_
    refine WL.vS hS hE (runs_plain rfl) (Gives.p hE rfl) rfl ?_; clear hE a; intro a hE
    refine WL.nil ?_
    refine W.ret ?_
    refine finG (fn := Try.f61) (rs := [.tmp 6]) (vs := [_]) hE rfl ⟨rfl, trivial⟩ ?_
    obtain rfl := Option.some.inj hr
    exact ⟨rfl, hS⟩
  · replace hr := iteF hc51 hr
    refine W.skip ?_
    refine W.seq ?_
    refine W.seq ?_
    refine W.region ?_
    refine WL.vS hS hE (runs_plain rfl) (Gives.p hE rfl) rfl ?_; clear hE a; intro a hE
    refine WL.vS hS hE (runs_plain rfl) (Gives.len hE rfl sl40) rfl ?_; clear hE a; intro a hE
    refine WL.vS hS hE (runs_plain rfl) (Gives.p hE rfl) rfl ?_; clear hE a; intro a hE
    refine WL.nil ?_
    obtain ⟨q53, hq52, hr⟩ := bindS hr
    refine W.cut (fun a w => (.next ()) = q53 ∧ Rep a 32 [] ∧ St w s (R)) ?_ ?_
    · refine W.block ?_
      refine W.loop (fun m a w => ∃ (rest56 : List (List Int)) (k54 : Nat), rest56.length = m ∧ x0.drop k54 = rest56 ∧ SlicesEqualFuncLLint_v1.loop1 x1 rest56 k54 = some q53 ∧ Rep a 32 [(1, .slice a1 x1.length c1), (2, .func (.func 28) #[] #[]), (15, .slice a0 x0.length c0), (16, .int .i64 ((x0).length : Int)), (17, .int .i64 ((k54 : Nat) : Int))] ∧ St w s (R)) (m := x0.length) ⟨x0, 0, rfl, rfl, hq52, hE.pick _ ⟨rfl, rfl, rfl, rfl, rfl, trivial⟩, hS⟩ ?_
      clear hE hS a w hq52; rintro m60 a w ⟨rest56, k54, rfl, hd57, hq52, hE, hS⟩
      refine W.gen fun K63 hK63 => ?_
      rcases rest56 with _ | ⟨x55, rest56⟩
      · have hlt58 := drop_nil hd57
        refine W.seq ?_
        refine W.region ?_
        refine WL.vS hS hE (runs_plain rfl) (Gives.p hE rfl) rfl ?_; clear hE a; intro a hE
        refine WL.nil ?_
        refine W.seq ?_
        refine W.condF hE rfl (decide_eq_false (by omega)) ?_
        subst hK63
        refine W.exit rfl ?_
        exact ⟨Option.some.inj hq52, hE.pick _ trivial, hS⟩
      · obtain ⟨hlt58, hx59, hd57⟩ := drop_cons hd57
        rw [SlicesEqualFuncLLint_v1.loop1] at hq52
        refine W.seq ?_
        refine W.region ?_
        refine WL.vS hS hE (runs_plain rfl) (Gives.p hE rfl) rfl ?_; clear hE a; intro a hE
        refine WL.nil ?_
        refine W.seq ?_
        refine W.condT hE rfl (decide_eq_true (by omega)) ?_
        refine W.skip ?_
        refine W.seq ?_
        refine W.block ?_
        refine W.seq ?_
        refine W.region ?_
        refine WL.vS hS hE (runs_plain rfl) (Gives.p hE rfl) rfl ?_; clear hE a; intro a hE
        obtain ⟨cs64, hl65, hR66, hat67⟩ := h0.at hx59
        obtain ⟨a68, c69, rfl, h70⟩ := hR66
        refine WL.vS hS hE (runs_plain rfl) (Gives.idx hE k54 rfl rfl sl40 rfl hlt58 (h0.aok hlt58)) rfl ?_; clear hE a; intro a hE
        refine WL.vS hS hE (runs_plain rfl) (Gives.load1 hE rfl (fun w h => hat67 w _ h) ty22) rfl ?_; clear hE a; intro a hE
        refine WL.vS hS hE (runs_plain rfl) (Gives.p hE rfl) rfl ?_; clear hE a; intro a hE
        refine WL.vS hS hE (runs_plain rfl) (Gives.p hE rfl) rfl ?_; clear hE a; intro a hE
        refine WL.nil ?_
        refine W.seq ?_
        refine W.region ?_
        refine WL.vS hS hE (runs_plain rfl) (Gives.p hE rfl) rfl ?_; clear hE a; intro a hE
        refine WL.vS hS hE (runs_plain rfl) (Gives.p hE rfl) rfl ?_; clear hE a; intro a hE
        obtain ⟨x71, hx72, hq52⟩ := bindS hq52
        obtain ⟨hi73, hlt74, hy75⟩ := gx_some hx72
        obtain ⟨cs76, hl77, hR78, hat79⟩ := h1.at hy75
        obtain ⟨a80, c81, rfl, h82⟩ := hR78
        refine WL.vS hS hE (runs_plain rfl) (Gives.idx hE (((k54 : Nat) : Int)).toNat rfl rfl sl40 hi73 hlt74 (h1.aok hlt74)) rfl ?_; clear hE a; intro a hE
        refine WL.vS hS hE (runs_plain rfl) (Gives.load1 hE rfl (fun w h => hat79 w _ h) ty22) rfl ?_; clear hE a; intro a hE
        refine WL.vS hS hE (runs_plain rfl) (Gives.p hE rfl) rfl ?_; clear hE a; intro a hE
        refine WL.nil ?_
        refine W.seq ?_
        refine W.region ?_
        refine WL.vS hS hE (runs_plain rfl) (Gives.p hE rfl) rfl ?_; clear hE a; intro a hE
        refine WL.vS hS hE (runs_plain rfl) (Gives.p hE rfl) rfl ?_; clear hE a; intro a hE
        refine WL.vS hS hE (runs_plain rfl) (Gives.p hE rfl) rfl ?_; clear hE a; intro a hE
        obtain ⟨q83, hq84, hq52⟩ := bindS hq52
        have hc_ := SlicesEqualLint_ok hS h70 h82 hq84
        refine WL.fnw hE (hc_) rfl (runs_plain rfl) bd28 rfl rfl rfl ?_
        clear hE hS hc_; rintro e w ⟨rfl, hS⟩; refine ⟨_, rfl, ?_⟩; clear a; intro a hE
        refine WL.vS hS hE (runs_plain rfl) (Gives.p hE rfl) rfl ?_; clear hE a; intro a hE
        refine WL.nil ?_
        refine W.cond hE rfl (fun hc85 => ?_) (fun hc85 => ?_)
        · replace hq52 := iteT hc85 hq52
          refine W.seq ?_
          refine W.region ?_
          refine WL.vS hS hE (runs_plain rfl) (Gives.p hE rfl) rfl ?_; clear hE a; intro a hE
          refine WL.nil ?_
          refine W.ret ?_
          subst hK63
          rw [← Option.some.inj hq52] at hr
          dsimp only at hr
          refine finG (fn := Try.f61) (rs := [.tmp 6]) (vs := [_]) hE rfl ⟨rfl, trivial⟩ ?_
          obtain rfl := Option.some.inj hr
          exact ⟨rfl, hS⟩
        · replace hq52 := iteF hc85 hq52
          refine W.skip ?_
          refine W.region ?_
          refine WL.vS hS hE (runs_plain rfl) (Gives.inc hE rfl (by have := h0.small; omega)) rfl ?_; clear hE a; intro a hE
          refine WL.vS hS hE (runs_plain rfl) (Gives.p hE rfl) rfl ?_; clear hE a; intro a hE
          refine WL.nil ?_
          subst hK63
          exact ⟨rest56.length, Nat.lt_succ_self _, rest56, k54 + 1, rfl, hd57, hq52, hE.pick _ ⟨rfl, rfl, rfl, rfl, rfl, trivial⟩, hS⟩
    · clear hE hS a w; rintro a w ⟨rfl, hE, hS⟩
      dsimp only at hr
      refine W.seq ?_
      refine W.region ?_
      refine WL.vS hS hE (runs_plain rfl) (Gives.p hE rfl) rfl ?_; clear hE a; intro a hE
      refine WL.nil ?_
      refine W.ret ?_
      refine finG (fn := Try.f61) (rs := [.tmp 6]) (vs := [_]) hE rfl ⟨rfl, trivial⟩ ?_
      obtain rfl := Option.some.inj hr
      exact ⟨rfl, hS⟩
set_option maxHeartbeats 8000000 in
theorem Fishlaw2lists_ok  {w : World} {s : Sg} {R : List HP} {x0 : List (List Int)} {a0 : Option Addr} {c0 : Nat} {x1 : List (List Int)} {a1 : Option Addr} {c1 : Nat} (hS : St w s (R)) (h0 : Sl 1 (RL 1 (RI .i64)) s a0 c0 x0) (h1 : Sl 1 (RL 1 (RI .i64)) s a1 c1 x1) {r : Bool} (hr : Fishlaw2lists x0 x1 = some r) :
    Calls Try.prog 21 [.slice a0 x0.length c0, .slice a1 x1.length c1].toArray w (fun e w => e = .returned (.bool r) ∧ St w s (R)) := by
  refine enter Try.func21 rfl rfl rfl fun a hE => ?_
  rw [Fishlaw2lists] at hr
  refine W.seq ?_
  refine W.region ?_
  refine WL.vS hS hE (runs_plain rfl) (Gives.p hE rfl) rfl ?_; clear hE a; intro a hE
  refine WL.nil ?_
  refine W.seq ?_
  refine W.region ?_
  refine WL.vS hS hE (runs_plain rfl) (Gives.p hE rfl) rfl ?_; clear hE a; intro a hE
  refine WL.vS hS hE (runs_plain rfl) (Gives.p hE rfl) rfl ?_; clear hE a; intro a hE
  obtain ⟨q51, hq52, hr⟩ := bindS hr
  have hc_ := SlicesEqualFuncLLint_v1_ok hS h0 h1 hq52
  refine WL.fnq hE (hc_) (runs_plain rfl) bd61 rfl rfl rfl ?_
  clear hE hS hc_; rintro e w ⟨rfl, hS⟩; refine ⟨_, rfl, ?_⟩; clear a; intro a hE
  refine WL.vS hS hE (runs_plain rfl) (Gives.p hE rfl) rfl ?_; clear hE a; intro a hE
  refine WL.nil ?_
  refine W.ret ?_
  refine finG (fn := Try.f21) (rs := [.tmp 4]) (vs := [_]) hE rfl ⟨rfl, trivial⟩ ?_
  obtain rfl := Option.some.inj hr
  exact ⟨rfl, hS⟩
set_option maxHeartbeats 8000000 in
theorem Fishlaw2rounds_ok {fu : Nat}  {w : World} {s : Sg} {R : List HP}  (hS : St w s (R))  {r : Bool} (hr : Fishlaw2rounds fu = some r) :
    Calls Try.prog 15 [].toArray w (fun e w => e = .returned (.bool r) ∧ St w s (R)) := by
  refine enter Try.func15 rfl rfl rfl fun a hE => ?_
  rw [Fishlaw2rounds] at hr
  refine W.seq ?_
  refine W.region ?_
  refine WL.vS hS hE (runs_plain rfl) (Gives.p hE rfl) rfl ?_; clear hE a; intro a hE
  refine WL.nil ?_
  refine W.seq ?_
  refine W.region ?_
  refine WL.lit hE hS (e := 3) (es := 1) (vs := [(0, .int .i64 0), (1, .int .i64 20)]) (cs := [.int .i64 0, .int .i64 20]) (runs_plain rfl) rfl (by kernel_rfl) rfl ?_; clear hE hS a w; intro b51 a w hE hS
  replace hS := hS.ptVec (es := 1) (m := 2) rfl (by decide)
  have h53 : Ev 1 (RI .i64) s [.int .i64 0, .int .i64 20] [0, 20] := (Ev.cons (c1 := [.int .i64 0]) rfl rfl (Ev.cons (c1 := [.int .i64 20]) rfl rfl (Ev.nil)))
  have hF := hS.fixD RI.mono 0 rfl h53 (rfl); clear hS; obtain ⟨s54, hle55, hS, h56⟩ := hF
  refine WL.vS hS hE (runs_plain rfl) (Gives.build hE (vs := [(0, .int .i64 0), (1, .int .i64 1), (2, .int .i64 15)]) [.int .i64 0, .int .i64 1, .int .i64 15, .int .i64 0] rfl (by kernel_rfl)) rfl ?_; clear hE a; intro a hE
  refine WL.vS hS hE (runs_plain rfl) (Gives.build hE (vs := [(0, .int .i64 1), (1, .int .i64 0), (2, .int .i64 35), (3, .int .i64 1)]) [.int .i64 1, .int .i64 0, .int .i64 35, .int .i64 1] rfl (by kernel_rfl)) rfl ?_; clear hE a; intro a hE
  refine WL.lit hE hS (e := 36) (es := 4) (vs := [(0, .agg [.int .i64 0, .int .i64 1, .int .i64 15, .int .i64 0].toArray), (1, .agg [.int .i64 1, .int .i64 0, .int .i64 35, .int .i64 1].toArray)]) (cs := [.int .i64 0, .int .i64 1, .int .i64 15, .int .i64 0, .int .i64 1, .int .i64 0, .int .i64 35, .int .i64 1]) (runs_plain rfl) rfl (by kernel_rfl) rfl ?_; clear hE hS a w; intro b57 a w hE hS
  replace hS := hS.ptVec (es := 4) (m := 2) rfl (by decide)
  have h59 : Ev 4 RMendLink s54 [.int .i64 0, .int .i64 1, .int .i64 15, .int .i64 0, .int .i64 1, .int .i64 0, .int .i64 35, .int .i64 1] [(MendLink.mk 0 1 15 0), (MendLink.mk 1 0 35 1)] := (Ev.cons (c1 := [.int .i64 0, .int .i64 1, .int .i64 15, .int .i64 0]) rfl rfl (Ev.cons (c1 := [.int .i64 1, .int .i64 0, .int .i64 35, .int .i64 1]) rfl rfl (Ev.nil)))
  have hF := hS.fixD RMendLink.mono 0 rfl h59 (rfl); clear hS; obtain ⟨s60, hle61, hS, h62⟩ := hF
  replace h56 := Sl.mono RI.mono hle61 h56
  refine WL.vS hS hE (runs_plain rfl) (Gives.build hE (vs := [(0, .int .i64 60), (1, .slice (some ⟨b51, 0, none⟩) 2 2), (2, .slice (some ⟨b57, 0, none⟩) 2 2)]) [.int .i64 60, .slice (some ⟨b51, 0, none⟩) 2 2, .slice (some ⟨b57, 0, none⟩) 2 2] rfl (by kernel_rfl)) rfl ?_; clear hE a; intro a hE
  refine WL.alloc hE hS (runs_plain rfl) zr25 rfl ?_; clear hE hS a w; intro b63 a w hE hS
  refine WL.storeI hE hS 0 rfl [.int .i64 60, .slice (some ⟨b51, 0, none⟩) 2 2, .slice (some ⟨b57, 0, none⟩) 2 2] (runs_plain rfl) rfl rfl rfl ty25 rfl rfl rfl rfl ?_; clear hE hS a w; intro a w hE hS
  refine WL.nil ?_
  refine W.seq ?_
  refine W.region ?_
  refine WL.vS hS hE (runs_plain rfl) (Gives.loadBA hE 0 rfl rfl ty25) rfl ?_; clear hE a; intro a hE
  obtain ⟨q64, hq65, hr⟩ := bindS hr
  have hc_ := MendRoom_ok hS h56 h62 hq65
  refine WL.fnq hE (hc_) (runs_plain rfl) bd34 rfl rfl rfl ?_
  clear hE hS hc_; rintro e w ⟨a66, c67, s69, rfl, hle70, h68, hS⟩; refine ⟨_, rfl, ?_⟩; clear a; intro a hE
  replace h56 := Sl.mono RI.mono hle70 h56
  replace h62 := Sl.mono RMendLink.mono hle70 h62
  refine WL.vS hS hE (runs_plain rfl) (Gives.p hE rfl) rfl ?_; clear hE a; intro a hE
  refine WL.vS hS hE (runs_plain rfl) (Gives.p hE rfl) rfl ?_; clear hE a; intro a hE
  refine WL.vS hS hE (runs_plain rfl) (Gives.p hE rfl) rfl ?_; clear hE a; intro a hE
  refine WL.vS hS hE (runs_plain rfl) (Gives.p hE rfl) rfl ?_; clear hE a; intro a hE
  refine WL.vS hS hE (runs_plain rfl) (Gives.p hE rfl) rfl ?_; clear hE a; intro a hE
  refine WL.nil ?_
  refine W.seq ?_
  obtain ⟨q72, hq71, hr⟩ := bindS hr
  refine W.cut (fun a w => ∃ (q75 : Bool), ∃ (s73 : Sg), s69.Le s73 ∧ q75 = q72 ∧ Rep a 23 [(0, .bool q75)] ∧ St w s73 (pt b63 (.cells #[.int .i64 60, .slice (some ⟨b51, 0, none⟩) 2 2, .slice (some ⟨b57, 0, none⟩) 2 2] 25 (0, 0)) :: R)) ?_ ?_
  · refine W.gen fun K76 hK76 => ?_
    refine W.region ?_
    refine WL.vS hS hE (runs_plain rfl) (Gives.p hE rfl) rfl ?_; clear hE a; intro a hE
    refine WL.vS hS hE (runs_plain rfl) (Gives.p hE rfl) rfl ?_; clear hE a; intro a hE
    refine WL.vS hS hE (runs_plain rfl) (Gives.p hE rfl) rfl ?_; clear hE a; intro a hE
    rcases Bool.eq_false_or_eq_true (q64.2 == 0) with hg77 | hg77
    · replace hq71 := iteT hg77 hq71
      refine WL.vS hS hE (runs_if hE rfl rfl rfl hg77) (Gives.p hE rfl) rfl ?_; clear hE a; intro a hE
      refine WL.lit hE hS (e := 3) (es := 1) (vs := [(0, .int .i64 0), (1, .int .i64 5)]) (cs := [.int .i64 0, .int .i64 5]) (runs_if hE rfl rfl rfl hg77) rfl (by kernel_rfl) rfl ?_; clear hE hS a w; intro b78 a w hE hS
      replace hS := hS.ptVec (es := 1) (m := 2) rfl (by decide)
      have h80 : Ev 1 (RI .i64) s69 [.int .i64 0, .int .i64 5] [0, 5] := (Ev.cons (c1 := [.int .i64 0]) rfl rfl (Ev.cons (c1 := [.int .i64 5]) rfl rfl (Ev.nil)))
      have hF := hS.fixD RI.mono 0 rfl h80 (rfl); clear hS; obtain ⟨s81, hle82, hS, h83⟩ := hF
      replace h56 := Sl.mono RI.mono hle82 h56
      replace h62 := Sl.mono RMendLink.mono hle82 h62
      replace h68 := Sl.mono (RL.mono RI.mono) hle82 h68
      refine WL.lit hE hS (e := 3) (es := 1) (vs := [(0, .int .i64 5), (1, .int .i64 0)]) (cs := [.int .i64 5, .int .i64 0]) (runs_if hE rfl rfl rfl hg77) rfl (by kernel_rfl) rfl ?_; clear hE hS a w; intro b84 a w hE hS
      replace hS := hS.ptVec (es := 1) (m := 2) rfl (by decide)
      have h86 : Ev 1 (RI .i64) s81 [.int .i64 5, .int .i64 0] [5, 0] := (Ev.cons (c1 := [.int .i64 5]) rfl rfl (Ev.cons (c1 := [.int .i64 0]) rfl rfl (Ev.nil)))
      have hF := hS.fixD RI.mono 0 rfl h86 (rfl); clear hS; obtain ⟨s87, hle88, hS, h89⟩ := hF
      replace h56 := Sl.mono RI.mono hle88 h56
      replace h62 := Sl.mono RMendLink.mono hle88 h62
      replace h68 := Sl.mono (RL.mono RI.mono) hle88 h68
      replace h83 := Sl.mono RI.mono hle88 h83
      refine WL.lit hE hS (e := 22) (es := 1) (vs := [(0, .slice (some ⟨b78, 0, none⟩) 2 2), (1, .slice (some ⟨b84, 0, none⟩) 2 2)]) (cs := [.slice (some ⟨b78, 0, none⟩) 2 2, .slice (some ⟨b84, 0, none⟩) 2 2]) (runs_if hE rfl rfl rfl hg77) rfl (by kernel_rfl) rfl ?_; clear hE hS a w; intro b90 a w hE hS
      replace hS := hS.ptVec (es := 1) (m := 2) rfl (by decide)
      have h92 : Ev 1 (RL 1 (RI .i64)) s87 [.slice (some ⟨b78, 0, none⟩) 2 2, .slice (some ⟨b84, 0, none⟩) 2 2] [[0, 5], [5, 0]] := (Ev.cons (c1 := [.slice (some ⟨b78, 0, none⟩) 2 2]) ⟨_, _, rfl, h83⟩ rfl (Ev.cons (c1 := [.slice (some ⟨b84, 0, none⟩) 2 2]) ⟨_, _, rfl, h89⟩ rfl (Ev.nil)))
      have hF := hS.fixD (RL.mono RI.mono) 0 rfl h92 (rfl); clear hS; obtain ⟨s93, hle94, hS, h95⟩ := hF
      replace h56 := Sl.mono RI.mono hle94 h56
      replace h62 := Sl.mono RMendLink.mono hle94 h62
      replace h68 := Sl.mono (RL.mono RI.mono) hle94 h68
      replace h83 := Sl.mono RI.mono hle94 h83
      replace h89 := Sl.mono RI.mono hle94 h89
      obtain ⟨q96, hq97, hq71⟩ := bindS hq71
      have hc_ := Fishlaw2lists_ok hS h68 h95 hq97
      refine WL.fnq hE (hc_) (runs_if hE rfl rfl rfl hg77) bd21 rfl rfl rfl ?_
      clear hE hS hc_; rintro e w ⟨rfl, hS⟩; refine ⟨_, rfl, ?_⟩; clear a; intro a hE
      refine WL.vS hS hE (runs_plain rfl) (Gives.pickT hE rfl hg77 rfl) rfl ?_; clear hE a; intro a hE
      refine WL.vS hS hE (runs_plain rfl) (Gives.p hE rfl) rfl ?_; clear hE a; intro a hE
      refine WL.nil ?_
      subst hK76
      exact ⟨q96, s93, (Sg.Le.trans (Sg.Le.trans hle82 hle88) hle94), Option.some.inj hq71, hE.pick _ ⟨rfl, trivial⟩, hS⟩
    · replace hq71 := iteF hg77 hq71
      refine WL.no hE (runs_not hE rfl rfl rfl (by rw [hg77]; decide)) rfl ?_; clear hE a; intro a hE
      refine WL.no hE (runs_not hE rfl rfl rfl (by rw [hg77]; decide)) rfl ?_; clear hE a; intro a hE
      refine WL.no hE (runs_not hE rfl rfl rfl (by rw [hg77]; decide)) rfl ?_; clear hE a; intro a hE
      refine WL.no hE (runs_not hE rfl rfl rfl (by rw [hg77]; decide)) rfl ?_; clear hE a; intro a hE
      refine WL.no hE (runs_not hE rfl rfl rfl (by rw [hg77]; decide)) rfl ?_; clear hE a; intro a hE
      refine WL.vS hS hE (runs_plain rfl) (Gives.pickF hE rfl hg77 rfl) rfl ?_; clear hE a; intro a hE
      refine WL.vS hS hE (runs_plain rfl) (Gives.p hE rfl) rfl ?_; clear hE a; intro a hE
      refine WL.nil ?_
      subst hK76
      exact ⟨false, s69, (Sg.Le.refl _), Option.some.inj hq71, hE.pick _ ⟨rfl, trivial⟩, hS⟩
  · clear hE hS a w; rintro a w ⟨q75, s73, hle74, rfl, hE, hS⟩
    replace h56 := Sl.mono RI.mono hle74 h56
    replace h62 := Sl.mono RMendLink.mono hle74 h62
    refine W.ret ?_
    refine finG (fn := Try.f15) (rs := [.tmp 0]) (vs := [_]) hE rfl ⟨rfl, trivial⟩ ?_
    obtain rfl := Option.some.inj hr
    replace hS := hS.tail
    exact ⟨rfl, (hS.down (Sg.Le.trans (Sg.Le.trans (Sg.Le.trans hle55 hle61) hle70) hle74))⟩
set_option maxHeartbeats 8000000 in
theorem Fishlaw2MendProducts_ok {fu : Nat}  {w : World} {s : Sg} {R : List HP} {x0 : List (List Int)} {a0 : Option Addr} {c0 : Nat} {x1 : List (List Int)} {a1 : Option Addr} {c1 : Nat} (hS : St w s (R)) (h0 : Sl 1 (RL 1 (RI .i64)) s a0 c0 x0) (h1 : Sl 1 (RL 1 (RI .i64)) s a1 c1 x1) {r : Bool} (hr : Fishlaw2MendProducts fu x0 x1 = some r) :
    Calls Try.prog 7 [.slice a0 x0.length c0, .slice a1 x1.length c1].toArray w (fun e w => e = .returned (.bool r) ∧ St w s (R)) := by
  refine enter Try.func7 rfl rfl rfl fun a hE => ?_
  rw [Fishlaw2MendProducts] at hr
  refine W.seq ?_
  refine W.region ?_
  refine WL.vS hS hE (runs_plain rfl) (Gives.p hE rfl) rfl ?_; clear hE a; intro a hE
  refine WL.nil ?_
  refine W.seq ?_
  refine W.region ?_
  refine WL.vS hS hE (runs_plain rfl) (Gives.p hE rfl) rfl ?_; clear hE a; intro a hE
  refine WL.vS hS hE (runs_plain rfl) (Gives.p hE rfl) rfl ?_; clear hE a; intro a hE
  obtain ⟨q51, hq52, hr⟩ := bindS hr
  have hc_ := MendProduct_ok hS h0 h1 hq52
  refine WL.fnq hE (hc_) (runs_plain rfl) bd29 rfl rfl rfl ?_
  clear hE hS hc_; rintro e w ⟨a53, c54, s56, rfl, hle57, h55, hS⟩; refine ⟨_, rfl, ?_⟩; clear a; intro a hE
  replace h0 := Sl.mono (RL.mono RI.mono) hle57 h0
  replace h1 := Sl.mono (RL.mono RI.mono) hle57 h1
  refine WL.vS hS hE (runs_plain rfl) (Gives.p hE rfl) rfl ?_; clear hE a; intro a hE
  refine WL.vS hS hE (runs_plain rfl) (Gives.p hE rfl) rfl ?_; clear hE a; intro a hE
  refine WL.vS hS hE (runs_plain rfl) (Gives.p hE rfl) rfl ?_; clear hE a; intro a hE
  refine WL.vS hS hE (runs_plain rfl) (Gives.p hE rfl) rfl ?_; clear hE a; intro a hE
  refine WL.vS hS hE (runs_plain rfl) (Gives.p hE rfl) rfl ?_; clear hE a; intro a hE
  refine WL.nil ?_
  refine W.seq ?_
  refine W.region ?_
  refine WL.vS hS hE (runs_plain rfl) (Gives.p hE rfl) rfl ?_; clear hE a; intro a hE
  refine WL.vS hS hE (runs_plain rfl) (Gives.p hE rfl) rfl ?_; clear hE a; intro a hE
  obtain ⟨q58, hq59, hr⟩ := bindS hr
  have hc_ := Fishref2ProductOf_ok hS h0 h1 hq59
  refine WL.fnq hE (hc_) (runs_plain rfl) bd30 rfl rfl rfl ?_
  clear hE hS hc_; rintro e w ⟨a60, c61, n62, cs63, s66, rfl, hle67, h64, rfl, hS⟩; refine ⟨_, rfl, ?_⟩; clear a; intro a hE
  replace h0 := Sl.mono (RL.mono RI.mono) hle67 h0
  replace h1 := Sl.mono (RL.mono RI.mono) hle67 h1
  replace h55 := Sl.mono (RL.mono RI.mono) hle67 h55
  refine WL.vS hS hE (runs_plain rfl) (Gives.p hE rfl) rfl ?_; clear hE a; intro a hE
  refine WL.vS hS hE (runs_plain rfl) (Gives.p hE rfl) rfl ?_; clear hE a; intro a hE
  refine WL.vS hS hE (runs_plain rfl) (Gives.p hE rfl) rfl ?_; clear hE a; intro a hE
  refine WL.vS hS hE (runs_plain rfl) (Gives.p hE rfl) rfl ?_; clear hE a; intro a hE
  refine WL.vS hS hE (runs_plain rfl) (Gives.p hE rfl) rfl ?_; clear hE a; intro a hE
  refine WL.nil ?_
  refine W.seq ?_
  refine W.region ?_
  refine WL.vS hS hE (runs_plain rfl) (Gives.p hE rfl) rfl ?_; clear hE a; intro a hE
  obtain ⟨q68, hq69, hr⟩ := bindS hr
  have hc_ := MendClosure_ok hS h0 hq69
  refine WL.fnq hE (hc_) (runs_plain rfl) bd31 rfl rfl rfl ?_
  clear hE hS hc_; rintro e w ⟨a70, c71, s73, rfl, hle74, h72, hS⟩; refine ⟨_, rfl, ?_⟩; clear a; intro a hE
  replace h0 := Sl.mono (RL.mono RI.mono) hle74 h0
  replace h1 := Sl.mono (RL.mono RI.mono) hle74 h1
  replace h55 := Sl.mono (RL.mono RI.mono) hle74 h55
  replace h64 := Ev.mono (RL.mono RI.mono) hle74 h64
  refine WL.vS hS hE (runs_plain rfl) (Gives.p hE rfl) rfl ?_; clear hE a; intro a hE
  refine WL.vS hS hE (runs_plain rfl) (Gives.p hE rfl) rfl ?_; clear hE a; intro a hE
  refine WL.vS hS hE (runs_plain rfl) (Gives.p hE rfl) rfl ?_; clear hE a; intro a hE
  refine WL.vS hS hE (runs_plain rfl) (Gives.p hE rfl) rfl ?_; clear hE a; intro a hE
  refine WL.vS hS hE (runs_plain rfl) (Gives.p hE rfl) rfl ?_; clear hE a; intro a hE
  refine WL.nil ?_
  refine W.seq ?_
  refine W.region ?_
  refine WL.vS hS hE (runs_plain rfl) (Gives.p hE rfl) rfl ?_; clear hE a; intro a hE
  obtain ⟨q75, hq76, hr⟩ := bindS hr
  have hc_ := Fishref2ClosureOf_ok hS h0 hq76
  refine WL.fnq hE (hc_) (runs_plain rfl) bd32 rfl rfl rfl ?_
  clear hE hS hc_; rintro e w ⟨a77, c78, s80, rfl, hle81, h79, hS⟩; refine ⟨_, rfl, ?_⟩; clear a; intro a hE
  replace h0 := Sl.mono (RL.mono RI.mono) hle81 h0
  replace h1 := Sl.mono (RL.mono RI.mono) hle81 h1
  replace h55 := Sl.mono (RL.mono RI.mono) hle81 h55
  replace h72 := Sl.mono (RL.mono RI.mono) hle81 h72
  replace h64 := Ev.mono (RL.mono RI.mono) hle81 h64
  refine WL.vS hS hE (runs_plain rfl) (Gives.p hE rfl) rfl ?_; clear hE a; intro a hE
  refine WL.vS hS hE (runs_plain rfl) (Gives.p hE rfl) rfl ?_; clear hE a; intro a hE
  refine WL.vS hS hE (runs_plain rfl) (Gives.p hE rfl) rfl ?_; clear hE a; intro a hE
  refine WL.vS hS hE (runs_plain rfl) (Gives.p hE rfl) rfl ?_; clear hE a; intro a hE
  refine WL.vS hS hE (runs_plain rfl) (Gives.p hE rfl) rfl ?_; clear hE a; intro a hE
  refine WL.nil ?_
  refine W.seq ?_
  obtain ⟨q83, hq82, hr⟩ := bindS hr
  refine W.cut (fun a w => ∃ (q86 : Bool), q86 = q83 ∧ Rep a 56 [(4, .bool q86)] ∧ St w s80 (R)) ?_ ?_
  · refine W.gen fun K87 hK87 => ?_
    refine W.region ?_
    obtain ⟨q88, hq89, hq82⟩ := bindS hq82
    have hc_ := Fishlaw2rounds_ok hS  hq89
    refine WL.fnq hE (hc_) (runs_plain rfl) bd15 rfl rfl rfl ?_
    clear hE hS hc_; rintro e w ⟨rfl, hS⟩; refine ⟨_, rfl, ?_⟩; clear a; intro a hE
    refine WL.vS hS hE (runs_plain rfl) (Gives.p hE rfl) rfl ?_; clear hE a; intro a hE
    rcases Bool.eq_false_or_eq_true q88 with hg90 | hg90
    · replace hq82 := iteT hg90 hq82
      refine WL.vS hS hE (runs_if hE rfl rfl rfl hg90) (Gives.p hE rfl) rfl ?_; clear hE a; intro a hE
      refine WL.vS hS hE (runs_if hE rfl rfl rfl hg90) (Gives.p hE rfl) rfl ?_; clear hE a; intro a hE
      refine WL.vS hS hE (runs_if hE rfl rfl rfl hg90) (Gives.p hE rfl) rfl ?_; clear hE a; intro a hE
      refine WL.vS hS hE (runs_plain rfl) (Gives.pickT hE rfl hg90 rfl) rfl ?_; clear hE a; intro a hE
      refine WL.vS hS hE (runs_plain rfl) (Gives.p hE rfl) rfl ?_; clear hE a; intro a hE
      rcases Bool.eq_false_or_eq_true (q51.2 == q58.2) with hg91 | hg91
      · replace hq82 := iteT hg91 hq82
        refine WL.vS hS hE (runs_if hE rfl rfl rfl hg91) (Gives.p hE rfl) rfl ?_; clear hE a; intro a hE
        refine WL.vS hS hE (runs_if hE rfl rfl rfl hg91) (Gives.p hE rfl) rfl ?_; clear hE a; intro a hE
        refine WL.vS hS hE (runs_if hE rfl rfl rfl hg91) (Gives.p hE rfl) rfl ?_; clear hE a; intro a hE
        refine WL.vS hS hE (runs_plain rfl) (Gives.pickT hE rfl hg91 rfl) rfl ?_; clear hE a; intro a hE
        refine WL.vS hS hE (runs_plain rfl) (Gives.p hE rfl) rfl ?_; clear hE a; intro a hE
        rcases Bool.eq_false_or_eq_true (q68.2 == q75.2) with hg92 | hg92
        · replace hq82 := iteT hg92 hq82
          refine WL.vS hS hE (runs_if hE rfl rfl rfl hg92) (Gives.p hE rfl) rfl ?_; clear hE a; intro a hE
          refine WL.vS hS hE (runs_if hE rfl rfl rfl hg92) (Gives.p hE rfl) rfl ?_; clear hE a; intro a hE
          obtain ⟨q93, hq94, hq82⟩ := bindS hq82
          have hF := hS.lendV (RL.mono RI.mono) 0 rfl h64 rfl; clear hS; obtain ⟨t95, hle96, hS, hs97, bk98⟩ := hF
          have hc_ := Fishlaw2lists_ok hS (Sl.mono (RL.mono RI.mono) hle96 h55) hs97 hq94
          refine WL.fnq hE (hc_) (runs_if hE rfl rfl rfl hg92) bd21 rfl rfl rfl ?_
          clear hE hS hc_; rintro e w ⟨rfl, hS⟩; refine ⟨_, rfl, ?_⟩; clear a; intro a hE
          replace hS := bk98 _ _ hS
          refine WL.vS hS hE (runs_plain rfl) (Gives.pickT hE rfl hg92 rfl) rfl ?_; clear hE a; intro a hE
          refine WL.vS hS hE (runs_plain rfl) (Gives.p hE rfl) rfl ?_; clear hE a; intro a hE
          rcases Bool.eq_false_or_eq_true q93 with hg99 | hg99
          · replace hq82 := iteT hg99 hq82
            refine WL.vS hS hE (runs_if hE rfl rfl rfl hg99) (Gives.p hE rfl) rfl ?_; clear hE a; intro a hE
            refine WL.vS hS hE (runs_if hE rfl rfl rfl hg99) (Gives.p hE rfl) rfl ?_; clear hE a; intro a hE
            obtain ⟨q100, hq101, hq82⟩ := bindS hq82
            have hc_ := Fishlaw2lists_ok hS h72 h79 hq101
            refine WL.fnq hE (hc_) (runs_if hE rfl rfl rfl hg99) bd21 rfl rfl rfl ?_
            clear hE hS hc_; rintro e w ⟨rfl, hS⟩; refine ⟨_, rfl, ?_⟩; clear a; intro a hE
            refine WL.vS hS hE (runs_plain rfl) (Gives.pickT hE rfl hg99 rfl) rfl ?_; clear hE a; intro a hE
            refine WL.vS hS hE (runs_plain rfl) (Gives.p hE rfl) rfl ?_; clear hE a; intro a hE
            refine WL.nil ?_
            replace hS := hS.tail
            subst hK87
            exact ⟨q100, Option.some.inj hq82, hE.pick _ ⟨rfl, trivial⟩, hS⟩
          · replace hq82 := iteF hg99 hq82
            refine WL.no hE (runs_not hE rfl rfl rfl (by rw [hg99]; decide)) rfl ?_; clear hE a; intro a hE
            refine WL.no hE (runs_not hE rfl rfl rfl (by rw [hg99]; decide)) rfl ?_; clear hE a; intro a hE
            refine WL.no hE (runs_not hE rfl rfl rfl (by rw [hg99]; decide)) rfl ?_; clear hE a; intro a hE
            refine WL.vS hS hE (runs_plain rfl) (Gives.pickF hE rfl hg99 rfl) rfl ?_; clear hE a; intro a hE
            refine WL.vS hS hE (runs_plain rfl) (Gives.p hE rfl) rfl ?_; clear hE a; intro a hE
            refine WL.nil ?_
            replace hS := hS.tail
            subst hK87
            exact ⟨false, Option.some.inj hq82, hE.pick _ ⟨rfl, trivial⟩, hS⟩
        · replace hq82 := iteF hg92 hq82
          refine WL.no hE (runs_not hE rfl rfl rfl (by rw [hg92]; decide)) rfl ?_; clear hE a; intro a hE
          refine WL.no hE (runs_not hE rfl rfl rfl (by rw [hg92]; decide)) rfl ?_; clear hE a; intro a hE
          refine WL.no hE (runs_not hE rfl rfl rfl (by rw [hg92]; decide)) rfl ?_; clear hE a; intro a hE
          refine WL.vS hS hE (runs_plain rfl) (Gives.pickF hE rfl hg92 rfl) rfl ?_; clear hE a; intro a hE
          refine WL.vS hS hE (runs_plain rfl) (Gives.p hE rfl) rfl ?_; clear hE a; intro a hE
          refine WL.no hE (runs_not hE rfl rfl rfl (by decide)) rfl ?_; clear hE a; intro a hE
          refine WL.no hE (runs_not hE rfl rfl rfl (by decide)) rfl ?_; clear hE a; intro a hE
          refine WL.no hE (runs_not hE rfl rfl rfl (by decide)) rfl ?_; clear hE a; intro a hE
          refine WL.vS hS hE (runs_plain rfl) (Gives.pickF hE rfl rfl rfl) rfl ?_; clear hE a; intro a hE
          refine WL.vS hS hE (runs_plain rfl) (Gives.p hE rfl) rfl ?_; clear hE a; intro a hE
          refine WL.nil ?_
          replace hS := hS.tail
          subst hK87
          exact ⟨false, Option.some.inj hq82, hE.pick _ ⟨rfl, trivial⟩, hS⟩
      · replace hq82 := iteF hg91 hq82
        refine WL.no hE (runs_not hE rfl rfl rfl (by rw [hg91]; decide)) rfl ?_; clear hE a; intro a hE
        refine WL.no hE (runs_not hE rfl rfl rfl (by rw [hg91]; decide)) rfl ?_; clear hE a; intro a hE
        refine WL.no hE (runs_not hE rfl rfl rfl (by rw [hg91]; decide)) rfl ?_; clear hE a; intro a hE
        refine WL.vS hS hE (runs_plain rfl) (Gives.pickF hE rfl hg91 rfl) rfl ?_; clear hE a; intro a hE
        refine WL.vS hS hE (runs_plain rfl) (Gives.p hE rfl) rfl ?_; clear hE a; intro a hE
        refine WL.no hE (runs_not hE rfl rfl rfl (by decide)) rfl ?_; clear hE a; intro a hE
        refine WL.no hE (runs_not hE rfl rfl rfl (by decide)) rfl ?_; clear hE a; intro a hE
        refine WL.no hE (runs_not hE rfl rfl rfl (by decide)) rfl ?_; clear hE a; intro a hE
        refine WL.vS hS hE (runs_plain rfl) (Gives.pickF hE rfl rfl rfl) rfl ?_; clear hE a; intro a hE
        refine WL.vS hS hE (runs_plain rfl) (Gives.p hE rfl) rfl ?_; clear hE a; intro a hE
        refine WL.no hE (runs_not hE rfl rfl rfl (by decide)) rfl ?_; clear hE a; intro a hE
        refine WL.no hE (runs_not hE rfl rfl rfl (by decide)) rfl ?_; clear hE a; intro a hE
        refine WL.no hE (runs_not hE rfl rfl rfl (by decide)) rfl ?_; clear hE a; intro a hE
        refine WL.vS hS hE (runs_plain rfl) (Gives.pickF hE rfl rfl rfl) rfl ?_; clear hE a; intro a hE
        refine WL.vS hS hE (runs_plain rfl) (Gives.p hE rfl) rfl ?_; clear hE a; intro a hE
        refine WL.nil ?_
        replace hS := hS.tail
        subst hK87
        exact ⟨false, Option.some.inj hq82, hE.pick _ ⟨rfl, trivial⟩, hS⟩
    · replace hq82 := iteF hg90 hq82
      refine WL.no hE (runs_not hE rfl rfl rfl (by rw [hg90]; decide)) rfl ?_; clear hE a; intro a hE
      refine WL.no hE (runs_not hE rfl rfl rfl (by rw [hg90]; decide)) rfl ?_; clear hE a; intro a hE
      refine WL.no hE (runs_not hE rfl rfl rfl (by rw [hg90]; decide)) rfl ?_; clear hE a; intro a hE
      refine WL.vS hS hE (runs_plain rfl) (Gives.pickF hE rfl hg90 rfl) rfl ?_; clear hE a; intro a hE
      refine WL.vS hS hE (runs_plain rfl) (Gives.p hE rfl) rfl ?_; clear hE a; intro a hE
      refine WL.no hE (runs_not hE rfl rfl rfl (by decide)) rfl ?_; clear hE a; intro a hE
      refine WL.no hE (runs_not hE rfl rfl rfl (by decide)) rfl ?_; clear hE a; intro a hE
      refine WL.no hE (runs_not hE rfl rfl rfl (by decide)) rfl ?_; clear hE a; intro a hE
      refine WL.vS hS hE (runs_plain rfl) (Gives.pickF hE rfl rfl rfl) rfl ?_; clear hE a; intro a hE
      refine WL.vS hS hE (runs_plain rfl) (Gives.p hE rfl) rfl ?_; clear hE a; intro a hE
      refine WL.no hE (runs_not hE rfl rfl rfl (by decide)) rfl ?_; clear hE a; intro a hE
      refine WL.no hE (runs_not hE rfl rfl rfl (by decide)) rfl ?_; clear hE a; intro a hE
      refine WL.no hE (runs_not hE rfl rfl rfl (by decide)) rfl ?_; clear hE a; intro a hE
      refine WL.vS hS hE (runs_plain rfl) (Gives.pickF hE rfl rfl rfl) rfl ?_; clear hE a; intro a hE
      refine WL.vS hS hE (runs_plain rfl) (Gives.p hE rfl) rfl ?_; clear hE a; intro a hE
      refine WL.no hE (runs_not hE rfl rfl rfl (by decide)) rfl ?_; clear hE a; intro a hE
      refine WL.no hE (runs_not hE rfl rfl rfl (by decide)) rfl ?_; clear hE a; intro a hE
      refine WL.no hE (runs_not hE rfl rfl rfl (by decide)) rfl ?_; clear hE a; intro a hE
      refine WL.vS hS hE (runs_plain rfl) (Gives.pickF hE rfl rfl rfl) rfl ?_; clear hE a; intro a hE
      refine WL.vS hS hE (runs_plain rfl) (Gives.p hE rfl) rfl ?_; clear hE a; intro a hE
      refine WL.nil ?_
      replace hS := hS.tail
      subst hK87
      exact ⟨false, Option.some.inj hq82, hE.pick _ ⟨rfl, trivial⟩, hS⟩
  · clear hE hS a w; rintro a w ⟨q86, rfl, hE, hS⟩
    refine W.ret ?_
    refine finG (fn := Try.f7) (rs := [.tmp 4]) (vs := [_]) hE rfl ⟨rfl, trivial⟩ ?_
    obtain rfl := Option.some.inj hr
    exact ⟨rfl, (hS.down (Sg.Le.trans (Sg.Le.trans (Sg.Le.trans hle57 hle67) hle74) hle81))⟩
end Go.Proofs.Ytfioafdipipcaaa
