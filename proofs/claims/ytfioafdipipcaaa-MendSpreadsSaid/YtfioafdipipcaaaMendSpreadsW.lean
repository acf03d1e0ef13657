/- The walks of the functions that MendSpreads reaches: each call comes to what its mirror says. The conditions are those of each contract. -/
import Derived.Test.YtfioafdipipcaaaProg
import Derived.Test.YtfioafdipipcaaaMendSpreadsM
import Derived.Test.YtfioafdipipcaaaFpMore
import Derived.Test.YtfioafdipipcaaaMendSpreadsW1
namespace Go.Proofs.Ytfioafdipipcaaa
open Go Go.Fp
set_option maxHeartbeats 8000000 in
theorem MendRoom_ok {fu : Nat}  {w : World} {s : Sg} {R : List HP} {x0 : MendRound} {a0_0 : Option Addr} {c0_0 : Nat} {a0_1 : Option Addr} {c0_1 : Nat} (hS : St w s (R)) (h0_0 : Sl 1 (RI .i64) s a0_0 c0_0 x0.Plan) (h0_1 : Sl 4 RMendLink s a0_1 c0_1 x0.Links) {r : (List (List Int)) × Int} (hr : MendRoom fu x0 = some r) :
    Calls Try.prog 34 [.agg [.int .i64 x0.Period, .slice a0_0 x0.Plan.length c0_0, .slice a0_1 x0.Links.length c0_1].toArray].toArray w (fun e w => ∃ (a0 : Option Addr) (c0 : Nat) (t : Sg), e = .returned (.tuple #[.slice a0 r.1.length c0, .int .i64 r.2]) ∧ s.Le t ∧ Sl 1 (RL 1 (RI .i64)) t a0 c0 r.1 ∧ St w t (R)) := by
  refine enter Try.func34 rfl rfl rfl fun a hE => ?_
  rw [MendRoom] at hr
  refine W.seq ?_
  refine W.region ?_
  refine WL.box hE hS (runs_plain rfl) rfl rfl rfl ?_; clear hE hS a w; intro b51 a w hE hS
  refine WL.vS hS hE (runs_plain rfl) (Gives.p hE rfl) rfl ?_; clear hE a; intro a hE
  refine WL.vS hS hE (runs_plain rfl) (Gives.p hE rfl) rfl ?_; clear hE a; intro a hE
  refine WL.nil ?_
  refine W.seq ?_
  refine W.seq ?_
  refine W.region ?_
  refine WL.vS hS hE (runs_plain rfl) (Gives.loadBA hE 0 rfl rfl ty25) rfl ?_; clear hE a; intro a hE
  obtain ⟨q52, hq53, hr⟩ := bindS hr
  have hc_ := MendCheckRound_ok hS h0_0 h0_1 hq53
  refine WL.fnq hE (hc_) (runs_plain rfl) bd16 rfl rfl rfl ?_
  clear hE hS hc_; rintro e w ⟨rfl, hS⟩; refine ⟨_, rfl, ?_⟩; clear a; intro a hE
  refine WL.vS hS hE (runs_plain rfl) (Gives.p hE rfl) rfl ?_; clear hE a; intro a hE
  refine WL.nil ?_
  refine W.seq ?_
  refine W.region ?_
  refine WL.vS hS hE (runs_plain rfl) (Gives.p hE rfl) rfl ?_; clear hE a; intro a hE
  refine WL.vS hS hE (runs_plain rfl) (Gives.p hE rfl) rfl ?_; clear hE a; intro a hE
  refine WL.nil ?_
  refine W.cond hE rfl (fun hc54 => ?_) (fun hc54 => ?_)
  · replace hr := iteT hc54 hr
    refine W.seq ?_
    refine W.region ?_
    refine WL.vS hS hE (runs_plain rfl) (Gives.p hE rfl) rfl ?_; clear hE a; intro a hE
    refine WL.vS hS hE (runs_plain rfl) (Gives.p hE rfl) rfl ?_; clear hE a; intro a hE
    refine WL.vS hS hE (runs_plain rfl) (Gives.p hE rfl) rfl ?_; clear hE a; intro a hE
    refine WL.nil ?_
    refine W.ret ?_
    refine finG (fn := Try.f34) (rs := [.tmp 2, .tmp 3]) (vs := [_, _]) hE rfl ⟨rfl, rfl, trivial⟩ ?_
    obtain rfl := Option.some.inj hr
    replace hS := hS.tail
    exact ⟨none, 0, s, rfl, (Sg.Le.refl _), Sl.nil, hS⟩
  · replace hr := iteF hc54 hr
    refine W.skip ?_
    refine W.seq ?_
    refine W.region ?_
    refine WL.vS hS hE (runs_plain rfl) (Gives.fld hE rfl fl25_1) rfl ?_; clear hE a; intro a hE
    refine WL.vS hS hE (runs_plain rfl) (Gives.loadB hE 0 rfl rfl rfl ty22) rfl ?_; clear hE a; intro a hE
    refine WL.vS hS hE (runs_plain rfl) (Gives.len hE rfl sl22) rfl ?_; clear hE a; intro a hE
    obtain ⟨x55, hx56, hr⟩ := bindS hr
    refine WL.mkND (Rr := RI .i64) (Ti := 3) (es := 1) hE hS (runs_plain rfl) rfl rfl ap40 zr22 hx56 rfl ?_; clear hE hS a w; intro b57 ds58 a w h59 hE hS
    refine WL.vS hS hE (runs_plain rfl) (Gives.p hE rfl) rfl ?_; clear hE a; intro a hE
    refine WL.nil ?_
    refine W.seq ?_
    refine W.seq ?_
    refine W.region ?_
    refine WL.vS hS hE (runs_plain rfl) (Gives.p hE rfl) rfl ?_; clear hE a; intro a hE
    refine WL.vS hS hE (runs_plain rfl) (Gives.len hE rfl sl40) rfl ?_; clear hE a; intro a hE
    refine WL.vS hS hE (runs_plain rfl) (Gives.p hE rfl) rfl ?_; clear hE a; intro a hE
    refine WL.nil ?_
    have hb72 : x55.length ≤ 9223372036854775807 := by have := hS.nCap 0 rfl; unfold maxLen at this; omega
    obtain ⟨q62, hq61, hr⟩ := bindS hr
    refine W.cut (fun a w => ∃ (q73 : List (List Int)), ∃ (ds77 : List In), ∃ (s70 : Sg), s.Le s70 ∧ q73 = q62 ∧ NEv 1 (RI .i64) s70 ds77 q73 ∧ q73.length = x55.length ∧ Rep a 100 [(5, .slice (some ⟨b57, 0, none⟩) x55.length x55.length)] ∧ St w s70 (nestC 22 3 1 (some ⟨b57, 0, none⟩) x55.length x55.length ds77 :: pt b51 (.cells #[.int .i64 x0.Period, .slice a0_0 x0.Plan.length c0_0, .slice a0_1 x0.Links.length c0_1] 25 (0, 0)) :: R)) ?_ ?_
    · refine W.block ?_
      refine W.loop (fun m a w => ∃ (rest65 : Nat) (k63 : Nat), ∃ (q73 : List (List Int)), ∃ (ds77 : List In), ∃ (s70 : Sg), rest65 = m ∧ k63 + rest65 = x55.length ∧ s.Le s70 ∧ MendRoom.loop1 x0 fu rest65 k63 q73 = some q62 ∧ NEv 1 (RI .i64) s70 ds77 q73 ∧ q73.length = x55.length ∧ Rep a 100 [(1, .pointer (some ⟨b51, 0, none⟩)), (5, .slice (some ⟨b57, 0, none⟩) x55.length x55.length), (21, .int .i64 ((x55.length : Nat) : Int)), (22, .int .i64 ((k63 : Nat) : Int))] ∧ St w s70 (nestC 22 3 1 (some ⟨b57, 0, none⟩) x55.length x55.length ds77 :: pt b51 (.cells #[.int .i64 x0.Period, .slice a0_0 x0.Plan.length c0_0, .slice a0_1 x0.Links.length c0_1] 25 (0, 0)) :: R)) (m := x55.length) ⟨x55.length, 0, x55, ds58, s, rfl, by omega, (Sg.Le.refl _), hq61, h59, (rfl), hE.pick _ ⟨rfl, rfl, rfl, rfl, trivial⟩, hS⟩ ?_
      clear hE hS a w hq61; rintro m69 a w ⟨rest65, k63, q73, ds77, s70, rfl, hd66, hle71, hq61, h78, hn79, hE, hS⟩
      refine W.gen fun K80 hK80 => ?_
      replace h0_0 := Sl.mono RI.mono hle71 h0_0
      replace h0_1 := Sl.mono RMendLink.mono hle71 h0_1
      replace h59 := NEv.mono RI.mono hle71 h59
      rcases rest65 with _ | rest65
      · skip
        refine W.seq ?_
        refine W.region ?_
        refine WL.vS hS hE (runs_plain rfl) (Gives.p hE rfl) rfl ?_; clear hE a; intro a hE
        refine WL.nil ?_
        refine W.seq ?_
        refine W.condF hE rfl (decide_eq_false (by omega)) ?_
        subst hK80
        refine W.exit rfl ?_
        exact ⟨q73, ds77, s70, hle71, Option.some.inj hq61, h78, hn79, hE.pick _ ⟨rfl, trivial⟩, hS⟩
      · have hlt67 : k63 < x55.length := by omega
        rw [MendRoom.loop1] at hq61
        refine W.seq ?_
        refine W.region ?_
        refine WL.vS hS hE (runs_plain rfl) (Gives.p hE rfl) rfl ?_; clear hE a; intro a hE
        refine WL.nil ?_
        refine W.seq ?_
        refine W.condT hE rfl (decide_eq_true (by omega)) ?_
        refine W.skip ?_
        refine W.seq ?_
        refine W.block ?_
        refine W.seq ?_
        refine W.region ?_
        refine WL.vS hS hE (runs_plain rfl) (Gives.p hE rfl) rfl ?_; clear hE a; intro a hE
        refine WL.vS hS hE (runs_plain rfl) (Gives.p hE rfl) rfl ?_; clear hE a; intro a hE
        refine WL.nil ?_
        refine W.seq ?_
        refine W.region ?_
        refine WL.vS hS hE (runs_plain rfl) (Gives.p hE rfl) rfl ?_; clear hE a; intro a hE
        refine WL.vS hS hE (runs_plain rfl) (Gives.p hE rfl) rfl ?_; clear hE a; intro a hE
        refine WL.lit hE hS (e := 3) (es := 1) (vs := [(0, .int .i64 (-1))]) (cs := [.int .i64 (-1)]) (runs_plain rfl) rfl (by kernel_rfl) rfl ?_; clear hE hS a w; intro b81 a w hE hS
        replace hS := hS.ptVec (es := 1) (m := 1) rfl (by decide)
        have h83 : Ev 1 (RI .i64) s70 [.int .i64 (-1)] [(-1)] := (Ev.cons (c1 := [.int .i64 (-1)]) rfl rfl (Ev.nil))
        have hF := hS.fixD RI.mono 0 rfl h83 (rfl); clear hS; obtain ⟨s84, hle85, hS, h86⟩ := hF
        replace h78 := NEv.mono RI.mono hle85 h78
        replace h0_0 := Sl.mono RI.mono hle85 h0_0
        replace h0_1 := Sl.mono RMendLink.mono hle85 h0_1
        refine WL.vS hS hE (runs_plain rfl) (Gives.fld hE rfl fl25_1) rfl ?_; clear hE a; intro a hE
        refine WL.vS hS hE (runs_plain rfl) (Gives.loadB hE 1 rfl rfl rfl ty22) rfl ?_; clear hE a; intro a hE
        refine WL.vS hS hE (runs_plain rfl) (Gives.len hE rfl sl22) rfl ?_; clear hE a; intro a hE
        obtain ⟨q87, hq88, hq61⟩ := bindS hq61
        have hc_ := SlicesRepeatLint_ok hS h86 hq88
        refine WL.fnq hE (hc_) (runs_plain rfl) bd57 rfl rfl rfl ?_
        clear hE hS hc_; rintro e w ⟨a89, c90, n91, cs92, rfl, h93, rfl, hS⟩; refine ⟨_, rfl, ?_⟩; clear a; intro a hE
        obtain ⟨_, hx95, hq61⟩ := bindS hq61
        obtain ⟨h96, h97⟩ := ix_some hx95
        refine WL.vS hS hE (runs_plain rfl) (Gives.idx hE ((((k63 : Nat) : Int)).toNat) rfl rfl sl40 h96 (by have := hn79; omega) (hS.nAok 1 rfl (by have := hn79; omega : (((k63 : Nat) : Int)).toNat < x55.length))) rfl ?_; clear hE a; intro a hE
        obtain ⟨d98, hd99⟩ : ∃ d, ds77[(((k63 : Nat) : Int)).toNat]? = some d := ⟨_, List.getElem?_eq_getElem (by have h1 := h78.len; have h2 := hn79; omega)⟩
        replace hS := (hS.borrow 1 rfl hd99).tail
        obtain ⟨x100, hx101, hq61⟩ := bindS hq61
        refine WL.storeND hE hS 0 rfl (runs_plain rfl) rfl rfl ty22 h78 hn79 (by have := (sx_some hx101).1; omega) hx101 h93 rfl rfl ?_; clear hE hS a w; intro ds102 a w h103 hn104 hE hS
        refine WL.nil ?_
        refine W.seq ?_
        refine W.region ?_
        refine WL.vS hS hE (runs_plain rfl) (Gives.p hE rfl) rfl ?_; clear hE a; intro a hE
        refine WL.vS hS hE (runs_plain rfl) (Gives.p hE rfl) rfl ?_; clear hE a; intro a hE
        obtain ⟨x105, hx106, hq61⟩ := bindS hq61
        obtain ⟨hi107, hlt108, hy109⟩ := gx_some hx106
        obtain ⟨a110, c111, cs112, hd113, hev114⟩ := h103.at hy109
        refine WL.vS hS hE (runs_plain rfl) (Gives.idx hE ((((k63 : Nat) : Int)).toNat) rfl rfl sl40 hi107 (by have := hn104; omega) (hS.nAok 0 rfl (by have := hn104; omega : (((k63 : Nat) : Int)).toNat < x55.length))) rfl ?_; clear hE a; intro a hE
        refine WL.vS hS hE (runs_plain rfl) (Gives.load1 (v := .slice a110 x105.length c111) hE rfl (fun w h => St.nSees h 0 rfl hd113) ty22) rfl ?_; clear hE a; intro a hE
        refine WL.vS hS hE (runs_plain rfl) (Gives.p hE rfl) rfl ?_; clear hE a; intro a hE
        replace hS := hS.borrowM 0 rfl hd113
        obtain ⟨_, hx117, hq61⟩ := bindS hq61
        obtain ⟨h118, h119⟩ := ix_some hx117
        refine WL.vS hS hE (runs_plain rfl) (Gives.idx hE ((((k63 : Nat) : Int)).toNat) rfl rfl sl22 h118 (by omega) (hS.vecAok 0 rfl (by omega : (((k63 : Nat) : Int)).toNat < x105.length))) rfl ?_; clear hE a; intro a hE
        obtain ⟨x121, hx122, hq61⟩ := bindS hq61
        refine WL.setD hE hS 0 rfl (runs_plain rfl) rfl rfl (vs := [.int .i64 0]) rfl ty3 rfl rfl rfl hev114 (rfl) (sx_some hx122).1 hx122 rfl rfl ?_; clear hE hS a w; intro cs123 a w h124 hn125 hE hS
        refine WL.nil ?_
        refine W.seq ?_
        refine W.region ?_
        refine WL.vS hS hE (runs_plain rfl) (Gives.p hE rfl) rfl ?_; clear hE a; intro a hE
        refine WL.nil ?_
        replace hS := hS.giveBack 0 rfl hd113
        have h127 := h103.set (k := (((k63 : Nat) : Int)).toNat) (d := ⟨a110, c111, x105.length, cs123⟩) h124 hn125
        have hn128 : (x100.set ((((k63 : Nat) : Int)).toNat) x121).length = x55.length := by simp; exact hn104
        generalize List.set ds102 ((((k63 : Nat) : Int)).toNat) _ = ds126 at hS h127
        obtain ⟨q130, hq129, hq61⟩ := bindS hq61
        refine W.cut (fun a w => ∃ (q135 : Bool), ∃ (q136 : List (List Int)), ∃ (ds140 : List In), (q135, q136) = q130 ∧ NEv 1 (RI .i64) s84 ds140 q136 ∧ q136.length = x55.length ∧ Rep a 100 [(1, .pointer (some ⟨b51, 0, none⟩)), (5, .slice (some ⟨b57, 0, none⟩) x55.length x55.length), (21, .int .i64 ((x55.length : Nat) : Int)), (22, .int .i64 ((k63 : Nat) : Int))] ∧ St w s84 (nestC 22 3 1 (some ⟨b57, 0, none⟩) x55.length x55.length ds140 :: pt b51 (.cells #[.int .i64 x0.Period, .slice a0_0 x0.Plan.length c0_0, .slice a0_1 x0.Links.length c0_1] 25 (0, 0)) :: R)) ?_ ?_
        · refine W.block ?_
          refine W.loop (fun m a w => ∃ (n131 : Nat), ∃ (q135 : Bool), ∃ (q136 : List (List Int)), ∃ (ds140 : List In), n131 = m ∧ MendRoom.loop2 x0 k63 n131 q135 q136 = some q130 ∧ NEv 1 (RI .i64) s84 ds140 q136 ∧ q136.length = x55.length ∧ Rep a 100 [(1, .pointer (some ⟨b51, 0, none⟩)), (5, .slice (some ⟨b57, 0, none⟩) x55.length x55.length), (6, .int .i64 ((k63 : Nat) : Int)), (7, .bool q135), (21, .int .i64 ((x55.length : Nat) : Int)), (22, .int .i64 ((k63 : Nat) : Int))] ∧ St w s84 (nestC 22 3 1 (some ⟨b57, 0, none⟩) x55.length x55.length ds140 :: pt b51 (.cells #[.int .i64 x0.Period, .slice a0_0 x0.Plan.length c0_0, .slice a0_1 x0.Links.length c0_1] 25 (0, 0)) :: R)) (m := fu) ⟨fu, true, (x100.set ((((k63 : Nat) : Int)).toNat) x121), ds126, rfl, hq129, h127, hn128, hE.pick _ ⟨rfl, rfl, rfl, rfl, rfl, rfl, trivial⟩, hS⟩ ?_
          clear hE hS a w hq129; rintro m132 a w ⟨n131, q135, q136, ds140, rfl, hq129, h141, hn142, hE, hS⟩
          refine W.gen fun K143 hK143 => ?_
          rcases n131 with _ | n131
          · rw [MendRoom.loop2] at hq129; exact absurd hq129 (by simp)
          rw [MendRoom.loop2] at hq129
          refine W.seq ?_
          refine W.seq ?_
          refine W.region ?_
          refine WL.vS hS hE (runs_plain rfl) (Gives.p hE rfl) rfl ?_; clear hE a; intro a hE
          refine WL.nil ?_
          refine W.cond hE rfl (fun hc144 => ?_) (fun hc144 => ?_)
          · replace hq129 := iteT hc144 hq129
            refine W.skip ?_
            refine W.block ?_
            refine W.seq ?_
            refine W.region ?_
            refine WL.vS hS hE (runs_plain rfl) (Gives.p hE rfl) rfl ?_; clear hE a; intro a hE
            refine WL.nil ?_
            refine W.seq ?_
            refine W.region ?_
            refine WL.vS hS hE (runs_plain rfl) (Gives.fld hE rfl fl25_2) rfl ?_; clear hE a; intro a hE
            refine WL.vS hS hE (runs_plain rfl) (Gives.loadB hE 1 rfl rfl rfl ty23) rfl ?_; clear hE a; intro a hE
            refine WL.vS hS hE (runs_plain rfl) (Gives.len hE rfl sl23) rfl ?_; clear hE a; intro a hE
            refine WL.vS hS hE (runs_plain rfl) (Gives.p hE rfl) rfl ?_; clear hE a; intro a hE
            refine WL.nil ?_
            obtain ⟨q146, hq145, hq129⟩ := bindS hq129
            refine W.cut (fun a w => ∃ (q156 : Bool), ∃ (q157 : List (List Int)), ∃ (ds161 : List In), (q156, q157) = q146 ∧ NEv 1 (RI .i64) s84 ds161 q157 ∧ q157.length = x55.length ∧ Rep a 100 [(1, .pointer (some ⟨b51, 0, none⟩)), (5, .slice (some ⟨b57, 0, none⟩) x55.length x55.length), (6, .int .i64 ((k63 : Nat) : Int)), (7, .bool q156), (21, .int .i64 ((x55.length : Nat) : Int)), (22, .int .i64 ((k63 : Nat) : Int))] ∧ St w s84 (nestC 22 3 1 (some ⟨b57, 0, none⟩) x55.length x55.length ds161 :: pt b51 (.cells #[.int .i64 x0.Period, .slice a0_0 x0.Plan.length c0_0, .slice a0_1 x0.Links.length c0_1] 25 (0, 0)) :: R)) ?_ ?_
            · refine W.block ?_
              refine W.loop (fun m a w => ∃ (rest149 : List MendLink) (k147 : Nat), ∃ (q156 : Bool), ∃ (q157 : List (List Int)), ∃ (ds161 : List In), rest149.length = m ∧ x0.Links.drop k147 = rest149 ∧ MendRoom.loop3 x0 k63 rest149 q156 q157 = some q146 ∧ NEv 1 (RI .i64) s84 ds161 q157 ∧ q157.length = x55.length ∧ Rep a 100 [(1, .pointer (some ⟨b51, 0, none⟩)), (5, .slice (some ⟨b57, 0, none⟩) x55.length x55.length), (6, .int .i64 ((k63 : Nat) : Int)), (7, .bool q156), (21, .int .i64 ((x55.length : Nat) : Int)), (22, .int .i64 ((k63 : Nat) : Int)), (41, .slice a0_1 x0.Links.length c0_1), (42, .int .i64 ((x0.Links).length : Int)), (43, .int .i64 ((k147 : Nat) : Int))] ∧ St w s84 (nestC 22 3 1 (some ⟨b57, 0, none⟩) x55.length x55.length ds161 :: pt b51 (.cells #[.int .i64 x0.Period, .slice a0_0 x0.Plan.length c0_0, .slice a0_1 x0.Links.length c0_1] 25 (0, 0)) :: R)) (m := x0.Links.length) ⟨x0.Links, 0, false, q136, ds140, rfl, rfl, hq145, h141, hn142, hE.pick _ ⟨rfl, rfl, rfl, rfl, rfl, rfl, rfl, rfl, rfl, trivial⟩, hS⟩ ?_
              clear hE hS a w hq145; rintro m153 a w ⟨rest149, k147, q156, q157, ds161, rfl, hd150, hq145, h162, hn163, hE, hS⟩
              refine W.gen fun K164 hK164 => ?_
              rcases rest149 with _ | ⟨x148, rest149⟩
              · have hlt151 := drop_nil hd150
                refine W.seq ?_
                refine W.region ?_
                refine WL.vS hS hE (runs_plain rfl) (Gives.p hE rfl) rfl ?_; clear hE a; intro a hE
                refine WL.nil ?_
                refine W.seq ?_
                refine W.condF hE rfl (decide_eq_false (by omega)) ?_
                subst hK164
                refine W.exit rfl ?_
                exact ⟨q156, q157, ds161, Option.some.inj hq145, h162, hn163, hE.pick _ ⟨rfl, rfl, rfl, rfl, rfl, rfl, trivial⟩, hS⟩
              · obtain ⟨hlt151, hx152, hd150⟩ := drop_cons hd150
                rw [MendRoom.loop3] at hq145
                refine W.seq ?_
                refine W.region ?_
                refine WL.vS hS hE (runs_plain rfl) (Gives.p hE rfl) rfl ?_; clear hE a; intro a hE
                refine WL.nil ?_
                refine W.seq ?_
                refine W.condT hE rfl (decide_eq_true (by omega)) ?_
                refine W.skip ?_
                refine W.seq ?_
                refine W.block ?_
                refine W.seq ?_
                refine W.region ?_
                obtain ⟨cs165, hl166, hR167, hat168⟩ := h0_1.at hx152
                subst hR167
                refine WL.vS hS hE (runs_plain rfl) (Gives.idx hE k147 rfl rfl sl23 rfl hlt151 (h0_1.aok hlt151)) rfl ?_; clear hE a; intro a hE
                refine WL.vS hS hE (runs_plain rfl) (Gives.loadA hE rfl (fun w h => hat168 w _ h) ty36) rfl ?_; clear hE a; intro a hE
                refine WL.alloc hE hS (runs_plain rfl) zr36 rfl ?_; clear hE hS a w; intro b169 a w hE hS
                refine WL.storeI hE hS 0 rfl (MendLink.cells x148) (runs_plain rfl) rfl rfl rfl ty36 rfl rfl rfl rfl ?_; clear hE hS a w; intro a w hE hS
                refine WL.nil ?_
                refine W.seq ?_
                refine W.seq ?_
                refine W.regionQ (C := fun w => St w s84 (pt b169 (.cells (MendLink.cells x148).toArray 36 (0, 0)) :: nestC 22 3 1 (some ⟨b57, 0, none⟩) x55.length x55.length ds161 :: pt b51 (.cells #[.int .i64 x0.Period, .slice a0_0 x0.Plan.length c0_0, .slice a0_1 x0.Links.length c0_1] 25 (0, 0)) :: R)) mixed (by kernel_rfl) hS.drew ?_
                refine QL.v hE (runs_plain rfl) (Gives.p hE rfl) rfl ?_; clear hE a; intro a hE
                refine QL.v hE (runs_plain rfl) (Gives.p hE rfl) rfl ?_; clear hE a; intro a hE
                obtain ⟨x170, hx171, hq145⟩ := bindS hq145
                obtain ⟨hi172, hlt173, hy174⟩ := gx_some hx171
                obtain ⟨a175, c176, cs177, hd178, hev179⟩ := h162.at hy174
                refine QL.v hE (runs_plain rfl) (Gives.idx hE ((((k63 : Nat) : Int)).toNat) rfl rfl sl40 hi172 (by have := hn163; omega) (hS.nAok 1 rfl (by have := hn163; omega : (((k63 : Nat) : Int)).toNat < x55.length))) rfl ?_; clear hE a; intro a hE
                refine QL.v hE (runs_plain rfl) (Gives.load1 (v := .slice a175 x170.length c176) hE rfl (fun w h => St.nSees h 1 rfl hd178) ty22) rfl ?_; clear hE a; intro a hE
                refine QL.v hE (runs_plain rfl) (Gives.fld hE rfl fl36_0) rfl ?_; clear hE a; intro a hE
                refine QL.v hE (runs_plain rfl) (Gives.loadB hE 0 rfl rfl rfl ty3) rfl ?_; clear hE a; intro a hE
                obtain ⟨x180, hx181, hq145⟩ := bindS hq145
                obtain ⟨hi182, hlt183, hy184⟩ := gx_some hx181
                obtain ⟨vs185, hl186, hR187, hd188, hget189⟩ := hev179.at hy184
                subst hR187
                refine QL.v hE (runs_plain rfl) (Gives.idx hE ((x148.From).toNat) rfl rfl sl22 hi182 hlt183 (hS.nnAok 1 rfl hd178 hlt183)) rfl ?_; clear hE a; intro a hE
                refine QL.v hE (runs_plain rfl) (Gives.load1 hE rfl (fun w h => St.nnSees h 1 rfl hd178 ((x148.From).toNat * 1) _ hget189) ty3) rfl ?_; clear hE a; intro a hE
                refine QL.v hE (runs_plain rfl) (Gives.p hE rfl) rfl ?_; clear hE a; intro a hE
                refine QL.nil ?_; clear hS w; intro w hS
                refine W.cond hE rfl (fun hc190 => ?_) (fun hc190 => ?_)
                · replace hq145 := iteT hc190 hq145
                  refine W.exit rfl ?_
                  refine W.region ?_
                  refine WL.vS hS hE (runs_plain rfl) (Gives.inc hE rfl (by have := h0_1.small; omega)) rfl ?_; clear hE a; intro a hE
                  refine WL.vS hS hE (runs_plain rfl) (Gives.p hE rfl) rfl ?_; clear hE a; intro a hE
                  refine WL.nil ?_
                  replace hS := hS.tail
                  subst hK164
                  exact ⟨rest149.length, Nat.lt_succ_self _, rest149, k147 + 1, q156, q157, ds161, rfl, hd150, hq145, h162, hn163, hE.pick _ ⟨rfl, rfl, rfl, rfl, rfl, rfl, rfl, rfl, rfl, trivial⟩, hS⟩
                · replace hq145 := iteF hc190 hq145
                  refine W.skip ?_
                  refine W.seq ?_
                  refine W.regionQ (C := fun w => St w s84 (pt b169 (.cells (MendLink.cells x148).toArray 36 (0, 0)) :: nestC 22 3 1 (some ⟨b57, 0, none⟩) x55.length x55.length ds161 :: pt b51 (.cells #[.int .i64 x0.Period, .slice a0_0 x0.Plan.length c0_0, .slice a0_1 x0.Links.length c0_1] 25 (0, 0)) :: R)) mixed (by kernel_rfl) hS.drew ?_
                  refine QL.v hE (runs_plain rfl) (Gives.p hE rfl) rfl ?_; clear hE a; intro a hE
                  refine QL.v hE (runs_plain rfl) (Gives.p hE rfl) rfl ?_; clear hE a; intro a hE
                  obtain ⟨x191, hx192, hq145⟩ := bindS hq145
                  obtain ⟨hi193, hlt194, hy195⟩ := gx_some hx192
                  obtain ⟨a196, c197, cs198, hd199, hev200⟩ := h162.at hy195
                  refine QL.v hE (runs_plain rfl) (Gives.idx hE ((((k63 : Nat) : Int)).toNat) rfl rfl sl40 hi193 (by have := hn163; omega) (hS.nAok 1 rfl (by have := hn163; omega : (((k63 : Nat) : Int)).toNat < x55.length))) rfl ?_; clear hE a; intro a hE
                  refine QL.v hE (runs_plain rfl) (Gives.load1 (v := .slice a196 x191.length c197) hE rfl (fun w h => St.nSees h 1 rfl hd199) ty22) rfl ?_; clear hE a; intro a hE
                  refine QL.v hE (runs_plain rfl) (Gives.fld hE rfl fl36_0) rfl ?_; clear hE a; intro a hE
                  refine QL.v hE (runs_plain rfl) (Gives.loadB hE 0 rfl rfl rfl ty3) rfl ?_; clear hE a; intro a hE
                  obtain ⟨x201, hx202, hq145⟩ := bindS hq145
                  obtain ⟨hi203, hlt204, hy205⟩ := gx_some hx202
                  obtain ⟨vs206, hl207, hR208, hd209, hget210⟩ := hev200.at hy205
                  subst hR208
                  refine QL.v hE (runs_plain rfl) (Gives.idx hE ((x148.From).toNat) rfl rfl sl22 hi203 hlt204 (hS.nnAok 1 rfl hd199 hlt204)) rfl ?_; clear hE a; intro a hE
                  refine QL.v hE (runs_plain rfl) (Gives.load1 hE rfl (fun w h => St.nnSees h 1 rfl hd199 ((x148.From).toNat * 1) _ hget210) ty3) rfl ?_; clear hE a; intro a hE
                  refine QL.v hE (runs_plain rfl) (Gives.loadBA hE 2 rfl rfl ty25) rfl ?_; clear hE a; intro a hE
                  refine QL.v hE (runs_plain rfl) (Gives.loadBA hE 0 rfl rfl ty36) rfl ?_; clear hE a; intro a hE
                  obtain ⟨q211, hq212, hq145⟩ := bindS hq145
                  refine QL.fnq hE (fun w hS => MendRoundslack_ok hS h0_0 h0_1 hq212) (runs_plain rfl) bd55 rfl rfl rfl ?_; clear hE a; intro a hE
                  refine QL.v hE (runs_plain rfl) (Gives.p hE rfl) rfl ?_; clear hE a; intro a hE
                  refine QL.v hE (runs_plain rfl) (Gives.p hE rfl) rfl ?_; clear hE a; intro a hE
                  refine QL.nil ?_; clear hS w; intro w hS
                  refine W.seq ?_
                  obtain ⟨q214, hq213, hq145⟩ := bindS hq145
                  refine W.cut (fun a w => ∃ (q217 : Bool), q217 = q214 ∧ Rep a 100 [(1, .pointer (some ⟨b51, 0, none⟩)), (5, .slice (some ⟨b57, 0, none⟩) x55.length x55.length), (6, .int .i64 ((k63 : Nat) : Int)), (7, .bool q156), (9, .pointer (some ⟨b169, 0, none⟩)), (10, .int .i64 (w64 (x201 + q211))), (21, .int .i64 ((x55.length : Nat) : Int)), (22, .int .i64 ((k63 : Nat) : Int)), (41, .slice a0_1 x0.Links.length c0_1), (42, .int .i64 ((x0.Links).length : Int)), (43, .int .i64 ((k147 : Nat) : Int)), (88, .bool q217)] ∧ St w s84 (pt b169 (.cells (MendLink.cells x148).toArray 36 (0, 0)) :: nestC 22 3 1 (some ⟨b57, 0, none⟩) x55.length x55.length ds161 :: pt b51 (.cells #[.int .i64 x0.Period, .slice a0_0 x0.Plan.length c0_0, .slice a0_1 x0.Links.length c0_1] 25 (0, 0)) :: R)) ?_ ?_
                  · refine W.gen fun K218 hK218 => ?_
                    refine W.regionQ (C := fun w => St w s84 (pt b169 (.cells (MendLink.cells x148).toArray 36 (0, 0)) :: nestC 22 3 1 (some ⟨b57, 0, none⟩) x55.length x55.length ds161 :: pt b51 (.cells #[.int .i64 x0.Period, .slice a0_0 x0.Plan.length c0_0, .slice a0_1 x0.Links.length c0_1] 25 (0, 0)) :: R)) mixed (by kernel_rfl) hS.drew ?_
                    refine QL.v hE (runs_plain rfl) (Gives.p hE rfl) rfl ?_; clear hE a; intro a hE
                    refine QL.v hE (runs_plain rfl) (Gives.p hE rfl) rfl ?_; clear hE a; intro a hE
                    obtain ⟨x219, hx220, hq213⟩ := bindS hq213
                    obtain ⟨hi221, hlt222, hy223⟩ := gx_some hx220
                    obtain ⟨a224, c225, cs226, hd227, hev228⟩ := h162.at hy223
                    refine QL.v hE (runs_plain rfl) (Gives.idx hE ((((k63 : Nat) : Int)).toNat) rfl rfl sl40 hi221 (by have := hn163; omega) (hS.nAok 1 rfl (by have := hn163; omega : (((k63 : Nat) : Int)).toNat < x55.length))) rfl ?_; clear hE a; intro a hE
                    refine QL.v hE (runs_plain rfl) (Gives.load1 (v := .slice a224 x219.length c225) hE rfl (fun w h => St.nSees h 1 rfl hd227) ty22) rfl ?_; clear hE a; intro a hE
                    refine QL.v hE (runs_plain rfl) (Gives.fld hE rfl fl36_1) rfl ?_; clear hE a; intro a hE
                    refine QL.v hE (runs_plain rfl) (Gives.loadB hE 0 rfl rfl rfl ty3) rfl ?_; clear hE a; intro a hE
                    obtain ⟨x229, hx230, hq213⟩ := bindS hq213
                    obtain ⟨hi231, hlt232, hy233⟩ := gx_some hx230
                    obtain ⟨vs234, hl235, hR236, hd237, hget238⟩ := hev228.at hy233
                    subst hR236
                    refine QL.v hE (runs_plain rfl) (Gives.idx hE ((x148.To).toNat) rfl rfl sl22 hi231 hlt232 (hS.nnAok 1 rfl hd227 hlt232)) rfl ?_; clear hE a; intro a hE
                    refine QL.v hE (runs_plain rfl) (Gives.load1 hE rfl (fun w h => St.nnSees h 1 rfl hd227 ((x148.To).toNat * 1) _ hget238) ty3) rfl ?_; clear hE a; intro a hE
                    refine QL.v hE (runs_plain rfl) (Gives.p hE rfl) rfl ?_; clear hE a; intro a hE
                    refine QL.v hE (runs_plain rfl) (Gives.p hE rfl) rfl ?_; clear hE a; intro a hE
                    rcases Bool.eq_false_or_eq_true (decide (x229 < 0)) with hg239 | hg239
                    · replace hq213 := iteT hg239 hq213
                      refine QL.no hE (runs_not hE rfl rfl rfl (by rw [hg239]; decide)) rfl ?_; clear hE a; intro a hE
                      refine QL.no hE (runs_not hE rfl rfl rfl (by rw [hg239]; decide)) rfl ?_; clear hE a; intro a hE
                      refine QL.no hE (runs_not hE rfl rfl rfl (by rw [hg239]; decide)) rfl ?_; clear hE a; intro a hE
                      refine QL.no hE (runs_not hE rfl rfl rfl (by rw [hg239]; decide)) rfl ?_; clear hE a; intro a hE
                      refine QL.no hE (runs_not hE rfl rfl rfl (by rw [hg239]; decide)) rfl ?_; clear hE a; intro a hE
                      refine QL.no hE (runs_not hE rfl rfl rfl (by rw [hg239]; decide)) rfl ?_; clear hE a; intro a hE
                      refine QL.no hE (runs_not hE rfl rfl rfl (by rw [hg239]; decide)) rfl ?_; clear hE a; intro a hE
                      refine QL.no hE (runs_not hE rfl rfl rfl (by rw [hg239]; decide)) rfl ?_; clear hE a; intro a hE
                      refine QL.no hE (runs_not hE rfl rfl rfl (by rw [hg239]; decide)) rfl ?_; clear hE a; intro a hE
                      refine QL.no hE (runs_not hE rfl rfl rfl (by rw [hg239]; decide)) rfl ?_; clear hE a; intro a hE
                      refine QL.v hE (runs_plain rfl) (Gives.pickT hE rfl hg239 rfl) rfl ?_; clear hE a; intro a hE
                      refine QL.nil ?_; clear hS w; intro w hS
                      subst hK218
                      exact ⟨true, Option.some.inj hq213, hE.pick _ ⟨rfl, rfl, rfl, rfl, rfl, rfl, rfl, rfl, rfl, rfl, rfl, rfl, trivial⟩, hS⟩
                    · replace hq213 := iteF hg239 hq213
                      refine QL.v hE (runs_if hE rfl rfl rfl hg239) (Gives.p hE rfl) rfl ?_; clear hE a; intro a hE
                      refine QL.v hE (runs_if hE rfl rfl rfl hg239) (Gives.p hE rfl) rfl ?_; clear hE a; intro a hE
                      refine QL.v hE (runs_if hE rfl rfl rfl hg239) (Gives.p hE rfl) rfl ?_; clear hE a; intro a hE
                      obtain ⟨x240, hx241, hq213⟩ := bindS hq213
                      obtain ⟨hi242, hlt243, hy244⟩ := gx_some hx241
                      obtain ⟨a245, c246, cs247, hd248, hev249⟩ := h162.at hy244
                      refine QL.v hE (runs_if hE rfl rfl rfl hg239) (Gives.idx hE ((((k63 : Nat) : Int)).toNat) rfl rfl sl40 hi242 (by have := hn163; omega) (hS.nAok 1 rfl (by have := hn163; omega : (((k63 : Nat) : Int)).toNat < x55.length))) rfl ?_; clear hE a; intro a hE
                      refine QL.v hE (runs_if hE rfl rfl rfl hg239) (Gives.load1 (v := .slice a245 x240.length c246) hE rfl (fun w h => St.nSees h 1 rfl hd248) ty22) rfl ?_; clear hE a; intro a hE
                      refine QL.v hE (runs_if hE rfl rfl rfl hg239) (Gives.fld hE rfl fl36_1) rfl ?_; clear hE a; intro a hE
                      refine QL.v hE (runs_if hE rfl rfl rfl hg239) (Gives.loadB hE 0 rfl rfl rfl ty3) rfl ?_; clear hE a; intro a hE
                      obtain ⟨x250, hx251, hq213⟩ := bindS hq213
                      obtain ⟨hi252, hlt253, hy254⟩ := gx_some hx251
                      obtain ⟨vs255, hl256, hR257, hd258, hget259⟩ := hev249.at hy254
                      subst hR257
                      refine QL.v hE (runs_if hE rfl rfl rfl hg239) (Gives.idx hE ((x148.To).toNat) rfl rfl sl22 hi252 hlt253 (hS.nnAok 1 rfl hd248 hlt253)) rfl ?_; clear hE a; intro a hE
                      refine QL.v hE (runs_if hE rfl rfl rfl hg239) (Gives.load1 hE rfl (fun w h => St.nnSees h 1 rfl hd248 ((x148.To).toNat * 1) _ hget259) ty3) rfl ?_; clear hE a; intro a hE
                      refine QL.v hE (runs_if hE rfl rfl rfl hg239) (Gives.p hE rfl) rfl ?_; clear hE a; intro a hE
                      refine QL.v hE (runs_plain rfl) (Gives.pickF hE rfl hg239 rfl) rfl ?_; clear hE a; intro a hE
                      refine QL.nil ?_; clear hS w; intro w hS
                      subst hK218
                      exact ⟨decide ((w64 (x201 + q211)) < x250), Option.some.inj hq213, hE.pick _ ⟨rfl, rfl, rfl, rfl, rfl, rfl, rfl, rfl, rfl, rfl, rfl, rfl, trivial⟩, hS⟩
                  · clear hE hS a w; rintro a w ⟨q217, rfl, hE, hS⟩
                    obtain ⟨q261, hq260, hq145⟩ := bindS hq145
                    refine W.cut (fun a w => ∃ (q264 : Bool), ∃ (q265 : List (List Int)), ∃ (ds269 : List In), (q264, q265) = q261 ∧ NEv 1 (RI .i64) s84 ds269 q265 ∧ q265.length = x55.length ∧ Rep a 100 [(1, .pointer (some ⟨b51, 0, none⟩)), (5, .slice (some ⟨b57, 0, none⟩) x55.length x55.length), (6, .int .i64 ((k63 : Nat) : Int)), (7, .bool q264), (21, .int .i64 ((x55.length : Nat) : Int)), (22, .int .i64 ((k63 : Nat) : Int)), (41, .slice a0_1 x0.Links.length c0_1), (42, .int .i64 ((x0.Links).length : Int)), (43, .int .i64 ((k147 : Nat) : Int))] ∧ St w s84 (pt b169 (.cells (MendLink.cells x148).toArray 36 (0, 0)) :: nestC 22 3 1 (some ⟨b57, 0, none⟩) x55.length x55.length ds269 :: pt b51 (.cells #[.int .i64 x0.Period, .slice a0_0 x0.Plan.length c0_0, .slice a0_1 x0.Links.length c0_1] 25 (0, 0)) :: R)) ?_ ?_
                    · refine W.gen fun K272 hK272 => ?_
                      refine W.cond hE rfl (fun hc273 => ?_) (fun hc273 => ?_)
                      · replace hq260 := iteT hc273 hq260
                        refine W.gen fun K274 hK274 => ?_
                        refine W.regionE (sel (fun w => St w s84 (pt b169 (.cells (MendLink.cells x148).toArray 36 (0, 0)) :: nestC 22 3 1 (some ⟨b57, 0, none⟩) x55.length x55.length ds161 :: pt b51 (.cells #[.int .i64 x0.Period, .slice a0_0 x0.Plan.length c0_0, .slice a0_1 x0.Links.length c0_1] 25 (0, 0)) :: R)) (fun w => St w s84 (pt b169 (.cells (MendLink.cells x148).toArray 36 (0, 0)) :: pt b51 (.cells #[.int .i64 x0.Period, .slice a0_0 x0.Plan.length c0_0, .slice a0_1 x0.Links.length c0_1] 25 (0, 0)) :: R))) (fun b i => cond b ([0, 1, 2, 3, 4, 5, 6, 9].contains i) ([0, 1, 2, 3, 4, 5, 6, 7, 8, 9].contains i)) mixed ?_
                        replace hS := hS.drew
                        refine Rg.takeP (i := 0) hE rfl (by kernel_rfl) (runs_plain rfl) (Gives.p hE rfl) rfl (tw_sel (fun _ => hS) (fun _ => (hS.dropAt 1))) ?_; clear hE a; intro a hE
                        refine Rg.takeP (i := 1) hE rfl (by kernel_rfl) (runs_plain rfl) (Gives.p hE rfl) rfl (tw_sel (fun _ => hS) (fun _ => (hS.dropAt 1))) ?_; clear hE a; intro a hE
                        obtain ⟨x275, hx276, hq260⟩ := bindS hq260
                        obtain ⟨hi277, hlt278, hy279⟩ := gx_some hx276
                        obtain ⟨a280, c281, cs282, hd283, hev284⟩ := h162.at hy279
                        refine Rg.takeP (i := 2) hE rfl (by kernel_rfl) (runs_plain rfl) (Gives.idx hE ((((k63 : Nat) : Int)).toNat) rfl rfl sl40 hi277 (by have := hn163; omega) (hS.nAok 1 rfl (by have := hn163; omega : (((k63 : Nat) : Int)).toNat < x55.length))) rfl (tw_sel (fun _ => hS) (fun _ => (hS.dropAt 1))) ?_; clear hE a; intro a hE
                        have hT := tw_sel (A := fun w => St w s84 (pt b169 (.cells (MendLink.cells x148).toArray 36 (0, 0)) :: nestC 22 3 1 (some ⟨b57, 0, none⟩) x55.length x55.length ds161 :: pt b51 (.cells #[.int .i64 x0.Period, .slice a0_0 x0.Plan.length c0_0, .slice a0_1 x0.Links.length c0_1] 25 (0, 0)) :: R)) (B := fun w => St w s84 (pt b169 (.cells (MendLink.cells x148).toArray 36 (0, 0)) :: pt b51 (.cells #[.int .i64 x0.Period, .slice a0_0 x0.Plan.length c0_0, .slice a0_1 x0.Links.length c0_1] 25 (0, 0)) :: R)) (w := _) (x := true) (y := true) (fun _ => hS) (fun _ => (hS.dropAt 1))
                        have hF := hS; replace hS := hS
                        refine Rg.take (i := 3) true rfl hE rfl (by kernel_rfl) (runs_plain rfl) (Gives.load1 (v := .slice a280 x275.length c281) hE rfl (fun w h => St.nSees h 1 rfl hd283) ty22) rfl hT ?_; clear hE a; intro a hE
                        replace hS := hF; clear hF hT
                        refine Rg.takeP (i := 4) hE rfl (by kernel_rfl) (runs_plain rfl) (Gives.fld hE rfl fl36_1) rfl (tw_sel (fun _ => hS) (fun _ => (hS.dropAt 1))) ?_; clear hE a; intro a hE
                        have hT := tw_sel (A := fun w => St w s84 (pt b169 (.cells (MendLink.cells x148).toArray 36 (0, 0)) :: nestC 22 3 1 (some ⟨b57, 0, none⟩) x55.length x55.length ds161 :: pt b51 (.cells #[.int .i64 x0.Period, .slice a0_0 x0.Plan.length c0_0, .slice a0_1 x0.Links.length c0_1] 25 (0, 0)) :: R)) (B := fun w => St w s84 (pt b169 (.cells (MendLink.cells x148).toArray 36 (0, 0)) :: pt b51 (.cells #[.int .i64 x0.Period, .slice a0_0 x0.Plan.length c0_0, .slice a0_1 x0.Links.length c0_1] 25 (0, 0)) :: R)) (w := _) (x := true) (y := true) (fun _ => hS) (fun _ => (hS.dropAt 1))
                        have hF := hS; replace hS := hS
                        refine Rg.take (i := 5) true rfl hE rfl (by kernel_rfl) (runs_plain rfl) (Gives.loadB hE 0 rfl rfl rfl ty3) rfl hT ?_; clear hE a; intro a hE
                        replace hS := hF; clear hF hT
                        refine Rg.takeP (i := 6) hE rfl (by kernel_rfl) (runs_plain rfl) (Gives.p hE rfl) rfl (tw_sel (fun _ => hS) (fun _ => (hS.dropAt 1))) ?_; clear hE a; intro a hE
                        refine Rg.one (i := 7) false true rfl (by kernel_rfl) (by kernel_rfl) (by kernel_rfl) ?_
                        replace hS := hS.borrowM 1 rfl hd283
                        obtain ⟨_, hx287, hq260⟩ := bindS hq260
                        obtain ⟨h288, h289⟩ := ix_some hx287
                        refine WL.vS hS hE (runs_plain rfl) (Gives.idx hE ((x148.To).toNat) rfl rfl sl22 h288 (by omega) (hS.vecAok 0 rfl (by omega : (x148.To).toNat < x275.length))) rfl ?_; clear hE a; intro a hE
                        refine WL.nil ?_
                        refine ⟨⟨fun h => absurd h (by decide), fun _ => ((hS.tail).dropAt 1)⟩, ?_⟩
                        refine Rg.one (i := 8) false true rfl (by kernel_rfl) (by kernel_rfl) (by kernel_rfl) ?_
                        obtain ⟨x291, hx292, hq260⟩ := bindS hq260
                        refine WL.setD hE hS 0 rfl (runs_plain rfl) rfl rfl (vs := [.int .i64 (w64 (x201 + q211))]) rfl ty3 rfl rfl rfl hev284 (rfl) (sx_some hx292).1 hx292 rfl rfl ?_; clear hE hS a w; intro cs293 a w h294 hn295 hE hS
                        refine WL.nil ?_
                        refine ⟨⟨fun h => absurd h (by decide), fun _ => ((hS.tail).dropAt 1)⟩, ?_⟩
                        refine Rg.takeP (i := 9) hE rfl (by kernel_rfl) (runs_plain rfl) (Gives.p hE rfl) rfl (tw_sel (fun h => absurd h (by decide)) (fun _ => ((hS.tail).dropAt 1))) ?_; clear hE a; intro a hE
                        refine Rg.done (by kernel_rfl) ?_
                        subst hK274
                        replace hS := hS.giveBack 1 rfl hd283
                        have h297 := h162.set (k := (((k63 : Nat) : Int)).toNat) (d := ⟨a280, c281, x275.length, cs293⟩) h294 hn295
                        have hn298 : (q157.set ((((k63 : Nat) : Int)).toNat) x291).length = x55.length := by simp; exact hn163
                        generalize List.set ds161 ((((k63 : Nat) : Int)).toNat) _ = ds296 at hS h297
                        subst hK272
                        exact ⟨true, (q157.set ((((k63 : Nat) : Int)).toNat) x291), ds296, Option.some.inj hq260, h297, hn298, hE.pick _ ⟨rfl, rfl, rfl, rfl, rfl, rfl, rfl, rfl, rfl, trivial⟩, hS⟩
                      · replace hq260 := iteF hc273 hq260
                        refine W.skip ?_
                        subst hK272
                        exact ⟨q156, q157, ds161, Option.some.inj hq260, h162, hn163, hE.pick _ ⟨rfl, rfl, rfl, rfl, rfl, rfl, rfl, rfl, rfl, trivial⟩, hS⟩
                    · clear hE hS a w; rintro a w ⟨q264, q265, ds269, rfl, h270, hn271, hE, hS⟩
                      dsimp only at hq145
                      refine W.region ?_
                      refine WL.vS hS hE (runs_plain rfl) (Gives.inc hE rfl (by have := h0_1.small; omega)) rfl ?_; clear hE a; intro a hE
                      refine WL.vS hS hE (runs_plain rfl) (Gives.p hE rfl) rfl ?_; clear hE a; intro a hE
                      refine WL.nil ?_
                      replace hS := hS.tail
                      subst hK164
                      exact ⟨rest149.length, Nat.lt_succ_self _, rest149, k147 + 1, q264, q265, ds269, rfl, hd150, hq145, h270, hn271, hE.pick _ ⟨rfl, rfl, rfl, rfl, rfl, rfl, rfl, rfl, rfl, trivial⟩, hS⟩
            · clear hE hS a w; rintro a w ⟨q156, q157, ds161, rfl, h162, hn163, hE, hS⟩
              dsimp only at hq129
              subst hK143
              exact ⟨n131, Nat.lt_succ_self _, n131, q156, q157, ds161, rfl, hq129, h162, hn163, hE.pick _ ⟨rfl, rfl, rfl, rfl, rfl, rfl, trivial⟩, hS⟩
          · replace hq129 := iteF hc144 hq129
            subst hK143
            refine W.exit rfl ?_
            exact ⟨q135, q136, ds140, Option.some.inj hq129, h141, hn142, hE.pick _ ⟨rfl, rfl, rfl, rfl, trivial⟩, hS⟩
        · clear hE hS a w; rintro a w ⟨q135, q136, ds140, rfl, h141, hn142, hE, hS⟩
          dsimp only at hq61
          refine W.region ?_
          refine WL.vS hS hE (runs_plain rfl) (Gives.inc hE rfl (by omega)) rfl ?_; clear hE a; intro a hE
          refine WL.vS hS hE (runs_plain rfl) (Gives.p hE rfl) rfl ?_; clear hE a; intro a hE
          refine WL.nil ?_
          subst hK80
          exact ⟨rest65, Nat.lt_succ_self _, rest65, k63 + 1, q136, ds140, s84, rfl, (by omega), (Sg.Le.trans hle71 hle85), hq61, h141, hn142, hE.pick _ ⟨rfl, rfl, rfl, rfl, trivial⟩, hS⟩
    · clear hE hS a w; rintro a w ⟨q73, ds77, s70, hle71, rfl, h78, hn79, hE, hS⟩
      replace h0_0 := Sl.mono RI.mono hle71 h0_0
      replace h0_1 := Sl.mono RMendLink.mono hle71 h0_1
      replace h59 := NEv.mono RI.mono hle71 h59
      refine W.seq ?_
      refine W.region ?_
      refine WL.vS hS hE (runs_plain rfl) (Gives.p hE rfl) rfl ?_; clear hE a; intro a hE
      refine WL.vS hS hE (runs_plain rfl) (Gives.p hE rfl) rfl ?_; clear hE a; intro a hE
      refine WL.vS hS hE (runs_plain rfl) (Gives.p hE rfl) rfl ?_; clear hE a; intro a hE
      refine WL.nil ?_
      refine W.ret ?_
      have hF := hS.fixN RI.mono 0 rfl h78 hn79; clear hS; obtain ⟨s299, hle300, hS, h301⟩ := hF
      (try rw [← hn79] at hE)
      (try rw [← hn79] at hS)
      (try rw [← hn79] at h301)
      replace h0_0 := Sl.mono RI.mono hle300 h0_0
      replace h0_1 := Sl.mono RMendLink.mono hle300 h0_1
      refine finG (fn := Try.f34) (rs := [.tmp 2, .tmp 3]) (vs := [_, _]) hE rfl ⟨rfl, rfl, trivial⟩ ?_
      obtain rfl := Option.some.inj hr
      replace hS := hS.tail
      exact ⟨(some ⟨b57, 0, none⟩), q73.length, s299, rfl, (Sg.Le.trans hle71 hle300), h301, hS⟩
set_option maxHeartbeats 8000000 in
theorem SlicesEqualLint_ok  {w : World} {s : Sg} {R : List HP} {x0 : List Int} {a0 : Option Addr} {c0 : Nat} {x1 : List Int} {a1 : Option Addr} {c1 : Nat} (hS : St w s (R)) (h0 : Sl 1 (RI .i64) s a0 c0 x0) (h1 : Sl 1 (RI .i64) s a1 c1 x1) {r : Bool} (hr : SlicesEqualLint x0 x1 = some r) :
    Calls Try.prog 28 [.slice a0 x0.length c0, .slice a1 x1.length c1].toArray w (fun e w => e = .returned (.bool r) ∧ St w s (R)) := by
  refine enter Try.func28 rfl rfl rfl fun a hE => ?_
  rw [SlicesEqualLint] at hr
  refine W.seq ?_
  refine W.region ?_
  refine WL.vS hS hE (runs_plain rfl) (Gives.p hE rfl) rfl ?_; clear hE a; intro a hE
  refine WL.nil ?_
  refine W.seq ?_
  refine W.seq ?_
  refine W.region ?_
  refine WL.vS hS hE (runs_plain rfl) (Gives.p hE rfl) rfl ?_; clear hE a; intro a hE
  refine WL.vS hS hE (runs_plain rfl) (Gives.len hE rfl sl22) rfl ?_; clear hE a; intro a hE
  refine WL.vS hS hE (runs_plain rfl) (Gives.p hE rfl) rfl ?_; clear hE a; intro a hE
  refine WL.vS hS hE (runs_plain rfl) (Gives.len hE rfl sl22) rfl ?_; clear hE a; intro a hE
  refine WL.vS hS hE (runs_plain rfl) (Gives.p hE rfl) rfl ?_; clear hE a; intro a hE
  refine WL.nil ?_
  refine W.cond hE rfl (fun hc51 => ?_) (fun hc51 => ?_)
  · replace hr := iteT hc51 hr
    refine W.seq ?_
    refine W.region ?_
    refine WL.vS hS hE (runs_plain rfl) (Gives.p hE rfl) rfl ?_; clear hE a; intro a hE
    refine WL.nil ?_
    refine W.ret ?_
    refine finG (fn := Try.f28) (rs := [.tmp 4]) (vs := [_]) hE rfl ⟨rfl, trivial⟩ ?_
    obtain rfl := Option.some.inj hr
    exact ⟨rfl, hS⟩
  · replace hr := iteF hc51 hr
    refine W.skip ?_
    refine W.seq ?_
    refine W.seq ?_
    refine W.region ?_
    refine WL.vS hS hE (runs_plain rfl) (Gives.p hE rfl) rfl ?_; clear hE a; intro a hE
    refine WL.vS hS hE (runs_plain rfl) (Gives.len hE rfl sl22) rfl ?_; clear hE a; intro a hE
    refine WL.vS hS hE (runs_plain rfl) (Gives.p hE rfl) rfl ?_; clear hE a; intro a hE
    refine WL.nil ?_
    obtain ⟨q53, hq52, hr⟩ := bindS hr
    refine W.cut (fun a w => (.next ()) = q53 ∧ Rep a 26 [] ∧ St w s (R)) ?_ ?_
    · refine W.block ?_
      refine W.loop (fun m a w => ∃ (rest56 : List Int) (k54 : Nat), rest56.length = m ∧ x0.drop k54 = rest56 ∧ SlicesEqualLint.loop1 x1 rest56 k54 = some q53 ∧ Rep a 26 [(0, .slice a0 x0.length c0), (1, .slice a1 x1.length c1), (12, .int .i64 ((x0).length : Int)), (13, .int .i64 ((k54 : Nat) : Int))] ∧ St w s (R)) (m := x0.length) ⟨x0, 0, rfl, rfl, hq52, hE.pick _ ⟨rfl, rfl, rfl, rfl, trivial⟩, hS⟩ ?_
      clear hE hS a w hq52; rintro m60 a w ⟨rest56, k54, rfl, hd57, hq52, hE, hS⟩
      refine W.gen fun K63 hK63 => ?_
      rcases rest56 with _ | ⟨x55, rest56⟩
      · have hlt58 := drop_nil hd57
        refine W.seq ?_
        refine W.region ?_
        refine WL.vS hS hE (runs_plain rfl) (Gives.p hE rfl) rfl ?_; clear hE a; intro a hE
        refine WL.nil ?_
        refine W.seq ?_
        refine W.condF hE rfl (decide_eq_false (by omega)) ?_
        subst hK63
        refine W.exit rfl ?_
        exact ⟨Option.some.inj hq52, hE.pick _ trivial, hS⟩
      · obtain ⟨hlt58, hx59, hd57⟩ := drop_cons hd57
        rw [SlicesEqualLint.loop1] at hq52
        refine W.seq ?_
        refine W.region ?_
        refine WL.vS hS hE (runs_plain rfl) (Gives.p hE rfl) rfl ?_; clear hE a; intro a hE
        refine WL.nil ?_
        refine W.seq ?_
        refine W.condT hE rfl (decide_eq_true (by omega)) ?_
        refine W.skip ?_
        refine W.seq ?_
        refine W.block ?_
        refine W.seq ?_
        refine W.region ?_
        refine WL.vS hS hE (runs_plain rfl) (Gives.p hE rfl) rfl ?_; clear hE a; intro a hE
        refine WL.vS hS hE (runs_plain rfl) (Gives.p hE rfl) rfl ?_; clear hE a; intro a hE
        refine WL.nil ?_
        refine W.seq ?_
        refine W.regionQ (C := fun w => St w s (R)) mixed (by kernel_rfl) hS.drew ?_
        refine QL.v hE (runs_plain rfl) (Gives.p hE rfl) rfl ?_; clear hE a; intro a hE
        refine QL.v hE (runs_plain rfl) (Gives.p hE rfl) rfl ?_; clear hE a; intro a hE
        obtain ⟨cs64, hl65, hR66, hat67⟩ := h0.at hx59
        subst hR66
        refine QL.v hE (runs_plain rfl) (Gives.idx hE k54 rfl rfl sl22 rfl hlt58 (h0.aok hlt58)) rfl ?_; clear hE a; intro a hE
        refine QL.v hE (runs_plain rfl) (Gives.load1 hE rfl (fun w h => hat67 w _ h) ty3) rfl ?_; clear hE a; intro a hE
        refine QL.v hE (runs_plain rfl) (Gives.p hE rfl) rfl ?_; clear hE a; intro a hE
        refine QL.v hE (runs_plain rfl) (Gives.p hE rfl) rfl ?_; clear hE a; intro a hE
        obtain ⟨x68, hx69, hq52⟩ := bindS hq52
        obtain ⟨hi70, hlt71, hy72⟩ := gx_some hx69
        obtain ⟨cs73, hl74, hR75, hat76⟩ := h1.at hy72
        subst hR75
        refine QL.v hE (runs_plain rfl) (Gives.idx hE (((k54 : Nat) : Int)).toNat rfl rfl sl22 hi70 hlt71 (h1.aok hlt71)) rfl ?_; clear hE a; intro a hE
        refine QL.v hE (runs_plain rfl) (Gives.load1 hE rfl (fun w h => hat76 w _ h) ty3) rfl ?_; clear hE a; intro a hE
        refine QL.v hE (runs_plain rfl) (Gives.p hE rfl) rfl ?_; clear hE a; intro a hE
        refine QL.nil ?_; clear hS w; intro w hS
        refine W.cond hE rfl (fun hc77 => ?_) (fun hc77 => ?_)
        · replace hq52 := iteT hc77 hq52
          refine W.seq ?_
          refine W.region ?_
          refine WL.vS hS hE (runs_plain rfl) (Gives.p hE rfl) rfl ?_; clear hE a; intro a hE
          refine WL.nil ?_
          refine W.ret ?_
          subst hK63
          rw [← Option.some.inj hq52] at hr
          dsimp only at hr
          refine finG (fn := Try.f28) (rs := [.tmp 4]) (vs := [_]) hE rfl ⟨rfl, trivial⟩ ?_
          obtain rfl := Option.some.inj hr
          exact ⟨rfl, hS⟩
        · replace hq52 := iteF hc77 hq52
          refine W.skip ?_
          refine W.region ?_
          refine WL.vS hS hE (runs_plain rfl) (Gives.inc hE rfl (by have := h0.small; omega)) rfl ?_; clear hE a; intro a hE
          refine WL.vS hS hE (runs_plain rfl) (Gives.p hE rfl) rfl ?_; clear hE a; intro a hE
          refine WL.nil ?_
          subst hK63
          exact ⟨rest56.length, Nat.lt_succ_self _, rest56, k54 + 1, rfl, hd57, hq52, hE.pick _ ⟨rfl, rfl, rfl, rfl, trivial⟩, hS⟩
    · clear hE hS a w; rintro a w ⟨rfl, hE, hS⟩
      dsimp only at hr
      refine W.seq ?_
      refine W.region ?_
      refine WL.vS hS hE (runs_plain rfl) (Gives.p hE rfl) rfl ?_; clear hE a; intro a hE
      refine WL.nil ?_
      refine W.ret ?_
      refine finG (fn := Try.f28) (rs := [.tmp 4]) (vs := [_]) hE rfl ⟨rfl, trivial⟩ ?_
      obtain rfl := Option.some.inj hr
      exact ⟨rfl, hS⟩
set_option maxHeartbeats 8000000 in
theorem SlicesEqualFuncLLint_v1_ok  {w : World} {s : Sg} {R : List HP} {x0 : List (List Int)} {a0 : Option Addr} {c0 : Nat} {x1 : List (List Int)} {a1 : Option Addr} {c1 : Nat} (hS : St w s (R)) (h0 : Sl 1 (RL 1 (RI .i64)) s a0 c0 x0) (h1 : Sl 1 (RL 1 (RI .i64)) s a1 c1 x1) {r : Bool} (hr : SlicesEqualFuncLLint_v1 x0 x1 = some r) :
    Calls Try.prog 61 [.slice a0 x0.length c0, .slice a1 x1.length c1, .func (.func 28) #[] #[]].toArray w (fun e w => e = .returned (.bool r) ∧ St w s (R)) := by
  refine enter Try.func61 rfl rfl rfl fun a hE => ?_
  rw [SlicesEqualFuncLLint_v1] at hr
  refine W.seq ?_
  refine W.region ?_
  refine WL.vS hS hE (runs_plain rfl) (Gives.p hE rfl) rfl ?_; clear hE a; intro a hE
  refine WL.nil ?_
  refine W.seq ?_
  refine W.seq ?_
  refine W.region ?_
  refine WL.vS hS hE (runs_plain rfl) (Gives.p hE rfl) rfl ?_; clear hE a; intro a hE
  refine WL.vS hS hE (runs_plain rfl) (Gives.len hE rfl sl40) rfl ?_; clear hE a; intro a hE
  refine WL.vS hS hE (runs_plain rfl) (Gives.p hE rfl) rfl ?_; clear hE a; intro a hE
  refine WL.vS hS hE (runs_plain rfl) (Gives.len hE rfl sl40) rfl ?_; clear hE a; intro a hE
  refine WL.vS hS hE (runs_plain rfl) (Gives.p hE rfl) rfl ?_; clear hE a; intro a hE
  refine WL.nil ?_
  refine W.cond hE rfl (fun hc51 => ?_) (fun hc51 => ?_)
  · replace hr := iteT hc51 hr
    refine W.seq ?_
    refine W.region ?_
    refine WL.vS hS hE (runs_plain rfl) (Gives.p hE rfl) rfl ?_; clear hE a; intro a hE
    refine WL.nil ?_
    refine W.ret ?_
    refine finG (fn := Try.f61) (rs := [.tmp 6]) (vs := [_]) hE rfl ⟨rfl, trivial⟩ ?_
    obtain rfl := Option.some.inj hr
    exact ⟨rfl, hS⟩
  · replace hr := iteF hc51 hr
    refine W.skip ?_
    refine W.seq ?_
    refine W.seq ?_
    refine W.region ?_
    refine WL.vS hS hE (runs_plain rfl) (Gives.p hE rfl) rfl ?_; clear hE a; intro a hE
    refine WL.vS hS hE (runs_plain rfl) (Gives.len hE rfl sl40) rfl ?_; clear hE a; intro a hE
    refine WL.vS hS hE (runs_plain rfl) (Gives.p hE rfl) rfl ?_; clear hE a; intro a hE
    refine WL.nil ?_
    obtain ⟨q53, hq52, hr⟩ := bindS hr
    refine W.cut (fun a w => (.next ()) = q53 ∧ Rep a 32 [] ∧ St w s (R)) ?_ ?_
    · refine W.block ?_
      refine W.loop (fun m a w => ∃ (rest56 : List (List Int)) (k54 : Nat), rest56.length = m ∧ x0.drop k54 = rest56 ∧ SlicesEqualFuncLLint_v1.loop1 x1 rest56 k54 = some q53 ∧ Rep a 32 [(1, .slice a1 x1.length c1), (2, .func (.func 28) #[] #[]), (15, .slice a0 x0.length c0), (16, .int .i64 ((x0).length : Int)), (17, .int .i64 ((k54 : Nat) : Int))] ∧ St w s (R)) (m := x0.length) ⟨x0, 0, rfl, rfl, hq52, hE.pick _ ⟨rfl, rfl, rfl, rfl, rfl, trivial⟩, hS⟩ ?_
      clear hE hS a w hq52; rintro m60 a w ⟨rest56, k54, rfl, hd57, hq52, hE, hS⟩
      refine W.gen fun K63 hK63 => ?_
      rcases rest56 with _ | ⟨x55, rest56⟩
      · have hlt58 := drop_nil hd57
        refine W.seq ?_
        refine W.region ?_
        refine WL.vS hS hE (runs_plain rfl) (Gives.p hE rfl) rfl ?_; clear hE a; intro a hE
        refine WL.nil ?_
        refine W.seq ?_
        refine W.condF hE rfl (decide_eq_false (by omega)) ?_
        subst hK63
        refine W.exit rfl ?_
        exact ⟨Option.some.inj hq52, hE.pick _ trivial, hS⟩
      · obtain ⟨hlt58, hx59, hd57⟩ := drop_cons hd57
        rw [SlicesEqualFuncLLint_v1.loop1] at hq52
        refine W.seq ?_
        refine W.region ?_
        refine WL.vS hS hE (runs_plain rfl) (Gives.p hE rfl) rfl ?_; clear hE a; intro a hE
        refine WL.nil ?_
        refine W.seq ?_
        refine W.condT hE rfl (decide_eq_true (by omega)) ?_
        refine W.skip ?_
        refine W.seq ?_
        refine W.block ?_
        refine W.seq ?_
        refine W.region ?_
        refine WL.vS hS hE (runs_plain rfl) (Gives.p hE rfl) rfl ?_; clear hE a; intro a hE
        obtain ⟨cs64, hl65, hR66, hat67⟩ := h0.at hx59
        obtain ⟨a68, c69, rfl, h70⟩ := hR66
        refine WL.vS hS hE (runs_plain rfl) (Gives.idx hE k54 rfl rfl sl40 rfl hlt58 (h0.aok hlt58)) rfl ?_; clear hE a; intro a hE
        refine WL.vS hS hE (runs_plain rfl) (Gives.load1 hE rfl (fun w h => hat67 w _ h) ty22) rfl ?_; clear hE a; intro a hE
        refine WL.vS hS hE (runs_plain rfl) (Gives.p hE rfl) rfl ?_; clear hE a; intro a hE
        refine WL.vS hS hE (runs_plain rfl) (Gives.p hE rfl) rfl ?_; clear hE a; intro a hE
        refine WL.nil ?_
        refine W.seq ?_
        refine W.region ?_
        refine WL.vS hS hE (runs_plain rfl) (Gives.p hE rfl) rfl ?_; clear hE a; intro a hE
        refine WL.vS hS hE (runs_plain rfl) (Gives.p hE rfl) rfl ?_; clear hE a; intro a hE
        obtain ⟨x71, hx72, hq52⟩ := bindS hq52
        obtain ⟨hi73, hlt74, hy75⟩ := gx_some hx72
        obtain ⟨cs76, hl77, hR78, hat79⟩ := h1.at hy75
        obtain ⟨a80, c81, rfl, h82⟩ := hR78
        refine WL.vS hS hE (runs_plain rfl) (Gives.idx hE (((k54 : Nat) : Int)).toNat rfl rfl sl40 hi73 hlt74 (h1.aok hlt74)) rfl ?_; clear hE a; intro a hE
        refine WL.vS hS hE (runs_plain rfl) (Gives.load1 hE rfl (fun w h => hat79 w _ h) ty22) rfl ?_; clear hE a; intro a hE
        refine WL.vS hS hE (runs_plain rfl) (Gives.p hE rfl) rfl ?_; clear hE a; intro a hE
        refine WL.nil ?_
        refine W.seq ?_
        refine W.region ?_
        refine WL.vS hS hE (runs_plain rfl) (Gives.p hE rfl) rfl ?_; clear hE a; intro a hE
        refine WL.vS hS hE (runs_plain rfl) (Gives.p hE rfl) rfl ?_; clear hE a; intro a hE
        refine WL.vS hS hE (runs_plain rfl) (Gives.p hE rfl) rfl ?_; clear hE a; intro a hE
        obtain ⟨q83, hq84, hq52⟩ := bindS hq52
        have hc_ := SlicesEqualLint_ok hS h70 h82 hq84
        refine WL.fnw hE (hc_) rfl (runs_plain rfl) bd28 rfl rfl rfl ?_
        clear hE hS hc_; rintro e w ⟨rfl, hS⟩; refine ⟨_, rfl, ?_⟩; clear a; intro a hE
        refine WL.vS hS hE (runs_plain rfl) (Gives.p hE rfl) rfl ?_; clear hE a; intro a hE
        refine WL.nil ?_
        refine W.cond hE rfl (fun hc85 => ?_) (fun hc85 => ?_)
        · replace hq52 := iteT hc85 hq52
          refine W.seq ?_
          refine W.region ?_
          refine WL.vS hS hE (runs_plain rfl) (Gives.p hE rfl) rfl ?_; clear hE a; intro a hE
          refine WL.nil ?_
          refine W.ret ?_
          subst hK63
          rw [← Option.some.inj hq52] at hr
          dsimp only at hr
          refine finG (fn := Try.f61) (rs := [.tmp 6]) (vs := [_]) hE rfl ⟨rfl, trivial⟩ ?_
          obtain rfl := Option.some.inj hr
          exact ⟨rfl, hS⟩
        · replace hq52 := iteF hc85 hq52
          refine W.skip ?_
          refine W.region ?_
          refine WL.vS hS hE (runs_plain rfl) (Gives.inc hE rfl (by have := h0.small; omega)) rfl ?_; clear hE a; intro a hE
          refine WL.vS hS hE (runs_plain rfl) (Gives.p hE rfl) rfl ?_; clear hE a; intro a hE
          refine WL.nil ?_
          subst hK63
          exact ⟨rest56.length, Nat.lt_succ_self _, rest56, k54 + 1, rfl, hd57, hq52, hE.pick _ ⟨rfl, rfl, rfl, rfl, rfl, trivial⟩, hS⟩
    · clear hE hS a w; rintro a w ⟨rfl, hE, hS⟩
      dsimp only at hr
      refine W.seq ?_
      refine W.region ?_
      refine WL.vS hS hE (runs_plain rfl) (Gives.p hE rfl) rfl ?_; clear hE a; intro a hE
      refine WL.nil ?_
      refine W.ret ?_
      refine finG (fn := Try.f61) (rs := [.tmp 6]) (vs := [_]) hE rfl ⟨rfl, trivial⟩ ?_
      obtain rfl := Option.some.inj hr
      exact ⟨rfl, hS⟩
set_option maxHeartbeats 8000000 in
theorem Fishlaw2lists_ok  {w : World} {s : Sg} {R : List HP} {x0 : List (List Int)} {a0 : Option Addr} {c0 : Nat} {x1 : List (List Int)} {a1 : Option Addr} {c1 : Nat} (hS : St w s (R)) (h0 : Sl 1 (RL 1 (RI .i64)) s a0 c0 x0) (h1 : Sl 1 (RL 1 (RI .i64)) s a1 c1 x1) {r : Bool} (hr : Fishlaw2lists x0 x1 = some r) :
    Calls Try.prog 21 [.slice a0 x0.length c0, .slice a1 x1.length c1].toArray w (fun e w => e = .returned (.bool r) ∧ St w s (R)) := by
  refine enter Try.func21 rfl rfl rfl fun a hE => ?_
  rw [Fishlaw2lists] at hr
  refine W.seq ?_
  refine W.region ?_
  refine WL.vS hS hE (runs_plain rfl) (Gives.p hE rfl) rfl ?_; clear hE a; intro a hE
  refine WL.nil ?_
  refine W.seq ?_
  refine W.region ?_
  refine WL.vS hS hE (runs_plain rfl) (Gives.p hE rfl) rfl ?_; clear hE a; intro a hE
  refine WL.vS hS hE (runs_plain rfl) (Gives.p hE rfl) rfl ?_; clear hE a; intro a hE
  obtain ⟨q51, hq52, hr⟩ := bindS hr
  have hc_ := SlicesEqualFuncLLint_v1_ok hS h0 h1 hq52
  refine WL.fnq hE (hc_) (runs_plain rfl) bd61 rfl rfl rfl ?_
  clear hE hS hc_; rintro e w ⟨rfl, hS⟩; refine ⟨_, rfl, ?_⟩; clear a; intro a hE
  refine WL.vS hS hE (runs_plain rfl) (Gives.p hE rfl) rfl ?_; clear hE a; intro a hE
  refine WL.nil ?_
  refine W.ret ?_
  refine finG (fn := Try.f21) (rs := [.tmp 4]) (vs := [_]) hE rfl ⟨rfl, trivial⟩ ?_
  obtain rfl := Option.some.inj hr
  exact ⟨rfl, hS⟩
set_option maxHeartbeats 8000000 in
theorem Fishlaw2rounds_ok {fu : Nat}  {w : World} {s : Sg} {R : List HP}  (hS : St w s (R))  {r : Bool} (hr : Fishlaw2rounds fu = some r) :
    Calls Try.prog 15 [].toArray w (fun e w => e = .returned (.bool r) ∧ St w s (R)) := by
  refine enter Try.func15 rfl rfl rfl fun a hE => ?_
  rw [Fishlaw2rounds] at hr
  refine W.seq ?_
  refine W.region ?_
  refine WL.vS hS hE (runs_plain rfl) (Gives.p hE rfl) rfl ?_; clear hE a; intro a hE
  refine WL.nil ?_
  refine W.seq ?_
  refine W.region ?_
  refine WL.lit hE hS (e := 3) (es := 1) (vs := [(0, .int .i64 0), (1, .int .i64 20)]) (cs := [.int .i64 0, .int .i64 20]) (runs_plain rfl) rfl (by kernel_rfl) rfl ?_; clear hE hS a w; intro b51 a w hE hS
  replace hS := hS.ptVec (es := 1) (m := 2) rfl (by decide)
  have h53 : Ev 1 (RI .i64) s [.int .i64 0, .int .i64 20] [0, 20] := (Ev.cons (c1 := [.int .i64 0]) rfl rfl (Ev.cons (c1 := [.int .i64 20]) rfl rfl (Ev.nil)))
  have hF := hS.fixD RI.mono 0 rfl h53 (rfl); clear hS; obtain ⟨s54, hle55, hS, h56⟩ := hF
  refine WL.vS hS hE (runs_plain rfl) (Gives.build hE (vs := [(0, .int .i64 0), (1, .int .i64 1), (2, .int .i64 15)]) [.int .i64 0, .int .i64 1, .int .i64 15, .int .i64 0] rfl (by kernel_rfl)) rfl ?_; clear hE a; intro a hE
  refine WL.vS hS hE (runs_plain rfl) (Gives.build hE (vs := [(0, .int .i64 1), (1, .int .i64 0), (2, .int .i64 35), (3, .int .i64 1)]) [.int .i64 1, .int .i64 0, .int .i64 35, .int .i64 1] rfl (by kernel_rfl)) rfl ?_; clear hE a; intro a hE
  refine WL.lit hE hS (e := 36) (es := 4) (vs := [(0, .agg [.int .i64 0, .int .i64 1, .int .i64 15, .int .i64 0].toArray), (1, .agg [.int .i64 1, .int .i64 0, .int .i64 35, .int .i64 1].toArray)]) (cs := [.int .i64 0, .int .i64 1, .int .i64 15, .int .i64 0, .int .i64 1, .int .i64 0, .int .i64 35, .int .i64 1]) (runs_plain rfl) rfl (by kernel_rfl) rfl ?_; clear hE hS a w; intro b57 a w hE hS
  replace hS := hS.ptVec (es := 4) (m := 2) rfl (by decide)
  have h59 : Ev 4 RMendLink s54 [.int .i64 0, .int .i64 1, .int .i64 15, .int .i64 0, .int .i64 1, .int .i64 0, .int .i64 35, .int .i64 1] [(MendLink.mk 0 1 15 0), (MendLink.mk 1 0 35 1)] := (Ev.cons (c1 := [.int .i64 0, .int .i64 1, .int .i64 15, .int .i64 0]) rfl rfl (Ev.cons (c1 := [.int .i64 1, .int .i64 0, .int .i64 35, .int .i64 1]) rfl rfl (Ev.nil)))
  have hF := hS.fixD RMendLink.mono 0 rfl h59 (rfl); clear hS; obtain ⟨s60, hle61, hS, h62⟩ := hF
  replace h56 := Sl.mono RI.mono hle61 h56
  refine WL.vS hS hE (runs_plain rfl) (Gives.build hE (vs := [(0, .int .i64 60), (1, .slice (some ⟨b51, 0, none⟩) 2 2), (2, .slice (some ⟨b57, 0, none⟩) 2 2)]) [.int .i64 60, .slice (some ⟨b51, 0, none⟩) 2 2, .slice (some ⟨b57, 0, none⟩) 2 2] rfl (by kernel_rfl)) rfl ?_; clear hE a; intro a hE
  refine WL.alloc hE hS (runs_plain rfl) zr25 rfl ?_; clear hE hS a w; intro b63 a w hE hS
  refine WL.storeI hE hS 0 rfl [.int .i64 60, .slice (some ⟨b51, 0, none⟩) 2 2, .slice (some ⟨b57, 0, none⟩) 2 2] (runs_plain rfl) rfl rfl rfl ty25 rfl rfl rfl rfl ?_; clear hE hS a w; intro a w hE hS
  refine WL.nil ?_
  refine W.seq ?_
  refine W.region ?_
  refine WL.vS hS hE (runs_plain rfl) (Gives.loadBA hE 0 rfl rfl ty25) rfl ?_; clear hE a; intro a hE
  obtain ⟨q64, hq65, hr⟩ := bindS hr
  have hc_ := MendRoom_ok hS h56 h62 hq65
  refine WL.fnq hE (hc_) (runs_plain rfl) bd34 rfl rfl rfl ?_
  clear hE hS hc_; rintro e w ⟨a66, c67, s69, rfl, hle70, h68, hS⟩; refine ⟨_, rfl, ?_⟩; clear a; intro a hE
  replace h56 := Sl.mono RI.mono hle70 h56
  replace h62 := Sl.mono RMendLink.mono hle70 h62
  refine WL.vS hS hE (runs_plain rfl) (Gives.p hE rfl) rfl ?_; clear hE a; intro a hE
  refine WL.vS hS hE (runs_plain rfl) (Gives.p hE rfl) rfl ?_; clear hE a; intro a hE
  refine WL.vS hS hE (runs_plain rfl) (Gives.p hE rfl) rfl ?_; clear hE a; intro a hE
  refine WL.vS hS hE (runs_plain rfl) (Gives.p hE rfl) rfl ?_; clear hE a; intro a hE
  refine WL.vS hS hE (runs_plain rfl) (Gives.p hE rfl) rfl ?_; clear hE a; intro a hE
  refine WL.nil ?_
  refine W.seq ?_
  obtain ⟨q72, hq71, hr⟩ := bindS hr
  refine W.cut (fun a w => ∃ (q75 : Bool), ∃ (s73 : Sg), s69.Le s73 ∧ q75 = q72 ∧ Rep a 23 [(0, .bool q75)] ∧ St w s73 (pt b63 (.cells #[.int .i64 60, .slice (some ⟨b51, 0, none⟩) 2 2, .slice (some ⟨b57, 0, none⟩) 2 2] 25 (0, 0)) :: R)) ?_ ?_
  · refine W.gen fun K76 hK76 => ?_
    refine W.region ?_
    refine WL.vS hS hE (runs_plain rfl) (Gives.p hE rfl) rfl ?_; clear hE a; intro a hE
    refine WL.vS hS hE (runs_plain rfl) (Gives.p hE rfl) rfl ?_; clear hE a; intro a hE
    refine WL.vS hS hE (runs_plain rfl) (Gives.p hE rfl) rfl ?_; clear hE a; intro a hE
    rcases Bool.eq_false_or_eq_true (q64.2 == 0) with hg77 | hg77
    · replace hq71 := iteT hg77 hq71
      refine WL.vS hS hE (runs_if hE rfl rfl rfl hg77) (Gives.p hE rfl) rfl ?_; clear hE a; intro a hE
      refine WL.lit hE hS (e := 3) (es := 1) (vs := [(0, .int .i64 0), (1, .int .i64 5)]) (cs := [.int .i64 0, .int .i64 5]) (runs_if hE rfl rfl rfl hg77) rfl (by kernel_rfl) rfl ?_; clear hE hS a w; intro b78 a w hE hS
      replace hS := hS.ptVec (es := 1) (m := 2) rfl (by decide)
      have h80 : Ev 1 (RI .i64) s69 [.int .i64 0, .int .i64 5] [0, 5] := (Ev.cons (c1 := [.int .i64 0]) rfl rfl (Ev.cons (c1 := [.int .i64 5]) rfl rfl (Ev.nil)))
      have hF := hS.fixD RI.mono 0 rfl h80 (rfl); clear hS; obtain ⟨s81, hle82, hS, h83⟩ := hF
      replace h56 := Sl.mono RI.mono hle82 h56
      replace h62 := Sl.mono RMendLink.mono hle82 h62
      replace h68 := Sl.mono (RL.mono RI.mono) hle82 h68
      refine WL.lit hE hS (e := 3) (es := 1) (vs := [(0, .int .i64 5), (1, .int .i64 0)]) (cs := [.int .i64 5, .int .i64 0]) (runs_if hE rfl rfl rfl hg77) rfl (by kernel_rfl) rfl ?_; clear hE hS a w; intro b84 a w hE hS
      replace hS := hS.ptVec (es := 1) (m := 2) rfl (by decide)
      have h86 : Ev 1 (RI .i64) s81 [.int .i64 5, .int .i64 0] [5, 0] := (Ev.cons (c1 := [.int .i64 5]) rfl rfl (Ev.cons (c1 := [.int .i64 0]) rfl rfl (Ev.nil)))
      have hF := hS.fixD RI.mono 0 rfl h86 (rfl); clear hS; obtain ⟨s87, hle88, hS, h89⟩ := hF
      replace h56 := Sl.mono RI.mono hle88 h56
      replace h62 := Sl.mono RMendLink.mono hle88 h62
      replace h68 := Sl.mono (RL.mono RI.mono) hle88 h68
      replace h83 := Sl.mono RI.mono hle88 h83
      refine WL.lit hE hS (e := 22) (es := 1) (vs := [(0, .slice (some ⟨b78, 0, none⟩) 2 2), (1, .slice (some ⟨b84, 0, none⟩) 2 2)]) (cs := [.slice (some ⟨b78, 0, none⟩) 2 2, .slice (some ⟨b84, 0, none⟩) 2 2]) (runs_if hE rfl rfl rfl hg77) rfl (by kernel_rfl) rfl ?_; clear hE hS a w; intro b90 a w hE hS
      replace hS := hS.ptVec (es := 1) (m := 2) rfl (by decide)
      have h92 : Ev 1 (RL 1 (RI .i64)) s87 [.slice (some ⟨b78, 0, none⟩) 2 2, .slice (some ⟨b84, 0, none⟩) 2 2] [[0, 5], [5, 0]] := (Ev.cons (c1 := [.slice (some ⟨b78, 0, none⟩) 2 2]) ⟨_, _, rfl, h83⟩ rfl (Ev.cons (c1 := [.slice (some ⟨b84, 0, none⟩) 2 2]) ⟨_, _, rfl, h89⟩ rfl (Ev.nil)))
      have hF := hS.fixD (RL.mono RI.mono) 0 rfl h92 (rfl); clear hS; obtain ⟨s93, hle94, hS, h95⟩ := hF
      replace h56 := Sl.mono RI.mono hle94 h56
      replace h62 := Sl.mono RMendLink.mono hle94 h62
      replace h68 := Sl.mono (RL.mono RI.mono) hle94 h68
      replace h83 := Sl.mono RI.mono hle94 h83
      replace h89 := Sl.mono RI.mono hle94 h89
      obtain ⟨q96, hq97, hq71⟩ := bindS hq71
      have hc_ := Fishlaw2lists_ok hS h68 h95 hq97
      refine WL.fnq hE (hc_) (runs_if hE rfl rfl rfl hg77) bd21 rfl rfl rfl ?_
      clear hE hS hc_; rintro e w ⟨rfl, hS⟩; refine ⟨_, rfl, ?_⟩; clear a; intro a hE
      refine WL.vS hS hE (runs_plain rfl) (Gives.pickT hE rfl hg77 rfl) rfl ?_; clear hE a; intro a hE
      refine WL.vS hS hE (runs_plain rfl) (Gives.p hE rfl) rfl ?_; clear hE a; intro a hE
      refine WL.nil ?_
      subst hK76
      exact ⟨q96, s93, (Sg.Le.trans (Sg.Le.trans hle82 hle88) hle94), Option.some.inj hq71, hE.pick _ ⟨rfl, trivial⟩, hS⟩
    · replace hq71 := iteF hg77 hq71
      refine WL.no hE (runs_not hE rfl rfl rfl (by rw [hg77]; decide)) rfl ?_; clear hE a; intro a hE
      refine WL.no hE (runs_not hE rfl rfl rfl (by rw [hg77]; decide)) rfl ?_; clear hE a; intro a hE
      refine WL.no hE (runs_not hE rfl rfl rfl (by rw [hg77]; decide)) rfl ?_; clear hE a; intro a hE
      refine WL.no hE (runs_not hE rfl rfl rfl (by rw [hg77]; decide)) rfl ?_; clear hE a; intro a hE
      refine WL.no hE (runs_not hE rfl rfl rfl (by rw [hg77]; decide)) rfl ?_; clear hE a; intro a hE
      refine WL.vS hS hE (runs_plain rfl) (Gives.pickF hE rfl hg77 rfl) rfl ?_; clear hE a; intro a hE
      refine WL.vS hS hE (runs_plain rfl) (Gives.p hE rfl) rfl ?_; clear hE a; intro a hE
      refine WL.nil ?_
      subst hK76
      exact ⟨false, s69, (Sg.Le.refl _), Option.some.inj hq71, hE.pick _ ⟨rfl, trivial⟩, hS⟩
  · clear hE hS a w; rintro a w ⟨q75, s73, hle74, rfl, hE, hS⟩
    replace h56 := Sl.mono RI.mono hle74 h56
    replace h62 := Sl.mono RMendLink.mono hle74 h62
    refine W.ret ?_
    refine finG (fn := Try.f15) (rs := [.tmp 0]) (vs := [_]) hE rfl ⟨rfl, trivial⟩ ?_
    obtain rfl := Option.some.inj hr
    replace hS := hS.tail
    exact ⟨rfl, (hS.down (Sg.Le.trans (Sg.Le.trans (Sg.Le.trans hle55 hle61) hle70) hle74))⟩
set_option maxHeartbeats 8000000 in
theorem Fishref2SpreadOf_ok {fu : Nat}  {w : World} {s : Sg} {R : List HP} {x0 : MendRound} {a0_0 : Option Addr} {c0_0 : Nat} {a0_1 : Option Addr} {c0_1 : Nat} {x1 : List MendFirst} {a1 : Option Addr} {c1 : Nat} {x2 : Int} (hS : St w s (R)) (h0_0 : Sl 1 (RI .i64) s a0_0 c0_0 x0.Plan) (h0_1 : Sl 4 RMendLink s a0_1 c0_1 x0.Links) (h1 : Sl 3 RMendFirst s a1 c1 x1) {r : (List (List Int))} (hr : Fishref2SpreadOf fu x0 x1 x2 = some r) :
    Calls Try.prog 22 [.agg [.int .i64 x0.Period, .slice a0_0 x0.Plan.length c0_0, .slice a0_1 x0.Links.length c0_1].toArray, .slice a1 x1.length c1, .int .i64 x2].toArray w (fun e w => ∃ (a0 : Option Addr) (c0 : Nat) (t : Sg), e = .returned (.slice a0 r.length c0) ∧ s.Le t ∧ Sl 1 (RL 1 (RI .i64)) t a0 c0 r ∧ St w t (R)) := by
  refine enter Try.func22 rfl rfl rfl fun a hE => ?_
  rw [Fishref2SpreadOf] at hr
  refine W.seq ?_
  refine W.region ?_
  refine WL.box hE hS (runs_plain rfl) rfl rfl rfl ?_; clear hE hS a w; intro b51 a w hE hS
  refine WL.vS hS hE (runs_plain rfl) (Gives.p hE rfl) rfl ?_; clear hE a; intro a hE
  refine WL.nil ?_
  refine W.seq ?_
  refine W.region ?_
  refine WL.vS hS hE (runs_plain rfl) (Gives.p hE rfl) rfl ?_; clear hE a; intro a hE
  obtain ⟨x52, hx53, hr⟩ := bindS hr
  refine WL.mkND (Rr := RI .i64) (Ti := 3) (es := 1) hE hS (runs_plain rfl) rfl rfl ap40 zr22 hx53 rfl ?_; clear hE hS a w; intro b54 ds55 a w h56 hE hS
  refine WL.vS hS hE (runs_plain rfl) (Gives.p hE rfl) rfl ?_; clear hE a; intro a hE
  refine WL.nil ?_
  refine W.seq ?_
  refine W.seq ?_
  refine W.region ?_
  refine WL.vS hS hE (runs_plain rfl) (Gives.p hE rfl) rfl ?_; clear hE a; intro a hE
  refine WL.vS hS hE (runs_plain rfl) (Gives.len hE rfl sl40) rfl ?_; clear hE a; intro a hE
  refine WL.vS hS hE (runs_plain rfl) (Gives.p hE rfl) rfl ?_; clear hE a; intro a hE
  refine WL.nil ?_
  have hb69 : x52.length ≤ 9223372036854775807 := by have := hS.nCap 0 rfl; unfold maxLen at this; omega
  obtain ⟨q59, hq58, hr⟩ := bindS hr
  refine W.cut (fun a w => ∃ (q70 : List (List Int)), ∃ (ds74 : List In), q70 = q59 ∧ NEv 1 (RI .i64) s ds74 q70 ∧ q70.length = x52.length ∧ Rep a 115 [(1, .slice a1 x1.length c1), (2, .int .i64 x2), (3, .pointer (some ⟨b51, 0, none⟩)), (7, .slice (some ⟨b54, 0, none⟩) x52.length x52.length)] ∧ St w s (nestC 22 3 1 (some ⟨b54, 0, none⟩) x52.length x52.length ds74 :: pt b51 (.cells #[.int .i64 x0.Period, .slice a0_0 x0.Plan.length c0_0, .slice a0_1 x0.Links.length c0_1] 25 (0, 0)) :: R)) ?_ ?_
  · refine W.block ?_
    refine W.loop (fun m a w => ∃ (rest62 : Nat) (k60 : Nat), ∃ (q70 : List (List Int)), ∃ (ds74 : List In), rest62 = m ∧ k60 + rest62 = x52.length ∧ Fishref2SpreadOf.loop1 x0 rest62 k60 q70 = some q59 ∧ NEv 1 (RI .i64) s ds74 q70 ∧ q70.length = x52.length ∧ Rep a 115 [(1, .slice a1 x1.length c1), (2, .int .i64 x2), (3, .pointer (some ⟨b51, 0, none⟩)), (7, .slice (some ⟨b54, 0, none⟩) x52.length x52.length), (19, .int .i64 ((x52.length : Nat) : Int)), (20, .int .i64 ((k60 : Nat) : Int))] ∧ St w s (nestC 22 3 1 (some ⟨b54, 0, none⟩) x52.length x52.length ds74 :: pt b51 (.cells #[.int .i64 x0.Period, .slice a0_0 x0.Plan.length c0_0, .slice a0_1 x0.Links.length c0_1] 25 (0, 0)) :: R)) (m := x52.length) ⟨x52.length, 0, x52, ds55, rfl, by omega, hq58, h56, (rfl), hE.pick _ ⟨rfl, rfl, rfl, rfl, rfl, rfl, trivial⟩, hS⟩ ?_
    clear hE hS a w hq58; rintro m66 a w ⟨rest62, k60, q70, ds74, rfl, hd63, hq58, h75, hn76, hE, hS⟩
    refine W.gen fun K77 hK77 => ?_
    rcases rest62 with _ | rest62
    · skip
      refine W.seq ?_
      refine W.region ?_
      refine WL.vS hS hE (runs_plain rfl) (Gives.p hE rfl) rfl ?_; clear hE a; intro a hE
      refine WL.nil ?_
      refine W.seq ?_
      refine W.condF hE rfl (decide_eq_false (by omega)) ?_
      subst hK77
      refine W.exit rfl ?_
      exact ⟨q70, ds74, Option.some.inj hq58, h75, hn76, hE.pick _ ⟨rfl, rfl, rfl, rfl, trivial⟩, hS⟩
    · have hlt64 : k60 < x52.length := by omega
      rw [Fishref2SpreadOf.loop1] at hq58
      refine W.seq ?_
      refine W.region ?_
      refine WL.vS hS hE (runs_plain rfl) (Gives.p hE rfl) rfl ?_; clear hE a; intro a hE
      refine WL.nil ?_
      refine W.seq ?_
      refine W.condT hE rfl (decide_eq_true (by omega)) ?_
      refine W.skip ?_
      refine W.seq ?_
      refine W.block ?_
      refine W.seq ?_
      refine W.region ?_
      refine WL.vS hS hE (runs_plain rfl) (Gives.p hE rfl) rfl ?_; clear hE a; intro a hE
      refine WL.vS hS hE (runs_plain rfl) (Gives.p hE rfl) rfl ?_; clear hE a; intro a hE
      refine WL.nil ?_
      refine W.region ?_
      refine WL.vS hS hE (runs_plain rfl) (Gives.p hE rfl) rfl ?_; clear hE a; intro a hE
      refine WL.vS hS hE (runs_plain rfl) (Gives.p hE rfl) rfl ?_; clear hE a; intro a hE
      refine WL.vS hS hE (runs_plain rfl) (Gives.fld hE rfl fl25_1) rfl ?_; clear hE a; intro a hE
      refine WL.vS hS hE (runs_plain rfl) (Gives.loadB hE 1 rfl rfl rfl ty22) rfl ?_; clear hE a; intro a hE
      refine WL.vS hS hE (runs_plain rfl) (Gives.len hE rfl sl22) rfl ?_; clear hE a; intro a hE
      obtain ⟨x78, hx79, hq58⟩ := bindS hq58
      refine WL.mkD (Rr := RI .i64) hE hS (runs_plain rfl) rfl rfl ap22 zr3 rfl hx79 rfl ?_; clear hE hS a w; intro b80 cs81 a w h82 hE hS
      obtain ⟨_, hx84, hq58⟩ := bindS hq58
      obtain ⟨h85, h86⟩ := ix_some hx84
      refine WL.vS hS hE (runs_plain rfl) (Gives.idx hE ((((k60 : Nat) : Int)).toNat) rfl rfl sl40 h85 (by have := hn76; omega) (hS.nAok 1 rfl (by have := hn76; omega : (((k60 : Nat) : Int)).toNat < x52.length))) rfl ?_; clear hE a; intro a hE
      obtain ⟨d87, hd88⟩ : ∃ d, ds74[(((k60 : Nat) : Int)).toNat]? = some d := ⟨_, List.getElem?_eq_getElem (by have h1 := h75.len; have h2 := hn76; omega)⟩
      replace hS := (hS.borrow 1 rfl hd88).tail
      obtain ⟨x89, hx90, hq58⟩ := bindS hq58
      refine WL.storeND hE hS 0 rfl (runs_plain rfl) rfl rfl ty22 h75 hn76 (by have := (sx_some hx90).1; omega) hx90 h82 (rfl) rfl ?_; clear hE hS a w; intro ds91 a w h92 hn93 hE hS
      refine WL.nil ?_
      refine W.region ?_
      refine WL.vS hS hE (runs_plain rfl) (Gives.inc hE rfl (by omega)) rfl ?_; clear hE a; intro a hE
      refine WL.vS hS hE (runs_plain rfl) (Gives.p hE rfl) rfl ?_; clear hE a; intro a hE
      refine WL.nil ?_
      subst hK77
      exact ⟨rest62, Nat.lt_succ_self _, rest62, k60 + 1, x89, ds91, rfl, (by omega), hq58, h92, hn93, hE.pick _ ⟨rfl, rfl, rfl, rfl, rfl, rfl, trivial⟩, hS⟩
  · clear hE hS a w; rintro a w ⟨q70, ds74, rfl, h75, hn76, hE, hS⟩
    refine W.seq ?_
    refine W.seq ?_
    refine W.region ?_
    refine WL.vS hS hE (runs_plain rfl) (Gives.p hE rfl) rfl ?_; clear hE a; intro a hE
    refine WL.vS hS hE (runs_plain rfl) (Gives.len hE rfl sl39) rfl ?_; clear hE a; intro a hE
    refine WL.vS hS hE (runs_plain rfl) (Gives.p hE rfl) rfl ?_; clear hE a; intro a hE
    refine WL.nil ?_
    obtain ⟨q95, hq94, hr⟩ := bindS hr
    refine W.cut (fun a w => ∃ (q105 : List (List Int)), ∃ (ds109 : List In), q105 = q95 ∧ NEv 1 (RI .i64) s ds109 q105 ∧ q105.length = x52.length ∧ Rep a 115 [(3, .pointer (some ⟨b51, 0, none⟩)), (7, .slice (some ⟨b54, 0, none⟩) x52.length x52.length)] ∧ St w s (nestC 22 3 1 (some ⟨b54, 0, none⟩) x52.length x52.length ds109 :: pt b51 (.cells #[.int .i64 x0.Period, .slice a0_0 x0.Plan.length c0_0, .slice a0_1 x0.Links.length c0_1] 25 (0, 0)) :: R)) ?_ ?_
    · refine W.block ?_
      refine W.loop (fun m a w => ∃ (rest98 : List MendFirst) (k96 : Nat), ∃ (q105 : List (List Int)), ∃ (ds109 : List In), rest98.length = m ∧ x1.drop k96 = rest98 ∧ Fishref2SpreadOf.loop2 x2 rest98 q105 = some q95 ∧ NEv 1 (RI .i64) s ds109 q105 ∧ q105.length = x52.length ∧ Rep a 115 [(2, .int .i64 x2), (3, .pointer (some ⟨b51, 0, none⟩)), (7, .slice (some ⟨b54, 0, none⟩) x52.length x52.length), (31, .slice a1 x1.length c1), (32, .int .i64 ((x1).length : Int)), (33, .int .i64 ((k96 : Nat) : Int))] ∧ St w s (nestC 22 3 1 (some ⟨b54, 0, none⟩) x52.length x52.length ds109 :: pt b51 (.cells #[.int .i64 x0.Period, .slice a0_0 x0.Plan.length c0_0, .slice a0_1 x0.Links.length c0_1] 25 (0, 0)) :: R)) (m := x1.length) ⟨x1, 0, q70, ds74, rfl, rfl, hq94, h75, hn76, hE.pick _ ⟨rfl, rfl, rfl, rfl, rfl, rfl, trivial⟩, hS⟩ ?_
      clear hE hS a w hq94; rintro m102 a w ⟨rest98, k96, q105, ds109, rfl, hd99, hq94, h110, hn111, hE, hS⟩
      refine W.gen fun K112 hK112 => ?_
      rcases rest98 with _ | ⟨x97, rest98⟩
      · have hlt100 := drop_nil hd99
        refine W.seq ?_
        refine W.region ?_
        refine WL.vS hS hE (runs_plain rfl) (Gives.p hE rfl) rfl ?_; clear hE a; intro a hE
        refine WL.nil ?_
        refine W.seq ?_
        refine W.condF hE rfl (decide_eq_false (by omega)) ?_
        subst hK112
        refine W.exit rfl ?_
        exact ⟨q105, ds109, Option.some.inj hq94, h110, hn111, hE.pick _ ⟨rfl, rfl, trivial⟩, hS⟩
      · obtain ⟨hlt100, hx101, hd99⟩ := drop_cons hd99
        rw [Fishref2SpreadOf.loop2] at hq94
        refine W.seq ?_
        refine W.region ?_
        refine WL.vS hS hE (runs_plain rfl) (Gives.p hE rfl) rfl ?_; clear hE a; intro a hE
        refine WL.nil ?_
        refine W.seq ?_
        refine W.condT hE rfl (decide_eq_true (by omega)) ?_
        refine W.skip ?_
        refine W.seq ?_
        refine W.block ?_
        refine W.seq ?_
        refine W.region ?_
        obtain ⟨cs113, hl114, hR115, hat116⟩ := h1.at hx101
        subst hR115
        refine WL.vS hS hE (runs_plain rfl) (Gives.idx hE k96 rfl rfl sl39 rfl hlt100 (h1.aok hlt100)) rfl ?_; clear hE a; intro a hE
        refine WL.vS hS hE (runs_plain rfl) (Gives.loadA hE rfl (fun w h => hat116 w _ h) ty90) rfl ?_; clear hE a; intro a hE
        refine WL.alloc hE hS (runs_plain rfl) zr90 rfl ?_; clear hE hS a w; intro b117 a w hE hS
        refine WL.storeI hE hS 0 rfl (MendFirst.cells x97) (runs_plain rfl) rfl rfl rfl ty90 rfl rfl rfl rfl ?_; clear hE hS a w; intro a w hE hS
        refine WL.nil ?_
        refine W.seq ?_
        refine W.region ?_
        refine WL.vS hS hE (runs_plain rfl) (Gives.fld hE rfl fl90_1) rfl ?_; clear hE a; intro a hE
        refine WL.vS hS hE (runs_plain rfl) (Gives.loadB hE 0 rfl rfl rfl ty3) rfl ?_; clear hE a; intro a hE
        refine WL.vS hS hE (runs_plain rfl) (Gives.p hE rfl) rfl ?_; clear hE a; intro a hE
        refine WL.vS hS hE (runs_plain rfl) (Gives.p hE rfl) rfl ?_; clear hE a; intro a hE
        refine WL.nil ?_
        obtain ⟨q119, hq118, hq94⟩ := bindS hq94
        refine W.cut (fun a w => ∃ (q122 : List (List Int)), ∃ (ds126 : List In), q122 = q119 ∧ NEv 1 (RI .i64) s ds126 q122 ∧ q122.length = x52.length ∧ Rep a 115 [(2, .int .i64 x2), (3, .pointer (some ⟨b51, 0, none⟩)), (7, .slice (some ⟨b54, 0, none⟩) x52.length x52.length), (31, .slice a1 x1.length c1), (32, .int .i64 ((x1).length : Int)), (33, .int .i64 ((k96 : Nat) : Int))] ∧ St w s (pt b117 (.cells (MendFirst.cells x97).toArray 90 (0, 0)) :: nestC 22 3 1 (some ⟨b54, 0, none⟩) x52.length x52.length ds126 :: pt b51 (.cells #[.int .i64 x0.Period, .slice a0_0 x0.Plan.length c0_0, .slice a0_1 x0.Links.length c0_1] 25 (0, 0)) :: R)) ?_ ?_
        · refine W.gen fun K129 hK129 => ?_
          refine W.cond hE rfl (fun hc130 => ?_) (fun hc130 => ?_)
          · replace hq118 := iteT hc130 hq118
            refine W.gen fun K131 hK131 => ?_
            refine W.regionE (sel (fun w => St w s (pt b117 (.cells (MendFirst.cells x97).toArray 90 (0, 0)) :: nestC 22 3 1 (some ⟨b54, 0, none⟩) x52.length x52.length ds109 :: pt b51 (.cells #[.int .i64 x0.Period, .slice a0_0 x0.Plan.length c0_0, .slice a0_1 x0.Links.length c0_1] 25 (0, 0)) :: R)) (fun w => St w s (pt b117 (.cells (MendFirst.cells x97).toArray 90 (0, 0)) :: pt b51 (.cells #[.int .i64 x0.Period, .slice a0_0 x0.Plan.length c0_0, .slice a0_1 x0.Links.length c0_1] 25 (0, 0)) :: R))) (fun b i => cond b ([0, 1, 2, 3, 4, 5, 6, 7, 8, 9, 10, 11, 12, 13, 14, 15, 16, 17, 18].contains i) ([0, 1, 2, 3, 4, 5, 6, 7, 8, 9, 10, 11, 12, 13, 14, 15, 16, 17, 18, 19, 20].contains i)) mixed ?_
            replace hS := hS.drew
            refine Rg.takeP (i := 0) hE rfl (by kernel_rfl) (runs_plain rfl) (Gives.p hE rfl) rfl (tw_sel (fun _ => hS) (fun _ => (hS.dropAt 1))) ?_; clear hE a; intro a hE
            refine Rg.takeP (i := 1) hE rfl (by kernel_rfl) (runs_plain rfl) (Gives.fld hE rfl fl90_1) rfl (tw_sel (fun _ => hS) (fun _ => (hS.dropAt 1))) ?_; clear hE a; intro a hE
            have hT := tw_sel (A := fun w => St w s (pt b117 (.cells (MendFirst.cells x97).toArray 90 (0, 0)) :: nestC 22 3 1 (some ⟨b54, 0, none⟩) x52.length x52.length ds109 :: pt b51 (.cells #[.int .i64 x0.Period, .slice a0_0 x0.Plan.length c0_0, .slice a0_1 x0.Links.length c0_1] 25 (0, 0)) :: R)) (B := fun w => St w s (pt b117 (.cells (MendFirst.cells x97).toArray 90 (0, 0)) :: pt b51 (.cells #[.int .i64 x0.Period, .slice a0_0 x0.Plan.length c0_0, .slice a0_1 x0.Links.length c0_1] 25 (0, 0)) :: R)) (w := _) (x := true) (y := true) (fun _ => hS) (fun _ => (hS.dropAt 1))
            have hF := hS; replace hS := hS
            refine Rg.take (i := 2) true rfl hE rfl (by kernel_rfl) (runs_plain rfl) (Gives.loadB hE 0 rfl rfl rfl ty3) rfl hT ?_; clear hE a; intro a hE
            replace hS := hF; clear hF hT
            obtain ⟨x132, hx133, hq118⟩ := bindS hq118
            obtain ⟨hi134, hlt135, hy136⟩ := gx_some hx133
            obtain ⟨a137, c138, cs139, hd140, hev141⟩ := h110.at hy136
            refine Rg.takeP (i := 3) hE rfl (by kernel_rfl) (runs_plain rfl) (Gives.idx hE ((x97.Period).toNat) rfl rfl sl40 hi134 (by have := hn111; omega) (hS.nAok 1 rfl (by have := hn111; omega : (x97.Period).toNat < x52.length))) rfl (tw_sel (fun _ => hS) (fun _ => (hS.dropAt 1))) ?_; clear hE a; intro a hE
            have hT := tw_sel (A := fun w => St w s (pt b117 (.cells (MendFirst.cells x97).toArray 90 (0, 0)) :: nestC 22 3 1 (some ⟨b54, 0, none⟩) x52.length x52.length ds109 :: pt b51 (.cells #[.int .i64 x0.Period, .slice a0_0 x0.Plan.length c0_0, .slice a0_1 x0.Links.length c0_1] 25 (0, 0)) :: R)) (B := fun w => St w s (pt b117 (.cells (MendFirst.cells x97).toArray 90 (0, 0)) :: pt b51 (.cells #[.int .i64 x0.Period, .slice a0_0 x0.Plan.length c0_0, .slice a0_1 x0.Links.length c0_1] 25 (0, 0)) :: R)) (w := _) (x := true) (y := true) (fun _ => hS) (fun _ => (hS.dropAt 1))
            have hF := hS; replace hS := hS
            refine Rg.take (i := 4) true rfl hE rfl (by kernel_rfl) (runs_plain rfl) (Gives.load1 (v := .slice a137 x132.length c138) hE rfl (fun w h => St.nSees h 1 rfl hd140) ty22) rfl hT ?_; clear hE a; intro a hE
            replace hS := hF; clear hF hT
            refine Rg.takeP (i := 5) hE rfl (by kernel_rfl) (runs_plain rfl) (Gives.fld hE rfl fl90_0) rfl (tw_sel (fun _ => hS) (fun _ => (hS.dropAt 1))) ?_; clear hE a; intro a hE
            have hT := tw_sel (A := fun w => St w s (pt b117 (.cells (MendFirst.cells x97).toArray 90 (0, 0)) :: nestC 22 3 1 (some ⟨b54, 0, none⟩) x52.length x52.length ds109 :: pt b51 (.cells #[.int .i64 x0.Period, .slice a0_0 x0.Plan.length c0_0, .slice a0_1 x0.Links.length c0_1] 25 (0, 0)) :: R)) (B := fun w => St w s (pt b117 (.cells (MendFirst.cells x97).toArray 90 (0, 0)) :: pt b51 (.cells #[.int .i64 x0.Period, .slice a0_0 x0.Plan.length c0_0, .slice a0_1 x0.Links.length c0_1] 25 (0, 0)) :: R)) (w := _) (x := true) (y := true) (fun _ => hS) (fun _ => (hS.dropAt 1))
            have hF := hS; replace hS := hS
            refine Rg.take (i := 6) true rfl hE rfl (by kernel_rfl) (runs_plain rfl) (Gives.loadB hE 0 rfl rfl rfl ty3) rfl hT ?_; clear hE a; intro a hE
            replace hS := hF; clear hF hT
            refine Rg.takeP (i := 7) hE rfl (by kernel_rfl) (runs_plain rfl) (Gives.p hE rfl) rfl (tw_sel (fun _ => hS) (fun _ => (hS.dropAt 1))) ?_; clear hE a; intro a hE
            refine Rg.takeP (i := 8) hE rfl (by kernel_rfl) (runs_plain rfl) (Gives.fld hE rfl fl90_1) rfl (tw_sel (fun _ => hS) (fun _ => (hS.dropAt 1))) ?_; clear hE a; intro a hE
            have hT := tw_sel (A := fun w => St w s (pt b117 (.cells (MendFirst.cells x97).toArray 90 (0, 0)) :: nestC 22 3 1 (some ⟨b54, 0, none⟩) x52.length x52.length ds109 :: pt b51 (.cells #[.int .i64 x0.Period, .slice a0_0 x0.Plan.length c0_0, .slice a0_1 x0.Links.length c0_1] 25 (0, 0)) :: R)) (B := fun w => St w s (pt b117 (.cells (MendFirst.cells x97).toArray 90 (0, 0)) :: pt b51 (.cells #[.int .i64 x0.Period, .slice a0_0 x0.Plan.length c0_0, .slice a0_1 x0.Links.length c0_1] 25 (0, 0)) :: R)) (w := _) (x := true) (y := true) (fun _ => hS) (fun _ => (hS.dropAt 1))
            have hF := hS; replace hS := hS
            refine Rg.take (i := 9) true rfl hE rfl (by kernel_rfl) (runs_plain rfl) (Gives.loadB hE 0 rfl rfl rfl ty3) rfl hT ?_; clear hE a; intro a hE
            replace hS := hF; clear hF hT
            obtain ⟨x142, hx143, hq118⟩ := bindS hq118
            obtain ⟨hi144, hlt145, hy146⟩ := gx_some hx143
            obtain ⟨a147, c148, cs149, hd150, hev151⟩ := h110.at hy146
            refine Rg.takeP (i := 10) hE rfl (by kernel_rfl) (runs_plain rfl) (Gives.idx hE ((x97.Period).toNat) rfl rfl sl40 hi144 (by have := hn111; omega) (hS.nAok 1 rfl (by have := hn111; omega : (x97.Period).toNat < x52.length))) rfl (tw_sel (fun _ => hS) (fun _ => (hS.dropAt 1))) ?_; clear hE a; intro a hE
            have hT := tw_sel (A := fun w => St w s (pt b117 (.cells (MendFirst.cells x97).toArray 90 (0, 0)) :: nestC 22 3 1 (some ⟨b54, 0, none⟩) x52.length x52.length ds109 :: pt b51 (.cells #[.int .i64 x0.Period, .slice a0_0 x0.Plan.length c0_0, .slice a0_1 x0.Links.length c0_1] 25 (0, 0)) :: R)) (B := fun w => St w s (pt b117 (.cells (MendFirst.cells x97).toArray 90 (0, 0)) :: pt b51 (.cells #[.int .i64 x0.Period, .slice a0_0 x0.Plan.length c0_0, .slice a0_1 x0.Links.length c0_1] 25 (0, 0)) :: R)) (w := _) (x := true) (y := true) (fun _ => hS) (fun _ => (hS.dropAt 1))
            have hF := hS; replace hS := hS
            refine Rg.take (i := 11) true rfl hE rfl (by kernel_rfl) (runs_plain rfl) (Gives.load1 (v := .slice a147 x142.length c148) hE rfl (fun w h => St.nSees h 1 rfl hd150) ty22) rfl hT ?_; clear hE a; intro a hE
            replace hS := hF; clear hF hT
            refine Rg.takeP (i := 12) hE rfl (by kernel_rfl) (runs_plain rfl) (Gives.fld hE rfl fl90_0) rfl (tw_sel (fun _ => hS) (fun _ => (hS.dropAt 1))) ?_; clear hE a; intro a hE
            have hT := tw_sel (A := fun w => St w s (pt b117 (.cells (MendFirst.cells x97).toArray 90 (0, 0)) :: nestC 22 3 1 (some ⟨b54, 0, none⟩) x52.length x52.length ds109 :: pt b51 (.cells #[.int .i64 x0.Period, .slice a0_0 x0.Plan.length c0_0, .slice a0_1 x0.Links.length c0_1] 25 (0, 0)) :: R)) (B := fun w => St w s (pt b117 (.cells (MendFirst.cells x97).toArray 90 (0, 0)) :: pt b51 (.cells #[.int .i64 x0.Period, .slice a0_0 x0.Plan.length c0_0, .slice a0_1 x0.Links.length c0_1] 25 (0, 0)) :: R)) (w := _) (x := true) (y := true) (fun _ => hS) (fun _ => (hS.dropAt 1))
            have hF := hS; replace hS := hS
            refine Rg.take (i := 13) true rfl hE rfl (by kernel_rfl) (runs_plain rfl) (Gives.loadB hE 0 rfl rfl rfl ty3) rfl hT ?_; clear hE a; intro a hE
            replace hS := hF; clear hF hT
            obtain ⟨x152, hx153, hq118⟩ := bindS hq118
            obtain ⟨hi154, hlt155, hy156⟩ := gx_some hx153
            obtain ⟨vs157, hl158, hR159, hd160, hget161⟩ := hev151.at hy156
            subst hR159
            refine Rg.takeP (i := 14) hE rfl (by kernel_rfl) (runs_plain rfl) (Gives.idx hE ((x97.Event).toNat) rfl rfl sl22 hi154 hlt155 (hS.nnAok 1 rfl hd150 hlt155)) rfl (tw_sel (fun _ => hS) (fun _ => (hS.dropAt 1))) ?_; clear hE a; intro a hE
            have hT := tw_sel (A := fun w => St w s (pt b117 (.cells (MendFirst.cells x97).toArray 90 (0, 0)) :: nestC 22 3 1 (some ⟨b54, 0, none⟩) x52.length x52.length ds109 :: pt b51 (.cells #[.int .i64 x0.Period, .slice a0_0 x0.Plan.length c0_0, .slice a0_1 x0.Links.length c0_1] 25 (0, 0)) :: R)) (B := fun w => St w s (pt b117 (.cells (MendFirst.cells x97).toArray 90 (0, 0)) :: pt b51 (.cells #[.int .i64 x0.Period, .slice a0_0 x0.Plan.length c0_0, .slice a0_1 x0.Links.length c0_1] 25 (0, 0)) :: R)) (w := _) (x := true) (y := true) (fun _ => hS) (fun _ => (hS.dropAt 1))
            have hF := hS; replace hS := hS
            refine Rg.take (i := 15) true rfl hE rfl (by kernel_rfl) (runs_plain rfl) (Gives.load1 hE rfl (fun w h => St.nnSees h 1 rfl hd150 ((x97.Event).toNat * 1) _ hget161) ty3) rfl hT ?_; clear hE a; intro a hE
            replace hS := hF; clear hF hT
            refine Rg.takeP (i := 16) hE rfl (by kernel_rfl) (runs_plain rfl) (Gives.fld hE rfl fl90_2) rfl (tw_sel (fun _ => hS) (fun _ => (hS.dropAt 1))) ?_; clear hE a; intro a hE
            have hT := tw_sel (A := fun w => St w s (pt b117 (.cells (MendFirst.cells x97).toArray 90 (0, 0)) :: nestC 22 3 1 (some ⟨b54, 0, none⟩) x52.length x52.length ds109 :: pt b51 (.cells #[.int .i64 x0.Period, .slice a0_0 x0.Plan.length c0_0, .slice a0_1 x0.Links.length c0_1] 25 (0, 0)) :: R)) (B := fun w => St w s (pt b117 (.cells (MendFirst.cells x97).toArray 90 (0, 0)) :: pt b51 (.cells #[.int .i64 x0.Period, .slice a0_0 x0.Plan.length c0_0, .slice a0_1 x0.Links.length c0_1] 25 (0, 0)) :: R)) (w := _) (x := true) (y := true) (fun _ => hS) (fun _ => (hS.dropAt 1))
            have hF := hS; replace hS := hS
            refine Rg.take (i := 17) true rfl hE rfl (by kernel_rfl) (runs_plain rfl) (Gives.loadB hE 0 rfl rfl rfl ty3) rfl hT ?_; clear hE a; intro a hE
            replace hS := hF; clear hF hT
            refine Rg.takeP (i := 18) hE rfl (by kernel_rfl) (runs_plain rfl) (Gives.max2 hE rfl rfl) rfl (tw_sel (fun _ => hS) (fun _ => (hS.dropAt 1))) ?_; clear hE a; intro a hE
            refine Rg.one (i := 19) false true rfl (by kernel_rfl) (by kernel_rfl) (by kernel_rfl) ?_
            replace hS := hS.borrowM 1 rfl hd140
            obtain ⟨_, hx164, hq118⟩ := bindS hq118
            obtain ⟨h165, h166⟩ := ix_some hx164
            refine WL.vS hS hE (runs_plain rfl) (Gives.idx hE ((x97.Event).toNat) rfl rfl sl22 h165 (by omega) (hS.vecAok 0 rfl (by omega : (x97.Event).toNat < x132.length))) rfl ?_; clear hE a; intro a hE
            refine WL.nil ?_
            refine ⟨⟨fun h => absurd h (by decide), fun _ => ((hS.tail).dropAt 1)⟩, ?_⟩
            refine Rg.one (i := 20) false true rfl (by kernel_rfl) (by kernel_rfl) (by kernel_rfl) ?_
            obtain ⟨x168, hx169, hq118⟩ := bindS hq118
            refine WL.setD hE hS 0 rfl (runs_plain rfl) rfl rfl (vs := [.int .i64 (mx x152 x97.Secs)]) rfl ty3 rfl rfl rfl hev141 (rfl) (sx_some hx169).1 hx169 rfl rfl ?_; clear hE hS a w; intro cs170 a w h171 hn172 hE hS
            refine WL.nil ?_
            refine ⟨⟨fun h => absurd h (by decide), fun _ => ((hS.tail).dropAt 1)⟩, ?_⟩
            refine Rg.done (by kernel_rfl) ?_
            subst hK131
            replace hS := hS.giveBack 1 rfl hd140
            have h174 := h110.set (k := (x97.Period).toNat) (d := ⟨a137, c138, x132.length, cs170⟩) h171 hn172
            have hn175 : (q105.set ((x97.Period).toNat) x168).length = x52.length := by simp; exact hn111
            generalize List.set ds109 ((x97.Period).toNat) _ = ds173 at hS h174
            subst hK129
            exact ⟨(q105.set ((x97.Period).toNat) x168), ds173, Option.some.inj hq118, h174, hn175, hE.pick _ ⟨rfl, rfl, rfl, rfl, rfl, rfl, trivial⟩, hS⟩
          · replace hq118 := iteF hc130 hq118
            refine W.skip ?_
            subst hK129
            exact ⟨q105, ds109, Option.some.inj hq118, h110, hn111, hE.pick _ ⟨rfl, rfl, rfl, rfl, rfl, rfl, trivial⟩, hS⟩
        · clear hE hS a w; rintro a w ⟨q122, ds126, rfl, h127, hn128, hE, hS⟩
          refine W.region ?_
          refine WL.vS hS hE (runs_plain rfl) (Gives.inc hE rfl (by have := h1.small; omega)) rfl ?_; clear hE a; intro a hE
          refine WL.vS hS hE (runs_plain rfl) (Gives.p hE rfl) rfl ?_; clear hE a; intro a hE
          refine WL.nil ?_
          replace hS := hS.tail
          subst hK112
          exact ⟨rest98.length, Nat.lt_succ_self _, rest98, k96 + 1, q122, ds126, rfl, hd99, hq94, h127, hn128, hE.pick _ ⟨rfl, rfl, rfl, rfl, rfl, rfl, trivial⟩, hS⟩
    · clear hE hS a w; rintro a w ⟨q105, ds109, rfl, h110, hn111, hE, hS⟩
      refine W.seq ?_
      refine W.seq ?_
      refine W.region ?_
      refine WL.vS hS hE (runs_plain rfl) (Gives.p hE rfl) rfl ?_; clear hE a; intro a hE
      refine WL.nil ?_
      obtain ⟨q177, hq176, hr⟩ := bindS hr
      refine W.cut (fun a w => ∃ (q182 : Bool), ∃ (q183 : List (List Int)), ∃ (ds187 : List In), (q182, q183) = q177 ∧ NEv 1 (RI .i64) s ds187 q183 ∧ q183.length = x52.length ∧ Rep a 115 [(7, .slice (some ⟨b54, 0, none⟩) x52.length x52.length)] ∧ St w s (nestC 22 3 1 (some ⟨b54, 0, none⟩) x52.length x52.length ds187 :: pt b51 (.cells #[.int .i64 x0.Period, .slice a0_0 x0.Plan.length c0_0, .slice a0_1 x0.Links.length c0_1] 25 (0, 0)) :: R)) ?_ ?_
      · refine W.block ?_
        refine W.loop (fun m a w => ∃ (n178 : Nat), ∃ (q182 : Bool), ∃ (q183 : List (List Int)), ∃ (ds187 : List In), n178 = m ∧ Fishref2SpreadOf.loop3 x0 x52 n178 q182 q183 = some q177 ∧ NEv 1 (RI .i64) s ds187 q183 ∧ q183.length = x52.length ∧ Rep a 115 [(3, .pointer (some ⟨b51, 0, none⟩)), (7, .slice (some ⟨b54, 0, none⟩) x52.length x52.length), (11, .bool q182)] ∧ St w s (nestC 22 3 1 (some ⟨b54, 0, none⟩) x52.length x52.length ds187 :: pt b51 (.cells #[.int .i64 x0.Period, .slice a0_0 x0.Plan.length c0_0, .slice a0_1 x0.Links.length c0_1] 25 (0, 0)) :: R)) (m := fu) ⟨fu, true, q105, ds109, rfl, hq176, h110, hn111, hE.pick _ ⟨rfl, rfl, rfl, trivial⟩, hS⟩ ?_
        clear hE hS a w hq176; rintro m179 a w ⟨n178, q182, q183, ds187, rfl, hq176, h188, hn189, hE, hS⟩
        refine W.gen fun K190 hK190 => ?_
        rcases n178 with _ | n178
        · rw [Fishref2SpreadOf.loop3] at hq176; exact absurd hq176 (by simp)
        rw [Fishref2SpreadOf.loop3] at hq176
        refine W.seq ?_
        refine W.seq ?_
        refine W.region ?_
        refine WL.vS hS hE (runs_plain rfl) (Gives.p hE rfl) rfl ?_; clear hE a; intro a hE
        refine WL.nil ?_
        refine W.cond hE rfl (fun hc191 => ?_) (fun hc191 => ?_)
        · replace hq176 := iteT hc191 hq176
          refine W.skip ?_
          refine W.block ?_
          refine W.seq ?_
          refine W.region ?_
          refine WL.vS hS hE (runs_plain rfl) (Gives.p hE rfl) rfl ?_; clear hE a; intro a hE
          refine WL.nil ?_
          refine W.seq ?_
          refine W.region ?_
          refine WL.vS hS hE (runs_plain rfl) (Gives.p hE rfl) rfl ?_; clear hE a; intro a hE
          refine WL.vS hS hE (runs_plain rfl) (Gives.len hE rfl sl40) rfl ?_; clear hE a; intro a hE
          refine WL.vS hS hE (runs_plain rfl) (Gives.p hE rfl) rfl ?_; clear hE a; intro a hE
          refine WL.nil ?_
          have hb203 : x52.length ≤ 9223372036854775807 := by have := hS.nCap 0 rfl; unfold maxLen at this; omega
          obtain ⟨q193, hq192, hq176⟩ := bindS hq176
          refine W.cut (fun a w => ∃ (q204 : Bool), ∃ (q205 : List (List Int)), ∃ (ds209 : List In), (q204, q205) = q193 ∧ NEv 1 (RI .i64) s ds209 q205 ∧ q205.length = x52.length ∧ Rep a 115 [(3, .pointer (some ⟨b51, 0, none⟩)), (7, .slice (some ⟨b54, 0, none⟩) x52.length x52.length), (11, .bool q204)] ∧ St w s (nestC 22 3 1 (some ⟨b54, 0, none⟩) x52.length x52.length ds209 :: pt b51 (.cells #[.int .i64 x0.Period, .slice a0_0 x0.Plan.length c0_0, .slice a0_1 x0.Links.length c0_1] 25 (0, 0)) :: R)) ?_ ?_
          · refine W.block ?_
            refine W.loop (fun m a w => ∃ (rest196 : Nat) (k194 : Nat), ∃ (q204 : Bool), ∃ (q205 : List (List Int)), ∃ (ds209 : List In), rest196 = m ∧ k194 + rest196 = x52.length ∧ Fishref2SpreadOf.loop4 x0 rest196 k194 q204 q205 = some q193 ∧ NEv 1 (RI .i64) s ds209 q205 ∧ q205.length = x52.length ∧ Rep a 115 [(3, .pointer (some ⟨b51, 0, none⟩)), (7, .slice (some ⟨b54, 0, none⟩) x52.length x52.length), (11, .bool q204), (64, .int .i64 ((x52.length : Nat) : Int)), (65, .int .i64 ((k194 : Nat) : Int))] ∧ St w s (nestC 22 3 1 (some ⟨b54, 0, none⟩) x52.length x52.length ds209 :: pt b51 (.cells #[.int .i64 x0.Period, .slice a0_0 x0.Plan.length c0_0, .slice a0_1 x0.Links.length c0_1] 25 (0, 0)) :: R)) (m := x52.length) ⟨x52.length, 0, false, q183, ds187, rfl, by omega, hq192, h188, hn189, hE.pick _ ⟨rfl, rfl, rfl, rfl, rfl, trivial⟩, hS⟩ ?_
            clear hE hS a w hq192; rintro m200 a w ⟨rest196, k194, q204, q205, ds209, rfl, hd197, hq192, h210, hn211, hE, hS⟩
            refine W.gen fun K212 hK212 => ?_
            rcases rest196 with _ | rest196
            · skip
              refine W.seq ?_
              refine W.region ?_
              refine WL.vS hS hE (runs_plain rfl) (Gives.p hE rfl) rfl ?_; clear hE a; intro a hE
              refine WL.nil ?_
              refine W.seq ?_
              refine W.condF hE rfl (decide_eq_false (by omega)) ?_
              subst hK212
              refine W.exit rfl ?_
              exact ⟨q204, q205, ds209, Option.some.inj hq192, h210, hn211, hE.pick _ ⟨rfl, rfl, rfl, trivial⟩, hS⟩
            · have hlt198 : k194 < x52.length := by omega
              rw [Fishref2SpreadOf.loop4] at hq192
              refine W.seq ?_
              refine W.region ?_
              refine WL.vS hS hE (runs_plain rfl) (Gives.p hE rfl) rfl ?_; clear hE a; intro a hE
              refine WL.nil ?_
              refine W.seq ?_
              refine W.condT hE rfl (decide_eq_true (by omega)) ?_
              refine W.skip ?_
              refine W.seq ?_
              refine W.block ?_
              refine W.seq ?_
              refine W.region ?_
              refine WL.vS hS hE (runs_plain rfl) (Gives.p hE rfl) rfl ?_; clear hE a; intro a hE
              refine WL.vS hS hE (runs_plain rfl) (Gives.p hE rfl) rfl ?_; clear hE a; intro a hE
              refine WL.nil ?_
              refine W.seq ?_
              refine W.region ?_
              refine WL.vS hS hE (runs_plain rfl) (Gives.fld hE rfl fl25_2) rfl ?_; clear hE a; intro a hE
              refine WL.vS hS hE (runs_plain rfl) (Gives.loadB hE 1 rfl rfl rfl ty23) rfl ?_; clear hE a; intro a hE
              refine WL.vS hS hE (runs_plain rfl) (Gives.len hE rfl sl23) rfl ?_; clear hE a; intro a hE
              refine WL.vS hS hE (runs_plain rfl) (Gives.p hE rfl) rfl ?_; clear hE a; intro a hE
              refine WL.nil ?_
              obtain ⟨q214, hq213, hq192⟩ := bindS hq192
              refine W.cut (fun a w => ∃ (q224 : Bool), ∃ (q225 : List (List Int)), ∃ (ds229 : List In), (q224, q225) = q214 ∧ NEv 1 (RI .i64) s ds229 q225 ∧ q225.length = x52.length ∧ Rep a 115 [(3, .pointer (some ⟨b51, 0, none⟩)), (7, .slice (some ⟨b54, 0, none⟩) x52.length x52.length), (11, .bool q224), (64, .int .i64 ((x52.length : Nat) : Int)), (65, .int .i64 ((k194 : Nat) : Int))] ∧ St w s (nestC 22 3 1 (some ⟨b54, 0, none⟩) x52.length x52.length ds229 :: pt b51 (.cells #[.int .i64 x0.Period, .slice a0_0 x0.Plan.length c0_0, .slice a0_1 x0.Links.length c0_1] 25 (0, 0)) :: R)) ?_ ?_
              · refine W.block ?_
                refine W.loop (fun m a w => ∃ (rest217 : List MendLink) (k215 : Nat), ∃ (q224 : Bool), ∃ (q225 : List (List Int)), ∃ (ds229 : List In), rest217.length = m ∧ x0.Links.drop k215 = rest217 ∧ Fishref2SpreadOf.loop5 x0 k194 rest217 q224 q225 = some q214 ∧ NEv 1 (RI .i64) s ds229 q225 ∧ q225.length = x52.length ∧ Rep a 115 [(3, .pointer (some ⟨b51, 0, none⟩)), (7, .slice (some ⟨b54, 0, none⟩) x52.length x52.length), (11, .bool q224), (12, .int .i64 ((k194 : Nat) : Int)), (64, .int .i64 ((x52.length : Nat) : Int)), (65, .int .i64 ((k194 : Nat) : Int)), (69, .slice a0_1 x0.Links.length c0_1), (70, .int .i64 ((x0.Links).length : Int)), (71, .int .i64 ((k215 : Nat) : Int))] ∧ St w s (nestC 22 3 1 (some ⟨b54, 0, none⟩) x52.length x52.length ds229 :: pt b51 (.cells #[.int .i64 x0.Period, .slice a0_0 x0.Plan.length c0_0, .slice a0_1 x0.Links.length c0_1] 25 (0, 0)) :: R)) (m := x0.Links.length) ⟨x0.Links, 0, q204, q205, ds209, rfl, rfl, hq213, h210, hn211, hE.pick _ ⟨rfl, rfl, rfl, rfl, rfl, rfl, rfl, rfl, rfl, trivial⟩, hS⟩ ?_
                clear hE hS a w hq213; rintro m221 a w ⟨rest217, k215, q224, q225, ds229, rfl, hd218, hq213, h230, hn231, hE, hS⟩
                refine W.gen fun K232 hK232 => ?_
                rcases rest217 with _ | ⟨x216, rest217⟩
                · have hlt219 := drop_nil hd218
                  refine W.seq ?_
                  refine W.region ?_
                  refine WL.vS hS hE (runs_plain rfl) (Gives.p hE rfl) rfl ?_; clear hE a; intro a hE
                  refine WL.nil ?_
                  refine W.seq ?_
                  refine W.condF hE rfl (decide_eq_false (by omega)) ?_
                  subst hK232
                  refine W.exit rfl ?_
                  exact ⟨q224, q225, ds229, Option.some.inj hq213, h230, hn231, hE.pick _ ⟨rfl, rfl, rfl, rfl, rfl, trivial⟩, hS⟩
                · obtain ⟨hlt219, hx220, hd218⟩ := drop_cons hd218
                  rw [Fishref2SpreadOf.loop5] at hq213
                  refine W.seq ?_
                  refine W.region ?_
                  refine WL.vS hS hE (runs_plain rfl) (Gives.p hE rfl) rfl ?_; clear hE a; intro a hE
                  refine WL.nil ?_
                  refine W.seq ?_
                  refine W.condT hE rfl (decide_eq_true (by omega)) ?_
                  refine W.skip ?_
                  refine W.seq ?_
                  refine W.block ?_
                  refine W.seq ?_
                  refine W.region ?_
                  obtain ⟨cs233, hl234, hR235, hat236⟩ := h0_1.at hx220
                  subst hR235
                  refine WL.vS hS hE (runs_plain rfl) (Gives.idx hE k215 rfl rfl sl23 rfl hlt219 (h0_1.aok hlt219)) rfl ?_; clear hE a; intro a hE
                  refine WL.vS hS hE (runs_plain rfl) (Gives.loadA hE rfl (fun w h => hat236 w _ h) ty36) rfl ?_; clear hE a; intro a hE
                  refine WL.alloc hE hS (runs_plain rfl) zr36 rfl ?_; clear hE hS a w; intro b237 a w hE hS
                  refine WL.storeI hE hS 0 rfl (MendLink.cells x216) (runs_plain rfl) rfl rfl rfl ty36 rfl rfl rfl rfl ?_; clear hE hS a w; intro a w hE hS
                  refine WL.nil ?_
                  refine W.seq ?_
                  refine W.seq ?_
                  refine W.region ?_
                  refine WL.vS hS hE (runs_plain rfl) (Gives.p hE rfl) rfl ?_; clear hE a; intro a hE
                  refine WL.vS hS hE (runs_plain rfl) (Gives.fld hE rfl fl36_3) rfl ?_; clear hE a; intro a hE
                  refine WL.vS hS hE (runs_plain rfl) (Gives.loadB hE 0 rfl rfl rfl ty3) rfl ?_; clear hE a; intro a hE
                  refine WL.vS hS hE (runs_plain rfl) (Gives.p hE rfl) rfl ?_; clear hE a; intro a hE
                  refine WL.nil ?_
                  refine W.cond hE rfl (fun hc238 => ?_) (fun hc238 => ?_)
                  · replace hq213 := iteT hc238 hq213
                    refine W.exit rfl ?_
                    refine W.region ?_
                    refine WL.vS hS hE (runs_plain rfl) (Gives.inc hE rfl (by have := h0_1.small; omega)) rfl ?_; clear hE a; intro a hE
                    refine WL.vS hS hE (runs_plain rfl) (Gives.p hE rfl) rfl ?_; clear hE a; intro a hE
                    refine WL.nil ?_
                    replace hS := hS.tail
                    subst hK232
                    exact ⟨rest217.length, Nat.lt_succ_self _, rest217, k215 + 1, q224, q225, ds229, rfl, hd218, hq213, h230, hn231, hE.pick _ ⟨rfl, rfl, rfl, rfl, rfl, rfl, rfl, rfl, rfl, trivial⟩, hS⟩
                  · replace hq213 := iteF hc238 hq213
                    refine W.skip ?_
                    refine W.seq ?_
                    refine W.regionQ (C := fun w => St w s (pt b237 (.cells (MendLink.cells x216).toArray 36 (0, 0)) :: nestC 22 3 1 (some ⟨b54, 0, none⟩) x52.length x52.length ds229 :: pt b51 (.cells #[.int .i64 x0.Period, .slice a0_0 x0.Plan.length c0_0, .slice a0_1 x0.Links.length c0_1] 25 (0, 0)) :: R)) mixed (by kernel_rfl) hS.drew ?_
                    refine QL.v hE (runs_plain rfl) (Gives.p hE rfl) rfl ?_; clear hE a; intro a hE
                    refine QL.v hE (runs_plain rfl) (Gives.p hE rfl) rfl ?_; clear hE a; intro a hE
                    refine QL.v hE (runs_plain rfl) (Gives.fld hE rfl fl36_3) rfl ?_; clear hE a; intro a hE
                    refine QL.v hE (runs_plain rfl) (Gives.loadB hE 0 rfl rfl rfl ty3) rfl ?_; clear hE a; intro a hE
                    refine QL.v hE (runs_plain rfl) (Gives.p hE rfl) rfl ?_; clear hE a; intro a hE
                    obtain ⟨x239, hx240, hq213⟩ := bindS hq213
                    obtain ⟨hi241, hlt242, hy243⟩ := gx_some hx240
                    obtain ⟨a244, c245, cs246, hd247, hev248⟩ := h230.at hy243
                    refine QL.v hE (runs_plain rfl) (Gives.idx hE ((w64 (((k194 : Nat) : Int) - x216.Back)).toNat) rfl rfl sl40 hi241 (by have := hn231; omega) (hS.nAok 1 rfl (by have := hn231; omega : (w64 (((k194 : Nat) : Int) - x216.Back)).toNat < x52.length))) rfl ?_; clear hE a; intro a hE
                    refine QL.v hE (runs_plain rfl) (Gives.load1 (v := .slice a244 x239.length c245) hE rfl (fun w h => St.nSees h 1 rfl hd247) ty22) rfl ?_; clear hE a; intro a hE
                    refine QL.v hE (runs_plain rfl) (Gives.fld hE rfl fl36_0) rfl ?_; clear hE a; intro a hE
                    refine QL.v hE (runs_plain rfl) (Gives.loadB hE 0 rfl rfl rfl ty3) rfl ?_; clear hE a; intro a hE
                    obtain ⟨x249, hx250, hq213⟩ := bindS hq213
                    obtain ⟨hi251, hlt252, hy253⟩ := gx_some hx250
                    obtain ⟨vs254, hl255, hR256, hd257, hget258⟩ := hev248.at hy253
                    subst hR256
                    refine QL.v hE (runs_plain rfl) (Gives.idx hE ((x216.From).toNat) rfl rfl sl22 hi251 hlt252 (hS.nnAok 1 rfl hd247 hlt252)) rfl ?_; clear hE a; intro a hE
                    refine QL.v hE (runs_plain rfl) (Gives.load1 hE rfl (fun w h => St.nnSees h 1 rfl hd247 ((x216.From).toNat * 1) _ hget258) ty3) rfl ?_; clear hE a; intro a hE
                    refine QL.v hE (runs_plain rfl) (Gives.loadBA hE 2 rfl rfl ty25) rfl ?_; clear hE a; intro a hE
                    refine QL.v hE (runs_plain rfl) (Gives.loadBA hE 0 rfl rfl ty36) rfl ?_; clear hE a; intro a hE
                    obtain ⟨q259, hq260, hq213⟩ := bindS hq213
                    refine QL.fnq hE (fun w hS => Fishref2SlackOf_ok hS h0_0 h0_1 hq260) (runs_plain rfl) bd52 rfl rfl rfl ?_; clear hE a; intro a hE
                    refine QL.v hE (runs_plain rfl) (Gives.p hE rfl) rfl ?_; clear hE a; intro a hE
                    refine QL.v hE (runs_plain rfl) (Gives.p hE rfl) rfl ?_; clear hE a; intro a hE
                    refine QL.nil ?_; clear hS w; intro w hS
                    refine W.seq ?_
                    refine W.regionQ (C := fun w => St w s (pt b237 (.cells (MendLink.cells x216).toArray 36 (0, 0)) :: nestC 22 3 1 (some ⟨b54, 0, none⟩) x52.length x52.length ds229 :: pt b51 (.cells #[.int .i64 x0.Period, .slice a0_0 x0.Plan.length c0_0, .slice a0_1 x0.Links.length c0_1] 25 (0, 0)) :: R)) mixed (by kernel_rfl) hS.drew ?_
                    refine QL.v hE (runs_plain rfl) (Gives.p hE rfl) rfl ?_; clear hE a; intro a hE
                    refine QL.v hE (runs_plain rfl) (Gives.p hE rfl) rfl ?_; clear hE a; intro a hE
                    refine QL.v hE (runs_plain rfl) (Gives.p hE rfl) rfl ?_; clear hE a; intro a hE
                    obtain ⟨x261, hx262, hq213⟩ := bindS hq213
                    obtain ⟨hi263, hlt264, hy265⟩ := gx_some hx262
                    obtain ⟨a266, c267, cs268, hd269, hev270⟩ := h230.at hy265
                    refine QL.v hE (runs_plain rfl) (Gives.idx hE ((((k194 : Nat) : Int)).toNat) rfl rfl sl40 hi263 (by have := hn231; omega) (hS.nAok 1 rfl (by have := hn231; omega : (((k194 : Nat) : Int)).toNat < x52.length))) rfl ?_; clear hE a; intro a hE
                    refine QL.v hE (runs_plain rfl) (Gives.load1 (v := .slice a266 x261.length c267) hE rfl (fun w h => St.nSees h 1 rfl hd269) ty22) rfl ?_; clear hE a; intro a hE
                    refine QL.v hE (runs_plain rfl) (Gives.fld hE rfl fl36_1) rfl ?_; clear hE a; intro a hE
                    refine QL.v hE (runs_plain rfl) (Gives.loadB hE 0 rfl rfl rfl ty3) rfl ?_; clear hE a; intro a hE
                    obtain ⟨x271, hx272, hq213⟩ := bindS hq213
                    obtain ⟨hi273, hlt274, hy275⟩ := gx_some hx272
                    obtain ⟨vs276, hl277, hR278, hd279, hget280⟩ := hev270.at hy275
                    subst hR278
                    refine QL.v hE (runs_plain rfl) (Gives.idx hE ((x216.To).toNat) rfl rfl sl22 hi273 hlt274 (hS.nnAok 1 rfl hd269 hlt274)) rfl ?_; clear hE a; intro a hE
                    refine QL.v hE (runs_plain rfl) (Gives.load1 hE rfl (fun w h => St.nnSees h 1 rfl hd269 ((x216.To).toNat * 1) _ hget280) ty3) rfl ?_; clear hE a; intro a hE
                    refine QL.v hE (runs_plain rfl) (Gives.p hE rfl) rfl ?_; clear hE a; intro a hE
                    refine QL.nil ?_; clear hS w; intro w hS
                    obtain ⟨q282, hq281, hq213⟩ := bindS hq213
                    refine W.cut (fun a w => ∃ (q285 : Bool), ∃ (q286 : List (List Int)), ∃ (ds290 : List In), (q285, q286) = q282 ∧ NEv 1 (RI .i64) s ds290 q286 ∧ q286.length = x52.length ∧ Rep a 115 [(3, .pointer (some ⟨b51, 0, none⟩)), (7, .slice (some ⟨b54, 0, none⟩) x52.length x52.length), (11, .bool q285), (12, .int .i64 ((k194 : Nat) : Int)), (64, .int .i64 ((x52.length : Nat) : Int)), (65, .int .i64 ((k194 : Nat) : Int)), (69, .slice a0_1 x0.Links.length c0_1), (70, .int .i64 ((x0.Links).length : Int)), (71, .int .i64 ((k215 : Nat) : Int))] ∧ St w s (pt b237 (.cells (MendLink.cells x216).toArray 36 (0, 0)) :: nestC 22 3 1 (some ⟨b54, 0, none⟩) x52.length x52.length ds290 :: pt b51 (.cells #[.int .i64 x0.Period, .slice a0_0 x0.Plan.length c0_0, .slice a0_1 x0.Links.length c0_1] 25 (0, 0)) :: R)) ?_ ?_
                    · refine W.gen fun K293 hK293 => ?_
                      refine W.cond hE rfl (fun hc294 => ?_) (fun hc294 => ?_)
                      · replace hq281 := iteT hc294 hq281
                        refine W.gen fun K295 hK295 => ?_
                        refine W.regionE (sel (fun w => St w s (pt b237 (.cells (MendLink.cells x216).toArray 36 (0, 0)) :: nestC 22 3 1 (some ⟨b54, 0, none⟩) x52.length x52.length ds229 :: pt b51 (.cells #[.int .i64 x0.Period, .slice a0_0 x0.Plan.length c0_0, .slice a0_1 x0.Links.length c0_1] 25 (0, 0)) :: R)) (fun w => St w s (pt b237 (.cells (MendLink.cells x216).toArray 36 (0, 0)) :: pt b51 (.cells #[.int .i64 x0.Period, .slice a0_0 x0.Plan.length c0_0, .slice a0_1 x0.Links.length c0_1] 25 (0, 0)) :: R))) (fun b i => cond b ([0, 1, 2, 3, 4, 5, 6, 9].contains i) ([0, 1, 2, 3, 4, 5, 6, 7, 8, 9].contains i)) mixed ?_
                        replace hS := hS.drew
                        refine Rg.takeP (i := 0) hE rfl (by kernel_rfl) (runs_plain rfl) (Gives.p hE rfl) rfl (tw_sel (fun _ => hS) (fun _ => (hS.dropAt 1))) ?_; clear hE a; intro a hE
                        refine Rg.takeP (i := 1) hE rfl (by kernel_rfl) (runs_plain rfl) (Gives.p hE rfl) rfl (tw_sel (fun _ => hS) (fun _ => (hS.dropAt 1))) ?_; clear hE a; intro a hE
                        obtain ⟨x296, hx297, hq281⟩ := bindS hq281
                        obtain ⟨hi298, hlt299, hy300⟩ := gx_some hx297
                        obtain ⟨a301, c302, cs303, hd304, hev305⟩ := h230.at hy300
                        refine Rg.takeP (i := 2) hE rfl (by kernel_rfl) (runs_plain rfl) (Gives.idx hE ((((k194 : Nat) : Int)).toNat) rfl rfl sl40 hi298 (by have := hn231; omega) (hS.nAok 1 rfl (by have := hn231; omega : (((k194 : Nat) : Int)).toNat < x52.length))) rfl (tw_sel (fun _ => hS) (fun _ => (hS.dropAt 1))) ?_; clear hE a; intro a hE
                        have hT := tw_sel (A := fun w => St w s (pt b237 (.cells (MendLink.cells x216).toArray 36 (0, 0)) :: nestC 22 3 1 (some ⟨b54, 0, none⟩) x52.length x52.length ds229 :: pt b51 (.cells #[.int .i64 x0.Period, .slice a0_0 x0.Plan.length c0_0, .slice a0_1 x0.Links.length c0_1] 25 (0, 0)) :: R)) (B := fun w => St w s (pt b237 (.cells (MendLink.cells x216).toArray 36 (0, 0)) :: pt b51 (.cells #[.int .i64 x0.Period, .slice a0_0 x0.Plan.length c0_0, .slice a0_1 x0.Links.length c0_1] 25 (0, 0)) :: R)) (w := _) (x := true) (y := true) (fun _ => hS) (fun _ => (hS.dropAt 1))
                        have hF := hS; replace hS := hS
                        refine Rg.take (i := 3) true rfl hE rfl (by kernel_rfl) (runs_plain rfl) (Gives.load1 (v := .slice a301 x296.length c302) hE rfl (fun w h => St.nSees h 1 rfl hd304) ty22) rfl hT ?_; clear hE a; intro a hE
                        replace hS := hF; clear hF hT
                        refine Rg.takeP (i := 4) hE rfl (by kernel_rfl) (runs_plain rfl) (Gives.fld hE rfl fl36_1) rfl (tw_sel (fun _ => hS) (fun _ => (hS.dropAt 1))) ?_; clear hE a; intro a hE
                        have hT := tw_sel (A := fun w => St w s (pt b237 (.cells (MendLink.cells x216).toArray 36 (0, 0)) :: nestC 22 3 1 (some ⟨b54, 0, none⟩) x52.length x52.length ds229 :: pt b51 (.cells #[.int .i64 x0.Period, .slice a0_0 x0.Plan.length c0_0, .slice a0_1 x0.Links.length c0_1] 25 (0, 0)) :: R)) (B := fun w => St w s (pt b237 (.cells (MendLink.cells x216).toArray 36 (0, 0)) :: pt b51 (.cells #[.int .i64 x0.Period, .slice a0_0 x0.Plan.length c0_0, .slice a0_1 x0.Links.length c0_1] 25 (0, 0)) :: R)) (w := _) (x := true) (y := true) (fun _ => hS) (fun _ => (hS.dropAt 1))
                        have hF := hS; replace hS := hS
                        refine Rg.take (i := 5) true rfl hE rfl (by kernel_rfl) (runs_plain rfl) (Gives.loadB hE 0 rfl rfl rfl ty3) rfl hT ?_; clear hE a; intro a hE
                        replace hS := hF; clear hF hT
                        refine Rg.takeP (i := 6) hE rfl (by kernel_rfl) (runs_plain rfl) (Gives.p hE rfl) rfl (tw_sel (fun _ => hS) (fun _ => (hS.dropAt 1))) ?_; clear hE a; intro a hE
                        refine Rg.one (i := 7) false true rfl (by kernel_rfl) (by kernel_rfl) (by kernel_rfl) ?_
                        replace hS := hS.borrowM 1 rfl hd304
                        obtain ⟨_, hx308, hq281⟩ := bindS hq281
                        obtain ⟨h309, h310⟩ := ix_some hx308
                        refine WL.vS hS hE (runs_plain rfl) (Gives.idx hE ((x216.To).toNat) rfl rfl sl22 h309 (by omega) (hS.vecAok 0 rfl (by omega : (x216.To).toNat < x296.length))) rfl ?_; clear hE a; intro a hE
                        refine WL.nil ?_
                        refine ⟨⟨fun h => absurd h (by decide), fun _ => ((hS.tail).dropAt 1)⟩, ?_⟩
                        refine Rg.one (i := 8) false true rfl (by kernel_rfl) (by kernel_rfl) (by kernel_rfl) ?_
                        obtain ⟨x312, hx313, hq281⟩ := bindS hq281
                        refine WL.setD hE hS 0 rfl (runs_plain rfl) rfl rfl (vs := [.int .i64 (w64 (x249 - q259))]) rfl ty3 rfl rfl rfl hev305 (rfl) (sx_some hx313).1 hx313 rfl rfl ?_; clear hE hS a w; intro cs314 a w h315 hn316 hE hS
                        refine WL.nil ?_
                        refine ⟨⟨fun h => absurd h (by decide), fun _ => ((hS.tail).dropAt 1)⟩, ?_⟩
                        refine Rg.takeP (i := 9) hE rfl (by kernel_rfl) (runs_plain rfl) (Gives.p hE rfl) rfl (tw_sel (fun h => absurd h (by decide)) (fun _ => ((hS.tail).dropAt 1))) ?_; clear hE a; intro a hE
                        refine Rg.done (by kernel_rfl) ?_
                        subst hK295
                        replace hS := hS.giveBack 1 rfl hd304
                        have h318 := h230.set (k := (((k194 : Nat) : Int)).toNat) (d := ⟨a301, c302, x296.length, cs314⟩) h315 hn316
                        have hn319 : (q225.set ((((k194 : Nat) : Int)).toNat) x312).length = x52.length := by simp; exact hn231
                        generalize List.set ds229 ((((k194 : Nat) : Int)).toNat) _ = ds317 at hS h318
                        subst hK293
                        exact ⟨true, (q225.set ((((k194 : Nat) : Int)).toNat) x312), ds317, Option.some.inj hq281, h318, hn319, hE.pick _ ⟨rfl, rfl, rfl, rfl, rfl, rfl, rfl, rfl, rfl, trivial⟩, hS⟩
                      · replace hq281 := iteF hc294 hq281
                        refine W.skip ?_
                        subst hK293
                        exact ⟨q224, q225, ds229, Option.some.inj hq281, h230, hn231, hE.pick _ ⟨rfl, rfl, rfl, rfl, rfl, rfl, rfl, rfl, rfl, trivial⟩, hS⟩
                    · clear hE hS a w; rintro a w ⟨q285, q286, ds290, rfl, h291, hn292, hE, hS⟩
                      dsimp only at hq213
                      refine W.region ?_
                      refine WL.vS hS hE (runs_plain rfl) (Gives.inc hE rfl (by have := h0_1.small; omega)) rfl ?_; clear hE a; intro a hE
                      refine WL.vS hS hE (runs_plain rfl) (Gives.p hE rfl) rfl ?_; clear hE a; intro a hE
                      refine WL.nil ?_
                      replace hS := hS.tail
                      subst hK232
                      exact ⟨rest217.length, Nat.lt_succ_self _, rest217, k215 + 1, q285, q286, ds290, rfl, hd218, hq213, h291, hn292, hE.pick _ ⟨rfl, rfl, rfl, rfl, rfl, rfl, rfl, rfl, rfl, trivial⟩, hS⟩
              · clear hE hS a w; rintro a w ⟨q224, q225, ds229, rfl, h230, hn231, hE, hS⟩
                dsimp only at hq192
                refine W.region ?_
                refine WL.vS hS hE (runs_plain rfl) (Gives.inc hE rfl (by omega)) rfl ?_; clear hE a; intro a hE
                refine WL.vS hS hE (runs_plain rfl) (Gives.p hE rfl) rfl ?_; clear hE a; intro a hE
                refine WL.nil ?_
                subst hK212
                exact ⟨rest196, Nat.lt_succ_self _, rest196, k194 + 1, q224, q225, ds229, rfl, (by omega), hq192, h230, hn231, hE.pick _ ⟨rfl, rfl, rfl, rfl, rfl, trivial⟩, hS⟩
          · clear hE hS a w; rintro a w ⟨q204, q205, ds209, rfl, h210, hn211, hE, hS⟩
            dsimp only at hq176
            subst hK190
            exact ⟨n178, Nat.lt_succ_self _, n178, q204, q205, ds209, rfl, hq176, h210, hn211, hE.pick _ ⟨rfl, rfl, rfl, trivial⟩, hS⟩
        · replace hq176 := iteF hc191 hq176
          subst hK190
          refine W.exit rfl ?_
          exact ⟨q182, q183, ds187, Option.some.inj hq176, h188, hn189, hE.pick _ ⟨rfl, trivial⟩, hS⟩
      · clear hE hS a w; rintro a w ⟨q182, q183, ds187, rfl, h188, hn189, hE, hS⟩
        dsimp only at hr
        refine W.seq ?_
        refine W.region ?_
        refine WL.vS hS hE (runs_plain rfl) (Gives.p hE rfl) rfl ?_; clear hE a; intro a hE
        refine WL.vS hS hE (runs_plain rfl) (Gives.p hE rfl) rfl ?_; clear hE a; intro a hE
        refine WL.nil ?_
        refine W.ret ?_
        have hF := hS.fixN RI.mono 0 rfl h188 hn189; clear hS; obtain ⟨s320, hle321, hS, h322⟩ := hF
        (try rw [← hn189] at hE)
        (try rw [← hn189] at hS)
        (try rw [← hn189] at h322)
        replace h0_0 := Sl.mono RI.mono hle321 h0_0
        replace h0_1 := Sl.mono RMendLink.mono hle321 h0_1
        refine finG (fn := Try.f22) (rs := [.tmp 6]) (vs := [_]) hE rfl ⟨rfl, trivial⟩ ?_
        obtain rfl := Option.some.inj hr
        replace hS := hS.tail
        exact ⟨(some ⟨b54, 0, none⟩), q183.length, s320, rfl, hle321, h322, hS⟩
set_option maxHeartbeats 8000000 in
theorem Fishlaw2MendSpreads_ok {fu : Nat}  {w : World} {s : Sg} {R : List HP} {x0 : MendRound} {a0_0 : Option Addr} {c0_0 : Nat} {a0_1 : Option Addr} {c0_1 : Nat} {x1 : List MendFirst} {a1 : Option Addr} {c1 : Nat} {x2 : Int} (hS : St w s (R)) (h0_0 : Sl 1 (RI .i64) s a0_0 c0_0 x0.Plan) (h0_1 : Sl 4 RMendLink s a0_1 c0_1 x0.Links) (h1 : Sl 3 RMendFirst s a1 c1 x1) {r : Bool} (hr : Fishlaw2MendSpreads fu x0 x1 x2 = some r) :
    Calls Try.prog 4 [.agg [.int .i64 x0.Period, .slice a0_0 x0.Plan.length c0_0, .slice a0_1 x0.Links.length c0_1].toArray, .slice a1 x1.length c1, .int .i64 x2].toArray w (fun e w => e = .returned (.bool r) ∧ St w s (R)) := by
  refine enter Try.func4 rfl rfl rfl fun a hE => ?_
  rw [Fishlaw2MendSpreads] at hr
  refine W.seq ?_
  refine W.region ?_
  refine WL.box hE hS (runs_plain rfl) rfl rfl rfl ?_; clear hE hS a w; intro b51 a w hE hS
  refine WL.vS hS hE (runs_plain rfl) (Gives.p hE rfl) rfl ?_; clear hE a; intro a hE
  refine WL.nil ?_
  refine W.seq ?_
  refine W.region ?_
  refine WL.vS hS hE (runs_plain rfl) (Gives.loadBA hE 0 rfl rfl ty25) rfl ?_; clear hE a; intro a hE
  refine WL.vS hS hE (runs_plain rfl) (Gives.p hE rfl) rfl ?_; clear hE a; intro a hE
  refine WL.vS hS hE (runs_plain rfl) (Gives.p hE rfl) rfl ?_; clear hE a; intro a hE
  obtain ⟨q52, hq53, hr⟩ := bindS hr
  have hc_ := MendSpread_ok hS h0_0 h0_1 h1 hq53
  refine WL.fnq hE (hc_) (runs_plain rfl) bd19 rfl rfl rfl ?_
  clear hE hS hc_; rintro e w ⟨a54, c55, n56, cs57, s60, rfl, hle61, h58, rfl, hS⟩; refine ⟨_, rfl, ?_⟩; clear a; intro a hE
  replace h0_0 := Sl.mono RI.mono hle61 h0_0
  replace h0_1 := Sl.mono RMendLink.mono hle61 h0_1
  replace h1 := Sl.mono RMendFirst.mono hle61 h1
  refine WL.vS hS hE (runs_plain rfl) (Gives.p hE rfl) rfl ?_; clear hE a; intro a hE
  refine WL.vS hS hE (runs_plain rfl) (Gives.p hE rfl) rfl ?_; clear hE a; intro a hE
  refine WL.vS hS hE (runs_plain rfl) (Gives.p hE rfl) rfl ?_; clear hE a; intro a hE
  refine WL.vS hS hE (runs_plain rfl) (Gives.p hE rfl) rfl ?_; clear hE a; intro a hE
  refine WL.vS hS hE (runs_plain rfl) (Gives.p hE rfl) rfl ?_; clear hE a; intro a hE
  refine WL.nil ?_
  refine W.seq ?_
  refine W.region ?_
  refine WL.vS hS hE (runs_plain rfl) (Gives.loadBA hE 1 rfl rfl ty25) rfl ?_; clear hE a; intro a hE
  obtain ⟨q62, hq63, hr⟩ := bindS hr
  have hc_ := Fishref2RoundFault_ok hS h0_0 h0_1 hq63
  refine WL.fnq hE (hc_) (runs_plain rfl) bd14 rfl rfl rfl ?_
  clear hE hS hc_; rintro e w ⟨rfl, hS⟩; refine ⟨_, rfl, ?_⟩; clear a; intro a hE
  refine WL.vS hS hE (runs_plain rfl) (Gives.p hE rfl) rfl ?_; clear hE a; intro a hE
  refine WL.nil ?_
  refine W.seq ?_
  refine W.seq ?_
  refine W.region ?_
  refine WL.vS hS hE (runs_plain rfl) (Gives.p hE rfl) rfl ?_; clear hE a; intro a hE
  refine WL.vS hS hE (runs_plain rfl) (Gives.p hE rfl) rfl ?_; clear hE a; intro a hE
  refine WL.nil ?_
  obtain ⟨q65, hq64, hr⟩ := bndS hr
  refine W.cut (fun a w => ∃ (q68 : Int), q68 = q65 ∧ Rep a 51 [(1, .slice a1 x1.length c1), (2, .int .i64 x2), (3, .pointer (some ⟨b51, 0, none⟩)), (7, .slice a54 q52.1.length c55), (8, .int .i64 q52.2), (9, .int .i64 q68)] ∧ St w s60 (vecC 22 1 a54 c55 q52.1.length cs57 :: pt b51 (.cells #[.int .i64 x0.Period, .slice a0_0 x0.Plan.length c0_0, .slice a0_1 x0.Links.length c0_1] 25 (0, 0)) :: R)) ?_ ?_
  · refine W.gen fun K69 hK69 => ?_
    refine W.cond hE rfl (fun hc70 => ?_) (fun hc70 => ?_)
    · replace hq64 := iteT hc70 hq64
      refine W.region ?_
      refine WL.vS hS hE (runs_plain rfl) (Gives.loadBA hE 1 rfl rfl ty25) rfl ?_; clear hE a; intro a hE
      refine WL.vS hS hE (runs_plain rfl) (Gives.p hE rfl) rfl ?_; clear hE a; intro a hE
      refine WL.vS hS hE (runs_plain rfl) (Gives.p hE rfl) rfl ?_; clear hE a; intro a hE
      refine WL.fnq hE (Fishlaw2firstsFault_ok hS h0_0 h0_1 h1 rfl (r := Fishlaw2firstsFault x0 x1 x2)) (runs_plain rfl) bd20 rfl rfl rfl ?_
      clear hE hS; rintro e w ⟨rfl, hS⟩; refine ⟨_, rfl, ?_⟩; clear a; intro a hE
      refine WL.vS hS hE (runs_plain rfl) (Gives.p hE rfl) rfl ?_; clear hE a; intro a hE
      refine WL.nil ?_
      subst hK69
      exact ⟨(Fishlaw2firstsFault x0 x1 x2), hq64, hE.pick _ ⟨rfl, rfl, rfl, rfl, rfl, rfl, trivial⟩, hS⟩
    · replace hq64 := iteF hc70 hq64
      refine W.skip ?_
      subst hK69
      exact ⟨q62, hq64, hE.pick _ ⟨rfl, rfl, rfl, rfl, rfl, rfl, trivial⟩, hS⟩
  · clear hE hS a w; rintro a w ⟨q68, rfl, hE, hS⟩
    refine W.seq ?_
    refine W.seq ?_
    refine W.region ?_
    refine WL.vS hS hE (runs_plain rfl) (Gives.p hE rfl) rfl ?_; clear hE a; intro a hE
    refine WL.vS hS hE (runs_plain rfl) (Gives.p hE rfl) rfl ?_; clear hE a; intro a hE
    refine WL.nil ?_
    refine W.cond hE rfl (fun hc71 => ?_) (fun hc71 => ?_)
    · replace hr := iteT hc71 hr
      refine W.seq ?_
      obtain ⟨q73, hq72, hr⟩ := bindS hr
      refine W.cut (fun a w => ∃ (q76 : Bool), q76 = q73 ∧ Rep a 51 [(6, .bool q76)] ∧ St w s60 (pt b51 (.cells #[.int .i64 x0.Period, .slice a0_0 x0.Plan.length c0_0, .slice a0_1 x0.Links.length c0_1] 25 (0, 0)) :: R)) ?_ ?_
      · refine W.gen fun K77 hK77 => ?_
        refine W.region ?_
        obtain ⟨q78, hq79, hq72⟩ := bindS hq72
        have hc_ := Fishlaw2rounds_ok hS  hq79
        refine WL.fnq hE (hc_) (runs_plain rfl) bd15 rfl rfl rfl ?_
        clear hE hS hc_; rintro e w ⟨rfl, hS⟩; refine ⟨_, rfl, ?_⟩; clear a; intro a hE
        refine WL.vS hS hE (runs_plain rfl) (Gives.p hE rfl) rfl ?_; clear hE a; intro a hE
        rcases Bool.eq_false_or_eq_true q78 with hg80 | hg80
        · replace hq72 := iteT hg80 hq72
          refine WL.vS hS hE (runs_if hE rfl rfl rfl hg80) (Gives.p hE rfl) rfl ?_; clear hE a; intro a hE
          refine WL.vS hS hE (runs_if hE rfl rfl rfl hg80) (Gives.p hE rfl) rfl ?_; clear hE a; intro a hE
          refine WL.vS hS hE (runs_if hE rfl rfl rfl hg80) (Gives.p hE rfl) rfl ?_; clear hE a; intro a hE
          refine WL.vS hS hE (runs_plain rfl) (Gives.pickT hE rfl hg80 rfl) rfl ?_; clear hE a; intro a hE
          refine WL.vS hS hE (runs_plain rfl) (Gives.p hE rfl) rfl ?_; clear hE a; intro a hE
          rcases Bool.eq_false_or_eq_true (q52.2 == q68) with hg81 | hg81
          · replace hq72 := iteT hg81 hq72
            refine WL.vS hS hE (runs_if hE rfl rfl rfl hg81) (Gives.p hE rfl) rfl ?_; clear hE a; intro a hE
            refine WL.vS hS hE (runs_if hE rfl rfl rfl hg81) (Gives.len hE rfl sl40) rfl ?_; clear hE a; intro a hE
            refine WL.vS hS hE (runs_if hE rfl rfl rfl hg81) (Gives.p hE rfl) rfl ?_; clear hE a; intro a hE
            refine WL.vS hS hE (runs_plain rfl) (Gives.pickT hE rfl hg81 rfl) rfl ?_; clear hE a; intro a hE
            refine WL.vS hS hE (runs_plain rfl) (Gives.p hE rfl) rfl ?_; clear hE a; intro a hE
            refine WL.nil ?_
            replace hS := hS.tail
            subst hK77
            exact ⟨(((q52.1.length : Nat) : Int) == 0), Option.some.inj hq72, hE.pick _ ⟨rfl, trivial⟩, hS⟩
          · replace hq72 := iteF hg81 hq72
            refine WL.no hE (runs_not hE rfl rfl rfl (by rw [hg81]; decide)) rfl ?_; clear hE a; intro a hE
            refine WL.no hE (runs_not hE rfl rfl rfl (by rw [hg81]; decide)) rfl ?_; clear hE a; intro a hE
            refine WL.no hE (runs_not hE rfl rfl rfl (by rw [hg81]; decide)) rfl ?_; clear hE a; intro a hE
            refine WL.vS hS hE (runs_plain rfl) (Gives.pickF hE rfl hg81 rfl) rfl ?_; clear hE a; intro a hE
            refine WL.vS hS hE (runs_plain rfl) (Gives.p hE rfl) rfl ?_; clear hE a; intro a hE
            refine WL.nil ?_
            replace hS := hS.tail
            subst hK77
            exact ⟨false, Option.some.inj hq72, hE.pick _ ⟨rfl, trivial⟩, hS⟩
        · replace hq72 := iteF hg80 hq72
          refine WL.no hE (runs_not hE rfl rfl rfl (by rw [hg80]; decide)) rfl ?_; clear hE a; intro a hE
          refine WL.no hE (runs_not hE rfl rfl rfl (by rw [hg80]; decide)) rfl ?_; clear hE a; intro a hE
          refine WL.no hE (runs_not hE rfl rfl rfl (by rw [hg80]; decide)) rfl ?_; clear hE a; intro a hE
          refine WL.vS hS hE (runs_plain rfl) (Gives.pickF hE rfl hg80 rfl) rfl ?_; clear hE a; intro a hE
          refine WL.vS hS hE (runs_plain rfl) (Gives.p hE rfl) rfl ?_; clear hE a; intro a hE
          refine WL.no hE (runs_not hE rfl rfl rfl (by decide)) rfl ?_; clear hE a; intro a hE
          refine WL.no hE (runs_not hE rfl rfl rfl (by decide)) rfl ?_; clear hE a; intro a hE
          refine WL.no hE (runs_not hE rfl rfl rfl (by decide)) rfl ?_; clear hE a; intro a hE
          refine WL.vS hS hE (runs_plain rfl) (Gives.pickF hE rfl rfl rfl) rfl ?_; clear hE a; intro a hE
          refine WL.vS hS hE (runs_plain rfl) (Gives.p hE rfl) rfl ?_; clear hE a; intro a hE
          refine WL.nil ?_
          replace hS := hS.tail
          subst hK77
          exact ⟨false, Option.some.inj hq72, hE.pick _ ⟨rfl, trivial⟩, hS⟩
      · clear hE hS a w; rintro a w ⟨q76, rfl, hE, hS⟩
        refine W.ret ?_
        refine finG (fn := Try.f4) (rs := [.tmp 6]) (vs := [_]) hE rfl ⟨rfl, trivial⟩ ?_
        obtain rfl := Option.some.inj hr
        replace hS := hS.tail
        exact ⟨rfl, (hS.down hle61)⟩
    · replace hr := iteF hc71 hr
      refine W.skip ?_
      refine W.seq ?_
      obtain ⟨q83, hq82, hr⟩ := bindS hr
      refine W.cut (fun a w => ∃ (q86 : Bool), ∃ (s84 : Sg), s60.Le s84 ∧ q86 = q83 ∧ Rep a 51 [(6, .bool q86)] ∧ St w s84 (pt b51 (.cells #[.int .i64 x0.Period, .slice a0_0 x0.Plan.length c0_0, .slice a0_1 x0.Links.length c0_1] 25 (0, 0)) :: R)) ?_ ?_
      · refine W.gen fun K87 hK87 => ?_
        refine W.region ?_
        obtain ⟨q88, hq89, hq82⟩ := bindS hq82
        have hc_ := Fishlaw2rounds_ok hS  hq89
        refine WL.fnq hE (hc_) (runs_plain rfl) bd15 rfl rfl rfl ?_
        clear hE hS hc_; rintro e w ⟨rfl, hS⟩; refine ⟨_, rfl, ?_⟩; clear a; intro a hE
        refine WL.vS hS hE (runs_plain rfl) (Gives.p hE rfl) rfl ?_; clear hE a; intro a hE
        rcases Bool.eq_false_or_eq_true q88 with hg90 | hg90
        · replace hq82 := iteT hg90 hq82
          refine WL.vS hS hE (runs_if hE rfl rfl rfl hg90) (Gives.p hE rfl) rfl ?_; clear hE a; intro a hE
          refine WL.vS hS hE (runs_if hE rfl rfl rfl hg90) (Gives.p hE rfl) rfl ?_; clear hE a; intro a hE
          refine WL.vS hS hE (runs_plain rfl) (Gives.pickT hE rfl hg90 rfl) rfl ?_; clear hE a; intro a hE
          refine WL.vS hS hE (runs_plain rfl) (Gives.p hE rfl) rfl ?_; clear hE a; intro a hE
          rcases Bool.eq_false_or_eq_true (q52.2 == 0) with hg91 | hg91
          · replace hq82 := iteT hg91 hq82
            refine WL.vS hS hE (runs_if hE rfl rfl rfl hg91) (Gives.p hE rfl) rfl ?_; clear hE a; intro a hE
            refine WL.vS hS hE (runs_if hE rfl rfl rfl hg91) (Gives.loadBA hE 1 rfl rfl ty25) rfl ?_; clear hE a; intro a hE
            refine WL.vS hS hE (runs_if hE rfl rfl rfl hg91) (Gives.p hE rfl) rfl ?_; clear hE a; intro a hE
            refine WL.vS hS hE (runs_if hE rfl rfl rfl hg91) (Gives.p hE rfl) rfl ?_; clear hE a; intro a hE
            obtain ⟨q92, hq93, hq82⟩ := bindS hq82
            have hc_ := Fishref2SpreadOf_ok hS h0_0 h0_1 h1 hq93
            refine WL.fnq hE (hc_) (runs_if hE rfl rfl rfl hg91) bd22 rfl rfl rfl ?_
            clear hE hS hc_; rintro e w ⟨a94, c95, s97, rfl, hle98, h96, hS⟩; refine ⟨_, rfl, ?_⟩; clear a; intro a hE
            replace h1 := Sl.mono RMendFirst.mono hle98 h1
            replace h0_0 := Sl.mono RI.mono hle98 h0_0
            replace h0_1 := Sl.mono RMendLink.mono hle98 h0_1
            replace h58 := Ev.mono (RL.mono RI.mono) hle98 h58
            obtain ⟨q99, hq100, hq82⟩ := bindS hq82
            have hF := hS.lendV (RL.mono RI.mono) 0 rfl h58 rfl; clear hS; obtain ⟨t101, hle102, hS, hs103, bk104⟩ := hF
            have hc_ := Fishlaw2lists_ok hS hs103 (Sl.mono (RL.mono RI.mono) hle102 h96) hq100
            refine WL.fnq hE (hc_) (runs_if hE rfl rfl rfl hg91) bd21 rfl rfl rfl ?_
            clear hE hS hc_; rintro e w ⟨rfl, hS⟩; refine ⟨_, rfl, ?_⟩; clear a; intro a hE
            replace hS := bk104 _ _ hS
            refine WL.vS hS hE (runs_plain rfl) (Gives.pickT hE rfl hg91 rfl) rfl ?_; clear hE a; intro a hE
            refine WL.vS hS hE (runs_plain rfl) (Gives.p hE rfl) rfl ?_; clear hE a; intro a hE
            refine WL.nil ?_
            replace hS := hS.tail
            subst hK87
            exact ⟨q99, s97, hle98, Option.some.inj hq82, hE.pick _ ⟨rfl, trivial⟩, hS⟩
          · replace hq82 := iteF hg91 hq82
            refine WL.no hE (runs_not hE rfl rfl rfl (by rw [hg91]; decide)) rfl ?_; clear hE a; intro a hE
            refine WL.no hE (runs_not hE rfl rfl rfl (by rw [hg91]; decide)) rfl ?_; clear hE a; intro a hE
            refine WL.no hE (runs_not hE rfl rfl rfl (by rw [hg91]; decide)) rfl ?_; clear hE a; intro a hE
            refine WL.no hE (runs_not hE rfl rfl rfl (by rw [hg91]; decide)) rfl ?_; clear hE a; intro a hE
            refine WL.no hE (runs_not hE rfl rfl rfl (by rw [hg91]; decide)) rfl ?_; clear hE a; intro a hE
            refine WL.no hE (runs_not hE rfl rfl rfl (by rw [hg91]; decide)) rfl ?_; clear hE a; intro a hE
            refine WL.vS hS hE (runs_plain rfl) (Gives.pickF hE rfl hg91 rfl) rfl ?_; clear hE a; intro a hE
            refine WL.vS hS hE (runs_plain rfl) (Gives.p hE rfl) rfl ?_; clear hE a; intro a hE
            refine WL.nil ?_
            replace hS := hS.tail
            subst hK87
            exact ⟨false, s60, (Sg.Le.refl _), Option.some.inj hq82, hE.pick _ ⟨rfl, trivial⟩, hS⟩
        · replace hq82 := iteF hg90 hq82
          refine WL.no hE (runs_not hE rfl rfl rfl (by rw [hg90]; decide)) rfl ?_; clear hE a; intro a hE
          refine WL.no hE (runs_not hE rfl rfl rfl (by rw [hg90]; decide)) rfl ?_; clear hE a; intro a hE
          refine WL.vS hS hE (runs_plain rfl) (Gives.pickF hE rfl hg90 rfl) rfl ?_; clear hE a; intro a hE
          refine WL.vS hS hE (runs_plain rfl) (Gives.p hE rfl) rfl ?_; clear hE a; intro a hE
          refine WL.no hE (runs_not hE rfl rfl rfl (by decide)) rfl ?_; clear hE a; intro a hE
          refine WL.no hE (runs_not hE rfl rfl rfl (by decide)) rfl ?_; clear hE a; intro a hE
          refine WL.no hE (runs_not hE rfl rfl rfl (by decide)) rfl ?_; clear hE a; intro a hE
          refine WL.no hE (runs_not hE rfl rfl rfl (by decide)) rfl ?_; clear hE a; intro a hE
          refine WL.no hE (runs_not hE rfl rfl rfl (by decide)) rfl ?_; clear hE a; intro a hE
          refine WL.no hE (runs_not hE rfl rfl rfl (by decide)) rfl ?_; clear hE a; intro a hE
          refine WL.vS hS hE (runs_plain rfl) (Gives.pickF hE rfl rfl rfl) rfl ?_; clear hE a; intro a hE
          refine WL.vS hS hE (runs_plain rfl) (Gives.p hE rfl) rfl ?_; clear hE a; intro a hE
          refine WL.nil ?_
          replace hS := hS.tail
          subst hK87
          exact ⟨false, s60, (Sg.Le.refl _), Option.some.inj hq82, hE.pick _ ⟨rfl, trivial⟩, hS⟩
      · clear hE hS a w; rintro a w ⟨q86, s84, hle85, rfl, hE, hS⟩
        replace h0_0 := Sl.mono RI.mono hle85 h0_0
        replace h0_1 := Sl.mono RMendLink.mono hle85 h0_1
        refine W.ret ?_
        refine finG (fn := Try.f4) (rs := [.tmp 6]) (vs := [_]) hE rfl ⟨rfl, trivial⟩ ?_
        obtain rfl := Option.some.inj hr
        replace hS := hS.tail
        exact ⟨rfl, (hS.down (Sg.Le.trans hle61 hle85))⟩
end Go.Proofs.Ytfioafdipipcaaa
