/- The walks of the functions that MendRounds reaches: each call comes to what its mirror says. The conditions are those of each contract. -/
import Derived.Test.YtfioafdipipcaaaProg
import Derived.Test.YtfioafdipipcaaaMendRoundsM
import Derived.Test.YtfioafdipipcaaaFpMore
import Derived.Test.YtfioafdipipcaaaMendRoundsW1
namespace Go.Proofs.Ytfioafdipipcaaa
open Go Go.Fp
set_option maxHeartbeats 8000000 in
theorem MendRoom_ok {fu : Nat}  {w : World} {s : Sg} {R : List HP} {x0 : MendRound} {a0_0 : Option Addr} {c0_0 : Nat} {a0_1 : Option Addr} {c0_1 : Nat} (hS : St w s (R)) (h0_0 : Sl 1 (RI .i64) s a0_0 c0_0 x0.Plan) (h0_1 : Sl 4 RMendLink s a0_1 c0_1 x0.Links) {r : (List (List Int)) × Int} (hr : MendRoom fu x0 = some r) :
    Calls Try.prog 34 [.agg [.int .i64 x0.Period, .slice a0_0 x0.Plan.length c0_0, .slice a0_1 x0.Links.length c0_1].toArray].toArray w (fun e w => ∃ (a0 : Option Addr) (c0 : Nat) (t : Sg), e = .returned (.tuple #[.slice a0 r.1.length c0, .int .i64 r.2]) ∧ s.Le t ∧ Sl 1 (RL 1 (RI .i64)) t a0 c0 r.1 ∧ St w t (R)) := by
  refine enter Try.func34 rfl rfl rfl fun a hE => ?_
  rw [MendRoom] at hr
  refine W.seq ?_
  refine W.region ?_
  refine WL.box hE hS (runs_plain rfl) rfl rfl rfl ?_; clear hE hS a w; intro b51 a w hE hS
  refine WL.vS hS hE (runs_plain rfl) (Gives.p hE rfl) rfl ?_; clear hE a; intro a hE
  refine WL.vS hS hE (runs_plain rfl) (Gives.p hE rfl) rfl ?_; clear hE a; intro a hE
  refine WL.nil ?_
  refine W.seq ?_
  refine W.seq ?_
  refine W.region ?_
  refine WL.vS hS hE (runs_plain rfl) (Gives.loadBA hE 0 rfl rfl ty25) rfl ?_; clear hE a; intro a hE
  obtain ⟨q52, hq53, hr⟩ := bindS hr
  have hc_ := MendCheckRound_ok hS h0_0 h0_1 hq53
  refine WL.fnq hE (hc_) (runs_plain rfl) bd16 rfl rfl rfl ?_
  clear hE hS hc_; rintro e w ⟨rfl, hS⟩; refine ⟨_, rfl, ?_⟩; clear a; intro a hE
  refine WL.vS hS hE (runs_plain rfl) (Gives.p hE rfl) rfl ?_; clear hE a; intro a hE
  refine WL.nil ?_
  refine W.seq ?_
  refine W.region ?_
  refine WL.vS hS hE (runs_plain rfl) (Gives.p hE rfl) rfl ?_; clear hE a; intro a hE
  refine WL.vS hS hE (runs_plain rfl) (Gives.p hE rfl) rfl ?_; clear hE a; intro a hE
  refine WL.nil ?_
  refine W.cond hE rfl (fun hc54 => ?_) (fun hc54 => ?_)
  · replace hr := iteT hc54 hr
    refine W.seq ?_
    refine W.region ?_
    refine WL.vS hS hE (runs_plain rfl) (Gives.p hE rfl) rfl ?_; clear hE a; intro a hE
    refine WL.vS hS hE (runs_plain rfl) (Gives.p hE rfl) rfl ?_; clear hE a; intro a hE
    refine WL.vS hS hE (runs_plain rfl) (Gives.p hE rfl) rfl ?_; clear hE a; intro a hE
    refine WL.nil ?_
    refine W.ret ?_
    refine finG (fn := Try.f34) (rs := [.tmp 2, .tmp 3]) (vs := [_, _]) hE rfl ⟨rfl, rfl, trivial⟩ ?_
    obtain rfl := Option.some.inj hr
    replace hS := hS.tail
    exact ⟨none, 0, s, rfl, (Sg.Le.refl _), Sl.nil, hS⟩
  · replace hr := iteF hc54 hr
    refine W.skip ?_
    refine W.seq ?_
    refine W.region ?_
    refine WL.vS hS hE (runs_plain rfl) (Gives.fld hE rfl fl25_1) rfl ?_; clear hE a; intro a hE
    refine WL.vS hS hE (runs_plain rfl) (Gives.loadB hE 0 rfl rfl rfl ty22) rfl ?_; clear hE a; intro a hE
    refine WL.vS hS hE (runs_plain rfl) (Gives.len hE rfl sl22) rfl ?_; clear hE a; intro a hE
    obtain ⟨x55, hx56, hr⟩ := bindS hr
    refine WL.mkND (Rr := RI .i64) (Ti := 3) (es := 1) hE hS (runs_plain rfl) rfl rfl ap40 zr22 hx56 rfl ?_; clear hE hS a w; intro b57 ds58 a w h59 hE hS
    refine WL.vS hS hE (runs_plain rfl) (Gives.p hE rfl) rfl ?_; clear hE a; intro a hE
    refine WL.nil ?_
    refine W.seq ?_
    refine W.seq ?_
    refine W.region ?_
    refine WL.vS hS hE (runs_plain rfl) (Gives.p hE rfl) rfl ?_; clear hE a; intro a hE
    refine WL.vS hS hE (runs_plain rfl) (Gives.len hE rfl sl40) rfl ?_; clear hE a; intro a hE
    refine WL.vS hS hE (runs_plain rfl) (Gives.p hE rfl) rfl ?_; clear hE a; intro a hE
    refine WL.nil ?_
    have hb72 : x55.length ≤ 9223372036854775807 := by have := hS.nCap 0 rfl; unfold maxLen at this; omega
    obtain ⟨q62, hq61, hr⟩ := bindS hr
    refine W.cut (fun a w => ∃ (q73 : List (List Int)), ∃ (ds77 : List In), ∃ (s70 : Sg), s.Le s70 ∧ q73 = q62 ∧ NEv 1 (RI .i64) s70 ds77 q73 ∧ q73.length = x55.length ∧ Rep a 100 [(5, .slice (some ⟨b57, 0, none⟩) x55.length x55.length)] ∧ St w s70 (nestC 22 3 1 (some ⟨b57, 0, none⟩) x55.length x55.length ds77 :: pt b51 (.cells #[.int .i64 x0.Period, .slice a0_0 x0.Plan.length c0_0, .slice a0_1 x0.Links.length c0_1] 25 (0, 0)) :: R)) ?_ ?_
    · refine W.block ?_
      refine W.loop (fun m a w => ∃ (rest65 : Nat) (k63 : Nat), ∃ (q73 : List (List Int)), ∃ (ds77 : List In), ∃ (s70 : Sg), rest65 = m ∧ k63 + rest65 = x55.length ∧ s.Le s70 ∧ MendRoom.loop1 x0 fu rest65 k63 q73 = some q62 ∧ NEv 1 (RI .i64) s70 ds77 q73 ∧ q73.length = x55.length ∧ Rep a 100 [(1, .pointer (some ⟨b51, 0, none⟩)), (5, .slice (some ⟨b57, 0, none⟩) x55.length x55.length), (21, .int .i64 ((x55.length : Nat) : Int)), (22, .int .i64 ((k63 : Nat) : Int))] ∧ St w s70 (nestC 22 3 1 (some ⟨b57, 0, none⟩) x55.length x55.length ds77 :: pt b51 (.cells #[.int .i64 x0.Period, .slice a0_0 x0.Plan.length c0_0, .slice a0_1 x0.Links.length c0_1] 25 (0, 0)) :: R)) (m := x55.length) ⟨x55.length, 0, x55, ds58, s, rfl, by omega, (Sg.Le.refl _), hq61, h59, (rfl), hE.pick _ ⟨rfl, rfl, rfl, rfl, trivial⟩, hS⟩ ?_
      clear hE hS a w hq61; rintro m69 a w ⟨rest65, k63, q73, ds77, s70, rfl, hd66, hle71, hq61, h78, hn79, hE, hS⟩
      refine W.gen fun K80 hK80 => ?_
      replace h0_0 := Sl.mono RI.mono hle71 h0_0
      replace h0_1 := Sl.mono RMendLink.mono hle71 h0_1
      replace h59 := NEv.mono RI.mono hle71 h59
      rcases rest65 with _ | rest65
      · skip
        refine W.seq ?_
        refine W.region ?_
        refine WL.vS hS hE (runs_plain rfl) (Gives.p hE rfl) rfl ?_; clear hE a; intro a hE
        refine WL.nil ?_
        refine W.seq ?_
        refine W.condF hE rfl (decide_eq_false (by omega)) ?_
        subst hK80
        refine W.exit rfl ?_
        exact ⟨q73, ds77, s70, hle71, Option.some.inj hq61, h78, hn79, hE.pick _ ⟨rfl, trivial⟩, hS⟩
      · have hlt67 : k63 < x55.length := by omega
        rw [MendRoom.loop1] at hq61
        refine W.seq ?_
        refine W.region ?_
        refine WL.vS hS hE (runs_plain rfl) (Gives.p hE rfl) rfl ?_; clear hE a; intro a hE
        refine WL.nil ?_
        refine W.seq ?_
        refine W.condT hE rfl (decide_eq_true (by omega)) ?_
        refine W.skip ?_
        refine W.seq ?_
        refine W.block ?_
        refine W.seq ?_
        refine W.region ?_
        refine WL.vS hS hE (runs_plain rfl) (Gives.p hE rfl) rfl ?_; clear hE a; intro a hE
        refine WL.vS hS hE (runs_plain rfl) (Gives.p hE rfl) rfl ?_; clear hE a; intro a hE
        refine WL.nil ?_
        refine W.seq ?_
        refine W.region ?_
        refine WL.vS hS hE (runs_plain rfl) (Gives.p hE rfl) rfl ?_; clear hE a; intro a hE
        refine WL.vS hS hE (runs_plain rfl) (Gives.p hE rfl) rfl ?_; clear hE a; intro a hE
        refine WL.lit hE hS (e := 3) (es := 1) (vs := [(0, .int .i64 (-1))]) (cs := [.int .i64 (-1)]) (runs_plain rfl) rfl (by kernel_rfl) rfl ?_; clear hE hS a w; intro b81 a w hE hS
        replace hS := hS.ptVec (es := 1) (m := 1) rfl (by decide)
        have h83 : Ev 1 (RI .i64) s70 [.int .i64 (-1)] [(-1)] := (Ev.cons (c1 := [.int .i64 (-1)]) rfl rfl (Ev.nil))
        have hF := hS.fixD RI.mono 0 rfl h83 (rfl); clear hS; obtain ⟨s84, hle85, hS, h86⟩ := hF
        replace h78 := NEv.mono RI.mono hle85 h78
        replace h0_0 := Sl.mono RI.mono hle85 h0_0
        replace h0_1 := Sl.mono RMendLink.mono hle85 h0_1
        refine WL.vS hS hE (runs_plain rfl) (Gives.fld hE rfl fl25_1) rfl ?_; clear hE a; intro a hE
        refine WL.vS hS hE (runs_plain rfl) (Gives.loadB hE 1 rfl rfl rfl ty22) rfl ?_; clear hE a; intro a hE
        refine WL.vS hS hE (runs_plain rfl) (Gives.len hE rfl sl22) rfl ?_; clear hE a; intro a hE
        obtain ⟨q87, hq88, hq61⟩ := bindS hq61
        have hc_ := SlicesRepeatLint_ok hS h86 hq88
        refine WL.fnq hE (hc_) (runs_plain rfl) bd57 rfl rfl rfl ?_
        clear hE hS hc_; rintro e w ⟨a89, c90, n91, cs92, rfl, h93, rfl, hS⟩; refine ⟨_, rfl, ?_⟩; clear a; intro a hE
        obtain ⟨_, hx95, hq61⟩ := bindS hq61
        obtain ⟨h96, h97⟩ := ix_some hx95
        refine WL.vS hS hE (runs_plain rfl) (Gives.idx hE ((((k63 : Nat) : Int)).toNat) rfl rfl sl40 h96 (by have := hn79; omega) (hS.nAok 1 rfl (by have := hn79; omega : (((k63 : Nat) : Int)).toNat < x55.length))) rfl ?_; clear hE a; intro a hE
        obtain ⟨d98, hd99⟩ : ∃ d, ds77[(((k63 : Nat) : Int)).toNat]? = some d := ⟨_, List.getElem?_eq_getElem (by have h1 := h78.len; have h2 := hn79; omega)⟩
        replace hS := (hS.borrow 1 rfl hd99).tail
        obtain ⟨x100, hx101, hq61⟩ := bindS hq61
        refine WL.storeND hE hS 0 rfl (runs_plain rfl) rfl rfl ty22 h78 hn79 (by have := (sx_some hx101).1; omega) hx101 h93 rfl rfl ?_; clear hE hS a w; intro ds102 a w h103 hn104 hE hS
        refine WL.nil ?_
        refine W.seq ?_
        refine W.region ?_
        refine WL.vS hS hE (runs_plain rfl) (Gives.p hE rfl) rfl ?_; clear hE a; intro a hE
        refine WL.vS hS hE (runs_plain rfl) (Gives.p hE rfl) rfl ?_; clear hE a; intro a hE
        obtain ⟨x105, hx106, hq61⟩ := bindS hq61
        obtain ⟨hi107, hlt108, hy109⟩ := gx_some hx106
        obtain ⟨a110, c111, cs112, hd113, hev114⟩ := h103.at hy109
        refine WL.vS hS hE (runs_plain rfl) (Gives.idx hE ((((k63 : Nat) : Int)).toNat) rfl rfl sl40 hi107 (by have := hn104; omega) (hS.nAok 0 rfl (by have := hn104; omega : (((k63 : Nat) : Int)).toNat < x55.length))) rfl ?_; clear hE a; intro a hE
        refine WL.vS hS hE (runs_plain rfl) (Gives.load1 (v := .slice a110 x105.length c111) hE rfl (fun w h => St.nSees h 0 rfl hd113) ty22) rfl ?_; clear hE a; intro a hE
        refine WL.vS hS hE (runs_plain rfl) (Gives.p hE rfl) rfl ?_; clear hE a; intro a hE
        replace hS := hS.borrowM 0 rfl hd113
        obtain ⟨_, hx117, hq61⟩ := bindS hq61
        obtain ⟨h118, h119⟩ := ix_some hx117
        refine WL.vS hS hE (runs_plain rfl) (Gives.idx hE ((((k63 : Nat) : Int)).toNat) rfl rfl sl22 h118 (by omega) (hS.vecAok 0 rfl (by omega : (((k63 : Nat) : Int)).toNat < x105.length))) rfl ?_; clear hE a; intro a hE
        obtain ⟨x121, hx122, hq61⟩ := bindS hq61
        refine WL.setD hE hS 0 rfl (runs_plain rfl) rfl rfl (vs := [.int .i64 0]) rfl ty3 rfl rfl rfl hev114 (rfl) (sx_some hx122).1 hx122 rfl rfl ?_; clear hE hS a w; intro cs123 a w h124 hn125 hE hS
        refine WL.nil ?_
        refine W.seq ?_
        refine W.region ?_
        refine WL.vS hS hE (runs_plain rfl) (Gives.p hE rfl) rfl ?_; clear hE a; intro a hE
        refine WL.nil ?_
        replace hS := hS.giveBack 0 rfl hd113
        have h127 := h103.set (k := (((k63 : Nat) : Int)).toNat) (d := ⟨a110, c111, x105.length, cs123⟩) h124 hn125
        have hn128 : (x100.set ((((k63 : Nat) : Int)).toNat) x121).length = x55.length := by simp; exact hn104
        generalize List.set ds102 ((((k63 : Nat) : Int)).toNat) _ = ds126 at hS h127
        obtain ⟨q130, hq129, hq61⟩ := bindS hq61
        refine W.cut (fun a w => ∃ (q135 : Bool), ∃ (q136 : List (List Int)), ∃ (ds140 : List In), (q135, q136) = q130 ∧ NEv 1 (RI .i64) s84 ds140 q136 ∧ q136.length = x55.length ∧ Rep a 100 [(1, .pointer (some ⟨b51, 0, none⟩)), (5, .slice (some ⟨b57, 0, none⟩) x55.length x55.length), (21, .int .i64 ((x55.length : Nat) : Int)), (22, .int .i64 ((k63 : Nat) : Int))] ∧ St w s84 (nestC 22 3 1 (some ⟨b57, 0, none⟩) x55.length x55.length ds140 :: pt b51 (.cells #[.int .i64 x0.Period, .slice a0_0 x0.Plan.length c0_0, .slice a0_1 x0.Links.length c0_1] 25 (0, 0)) :: R)) ?_ ?_
        · refine W.block ?_
          refine W.loop (fun m a w => ∃ (n131 : Nat), ∃ (q135 : Bool), ∃ (q136 : List (List Int)), ∃ (ds140 : List In), n131 = m ∧ MendRoom.loop2 x0 k63 n131 q135 q136 = some q130 ∧ NEv 1 (RI .i64) s84 ds140 q136 ∧ q136.length = x55.length ∧ Rep a 100 [(1, .pointer (some ⟨b51, 0, none⟩)), (5, .slice (some ⟨b57, 0, none⟩) x55.length x55.length), (6, .int .i64 ((k63 : Nat) : Int)), (7, .bool q135), (21, .int .i64 ((x55.length : Nat) : Int)), (22, .int .i64 ((k63 : Nat) : Int))] ∧ St w s84 (nestC 22 3 1 (some ⟨b57, 0, none⟩) x55.length x55.length ds140 :: pt b51 (.cells #[.int .i64 x0.Period, .slice a0_0 x0.Plan.length c0_0, .slice a0_1 x0.Links.length c0_1] 25 (0, 0)) :: R)) (m := fu) ⟨fu, true, (x100.set ((((k63 : Nat) : Int)).toNat) x121), ds126, rfl, hq129, h127, hn128, hE.pick _ ⟨rfl, rfl, rfl, rfl, rfl, rfl, trivial⟩, hS⟩ ?_
          clear hE hS a w hq129; rintro m132 a w ⟨n131, q135, q136, ds140, rfl, hq129, h141, hn142, hE, hS⟩
          refine W.gen fun K143 hK143 => ?_
          rcases n131 with _ | n131
          · rw [MendRoom.loop2] at hq129; exact absurd hq129 (by simp)
          rw [MendRoom.loop2] at hq129
          refine W.seq ?_
          refine W.seq ?_
          refine W.region ?_
          refine WL.vS hS hE (runs_plain rfl) (Gives.p hE rfl) rfl ?_; clear hE a; intro a hE
          refine WL.nil ?_
          refine W.cond hE rfl (fun hc144 => ?_) (fun hc144 => ?_)
          · replace hq129 := iteT hc144 hq129
            refine W.skip ?_
            refine W.block ?_
            refine W.seq ?_
            refine W.region ?_
            refine WL.vS hS hE (runs_plain rfl) (Gives.p hE rfl) rfl ?_; clear hE a; intro a hE
            refine WL.nil ?_
            refine W.seq ?_
            refine W.region ?_
            refine WL.vS hS hE (runs_plain rfl) (Gives.fld hE rfl fl25_2) rfl ?_; clear hE a; intro a hE
            refine WL.vS hS hE (runs_plain rfl) (Gives.loadB hE 1 rfl rfl rfl ty23) rfl ?_; clear hE a; intro a hE
            refine WL.vS hS hE (runs_plain rfl) (Gives.len hE rfl sl23) rfl ?_; clear hE a; intro a hE
            refine WL.vS hS hE (runs_plain rfl) (Gives.p hE rfl) rfl ?_; clear hE a; intro a hE
            refine WL.nil ?_
            obtain ⟨q146, hq145, hq129⟩ := bindS hq129
            refine W.cut (fun a w => ∃ (q156 : Bool), ∃ (q157 : List (List Int)), ∃ (ds161 : List In), (q156, q157) = q146 ∧ NEv 1 (RI .i64) s84 ds161 q157 ∧ q157.length = x55.length ∧ Rep a 100 [(1, .pointer (some ⟨b51, 0, none⟩)), (5, .slice (some ⟨b57, 0, none⟩) x55.length x55.length), (6, .int .i64 ((k63 : Nat) : Int)), (7, .bool q156), (21, .int .i64 ((x55.length : Nat) : Int)), (22, .int .i64 ((k63 : Nat) : Int))] ∧ St w s84 (nestC 22 3 1 (some ⟨b57, 0, none⟩) x55.length x55.length ds161 :: pt b51 (.cells #[.int .i64 x0.Period, .slice a0_0 x0.Plan.length c0_0, .slice a0_1 x0.Links.length c0_1] 25 (0, 0)) :: R)) ?_ ?_
            · refine W.block ?_
              refine W.loop (fun m a w => ∃ (rest149 : List MendLink) (k147 : Nat), ∃ (q156 : Bool), ∃ (q157 : List (List Int)), ∃ (ds161 : List In), rest149.length = m ∧ x0.Links.drop k147 = rest149 ∧ MendRoom.loop3 x0 k63 rest149 q156 q157 = some q146 ∧ NEv 1 (RI .i64) s84 ds161 q157 ∧ q157.length = x55.length ∧ Rep a 100 [(1, .pointer (some ⟨b51, 0, none⟩)), (5, .slice (some ⟨b57, 0, none⟩) x55.length x55.length), (6, .int .i64 ((k63 : Nat) : Int)), (7, .bool q156), (21, .int .i64 ((x55.length : Nat) : Int)), (22, .int .i64 ((k63 : Nat) : Int)), (41, .slice a0_1 x0.Links.length c0_1), (42, .int .i64 ((x0.Links).length : Int)), (43, .int .i64 ((k147 : Nat) : Int))] ∧ St w s84 (nestC 22 3 1 (some ⟨b57, 0, none⟩) x55.length x55.length ds161 :: pt b51 (.cells #[.int .i64 x0.Period, .slice a0_0 x0.Plan.length c0_0, .slice a0_1 x0.Links.length c0_1] 25 (0, 0)) :: R)) (m := x0.Links.length) ⟨x0.Links, 0, false, q136, ds140, rfl, rfl, hq145, h141, hn142, hE.pick _ ⟨rfl, rfl, rfl, rfl, rfl, rfl, rfl, rfl, rfl, trivial⟩, hS⟩ ?_
              clear hE hS a w hq145; rintro m153 a w ⟨rest149, k147, q156, q157, ds161, rfl, hd150, hq145, h162, hn163, hE, hS⟩
              refine W.gen fun K164 hK164 => ?_
              rcases rest149 with _ | ⟨x148, rest149⟩
              · have hlt151 := drop_nil hd150
                refine W.seq ?_
                refine W.region ?_
                refine WL.vS hS hE (runs_plain rfl) (Gives.p hE rfl) rfl ?_; clear hE a; intro a hE
                refine WL.nil ?_
                refine W.seq ?_
                refine W.condF hE rfl (decide_eq_false (by omega)) ?_
                subst hK164
                refine W.exit rfl ?_
                exact ⟨q156, q157, ds161, Option.some.inj hq145, h162, hn163, hE.pick _ ⟨rfl, rfl, rfl, rfl, rfl, rfl, trivial⟩, hS⟩
              · obtain ⟨hlt151, hx152, hd150⟩ := drop_cons hd150
                rw [MendRoom.loop3] at hq145
                refine W.seq ?_
                refine W.region ?_
                refine WL.vS hS hE (runs_plain rfl) (Gives.p hE rfl) rfl ?_; clear hE a; intro a hE
                refine WL.nil ?_
                refine W.seq ?_
                refine W.condT hE rfl (decide_eq_true (by omega)) ?_
                refine W.skip ?_
                refine W.seq ?_
                refine W.block ?_
                refine W.seq ?_
                refine W.region ?_
                obtain ⟨cs165, hl166, hR167, hat168⟩ := h0_1.at hx152
                subst hR167
                refine WL.vS hS hE (runs_plain rfl) (Gives.idx hE k147 rfl rfl sl23 rfl hlt151 (h0_1.aok hlt151)) rfl ?_; clear hE a; intro a hE
                refine WL.vS hS hE (runs_plain rfl) (Gives.loadA hE rfl (fun w h => hat168 w _ h) ty36) rfl ?_; clear hE a; intro a hE
                refine WL.alloc hE hS (runs_plain rfl) zr36 rfl ?_; clear hE hS a w; intro b169 a w hE hS
                refine WL.storeI hE hS 0 rfl (MendLink.cells x148) (runs_plain rfl) rfl rfl rfl ty36 rfl rfl rfl rfl ?_; clear hE hS a w; intro a w hE hS
                refine WL.nil ?_
                refine W.seq ?_
                refine W.seq ?_
                refine W.regionQ (C := fun w => St w s84 (pt b169 (.cells (MendLink.cells x148).toArray 36 (0, 0)) :: nestC 22 3 1 (some ⟨b57, 0, none⟩) x55.length x55.length ds161 :: pt b51 (.cells #[.int .i64 x0.Period, .slice a0_0 x0.Plan.length c0_0, .slice a0_1 x0.Links.length c0_1] 25 (0, 0)) :: R)) mixed (by kernel_rfl) hS.drew ?_
                refine QL.v hE (runs_plain rfl) (Gives.p hE rfl) rfl ?_; clear hE a; intro a hE
                refine QL.v hE (runs_plain rfl) (Gives.p hE rfl) rfl ?_; clear hE a; intro a hE
                obtain ⟨x170, hx171, hq145⟩ := bindS hq145
                obtain ⟨hi172, hlt173, hy174⟩ := gx_some hx171
                obtain ⟨a175, c176, cs177, hd178, hev179⟩ := h162.at hy174
                refine QL.v hE (runs_plain rfl) (Gives.idx hE ((((k63 : Nat) : Int)).toNat) rfl rfl sl40 hi172 (by have := hn163; omega) (hS.nAok 1 rfl (by have := hn163; omega : (((k63 : Nat) : Int)).toNat < x55.length))) rfl ?_; clear hE a; intro a hE
                refine QL.v hE (runs_plain rfl) (Gives.load1 (v := .slice a175 x170.length c176) hE rfl (fun w h => St.nSees h 1 rfl hd178) ty22) rfl ?_; clear hE a; intro a hE
                refine QL.v hE (runs_plain rfl) (Gives.fld hE rfl fl36_0) rfl ?_; clear hE a; intro a hE
                refine QL.v hE (runs_plain rfl) (Gives.loadB hE 0 rfl rfl rfl ty3) rfl ?_; clear hE a; intro a hE
                obtain ⟨x180, hx181, hq145⟩ := bindS hq145
                obtain ⟨hi182, hlt183, hy184⟩ := gx_some hx181
                obtain ⟨vs185, hl186, hR187, hd188, hget189⟩ := hev179.at hy184
                subst hR187
                refine QL.v hE (runs_plain rfl) (Gives.idx hE ((x148.From).toNat) rfl rfl sl22 hi182 hlt183 (hS.nnAok 1 rfl hd178 hlt183)) rfl ?_; clear hE a; intro a hE
                refine QL.v hE (runs_plain rfl) (Gives.load1 hE rfl (fun w h => St.nnSees h 1 rfl hd178 ((x148.From).toNat * 1) _ hget189) ty3) rfl ?_; clear hE a; intro a hE
                refine QL.v hE (runs_plain rfl) (Gives.p hE rfl) rfl ?_; clear hE a; intro a hE
                refine QL.nil ?_; clear hS w; intro w hS
                refine W.cond hE rfl (fun hc190 => ?_) (fun hc190 => ?_)
                · replace hq145 := iteT hc190 hq145
                  refine W.exit rfl ?_
                  refine W.region ?_
                  refine WL.vS hS hE (runs_plain rfl) (Gives.inc hE rfl (by have := h0_1.small; omega)) rfl ?_; clear hE a; intro a hE
                  refine WL.vS hS hE (runs_plain rfl) (Gives.p hE rfl) rfl ?_; clear hE a; intro a hE
                  refine WL.nil ?_
                  replace hS := hS.tail
                  subst hK164
                  exact ⟨rest149.length, Nat.lt_succ_self _, rest149, k147 + 1, q156, q157, ds161, rfl, hd150, hq145, h162, hn163, hE.pick _ ⟨rfl, rfl, rfl, rfl, rfl, rfl, rfl, rfl, rfl, trivial⟩, hS⟩
                · replace hq145 := iteF hc190 hq145
                  refine W.skip ?_
                  refine W.seq ?_
                  refine W.regionQ (C := fun w => St w s84 (pt b169 (.cells (MendLink.cells x148).toArray 36 (0, 0)) :: nestC 22 3 1 (some ⟨b57, 0, none⟩) x55.length x55.length ds161 :: pt b51 (.cells #[.int .i64 x0.Period, .slice a0_0 x0.Plan.length c0_0, .slice a0_1 x0.Links.length c0_1] 25 (0, 0)) :: R)) mixed (by kernel_rfl) hS.drew ?_
                  refine QL.v hE (runs_plain rfl) (Gives.p hE rfl) rfl ?_; clear hE a; intro a hE
                  refine QL.v hE (runs_plain rfl) (Gives.p hE rfl) rfl ?_; clear hE a; intro a hE
                  obtain ⟨x191, hx192, hq145⟩ := bindS hq145
                  obtain ⟨hi193, hlt194, hy195⟩ := gx_some hx192
                  obtain ⟨a196, c197, cs198, hd199, hev200⟩ := h162.at hy195
                  refine QL.v hE (runs_plain rfl) (Gives.idx hE ((((k63 : Nat) : Int)).toNat) rfl rfl sl40 hi193 (by have := hn163; omega) (hS.nAok 1 rfl (by have := hn163; omega : (((k63 : Nat) : Int)).toNat < x55.length))) rfl ?_; clear hE a; intro a hE
                  refine QL.v hE (runs_plain rfl) (Gives.load1 (v := .slice a196 x191.length c197) hE rfl (fun w h => St.nSees h 1 rfl hd199) ty22) rfl ?_; clear hE a; intro a hE
                  refine QL.v hE (runs_plain rfl) (Gives.fld hE rfl fl36_0) rfl ?_; clear hE a; intro a hE
                  refine QL.v hE (runs_plain rfl) (Gives.loadB hE 0 rfl rfl rfl ty3) rfl ?_; clear hE a; intro a hE
                  obtain ⟨x201, hx202, hq145⟩ := bindS hq145
                  obtain ⟨hi203, hlt204, hy205⟩ := gx_some hx202
                  obtain ⟨vs206, hl207, hR208, hd209, hget210⟩ := hev200.at hy205
                  subst hR208
                  refine QL.v hE (runs_plain rfl) (Gives.idx hE ((x148.From).toNat) rfl rfl sl22 hi203 hlt204 (hS.nnAok 1 rfl hd199 hlt204)) rfl ?_; clear hE a; intro a hE
                  refine QL.v hE (runs_plain rfl) (Gives.load1 hE rfl (fun w h => St.nnSees h 1 rfl hd199 ((x148.From).toNat * 1) _ hget210) ty3) rfl ?_; clear hE a; intro a hE
                  refine QL.v hE (runs_plain rfl) (Gives.loadBA hE 2 rfl rfl ty25) rfl ?_; clear hE a; intro a hE
                  refine QL.v hE (runs_plain rfl) (Gives.loadBA hE 0 rfl rfl ty36) rfl ?_; clear hE a; intro a hE
                  obtain ⟨q211, hq212, hq145⟩ := bindS hq145
                  refine QL.fnq hE (fun w hS => MendRoundslack_ok hS h0_0 h0_1 hq212) (runs_plain rfl) bd55 rfl rfl rfl ?_; clear hE a; intro a hE
                  refine QL.v hE (runs_plain rfl) (Gives.p hE rfl) rfl ?_; clear hE a; intro a hE
                  refine QL.v hE (runs_plain rfl) (Gives.p hE rfl) rfl ?_; clear hE a; intro a hE
                  refine QL.nil ?_; clear hS w; intro w hS
                  refine W.seq ?_
                  obtain ⟨q214, hq213, hq145⟩ := bindS hq145
                  refine W.cut (fun a w => ∃ (q217 : Bool), q217 = q214 ∧ Rep a 100 [(1, .pointer (some ⟨b51, 0, none⟩)), (5, .slice (some ⟨b57, 0, none⟩) x55.length x55.length), (6, .int .i64 ((k63 : Nat) : Int)), (7, .bool q156), (9, .pointer (some ⟨b169, 0, none⟩)), (10, .int .i64 (w64 (x201 + q211))), (21, .int .i64 ((x55.length : Nat) : Int)), (22, .int .i64 ((k63 : Nat) : Int)), (41, .slice a0_1 x0.Links.length c0_1), (42, .int .i64 ((x0.Links).length : Int)), (43, .int .i64 ((k147 : Nat) : Int)), (88, .bool q217)] ∧ St w s84 (pt b169 (.cells (MendLink.cells x148).toArray 36 (0, 0)) :: nestC 22 3 1 (some ⟨b57, 0, none⟩) x55.length x55.length ds161 :: pt b51 (.cells #[.int .i64 x0.Period, .slice a0_0 x0.Plan.length c0_0, .slice a0_1 x0.Links.length c0_1] 25 (0, 0)) :: R)) ?_ ?_
                  · refine W.gen fun K218 hK218 => ?_
                    refine W.regionQ (C := fun w => St w s84 (pt b169 (.cells (MendLink.cells x148).toArray 36 (0, 0)) :: nestC 22 3 1 (some ⟨b57, 0, none⟩) x55.length x55.length ds161 :: pt b51 (.cells #[.int .i64 x0.Period, .slice a0_0 x0.Plan.length c0_0, .slice a0_1 x0.Links.length c0_1] 25 (0, 0)) :: R)) mixed (by kernel_rfl) hS.drew ?_
                    refine QL.v hE (runs_plain rfl) (Gives.p hE rfl) rfl ?_; clear hE a; intro a hE
                    refine QL.v hE (runs_plain rfl) (Gives.p hE rfl) rfl ?_; clear hE a; intro a hE
                    obtain ⟨x219, hx220, hq213⟩ := bindS hq213
                    obtain ⟨hi221, hlt222, hy223⟩ := gx_some hx220
                    obtain ⟨a224, c225, cs226, hd227, hev228⟩ := h162.at hy223
                    refine QL.v hE (runs_plain rfl) (Gives.idx hE ((((k63 : Nat) : Int)).toNat) rfl rfl sl40 hi221 (by have := hn163; omega) (hS.nAok 1 rfl (by have := hn163; omega : (((k63 : Nat) : Int)).toNat < x55.length))) rfl ?_; clear hE a; intro a hE
                    refine QL.v hE (runs_plain rfl) (Gives.load1 (v := .slice a224 x219.length c225) hE rfl (fun w h => St.nSees h 1 rfl hd227) ty22) rfl ?_; clear hE a; intro a hE
                    refine QL.v hE (runs_plain rfl) (Gives.fld hE rfl fl36_1) rfl ?_; clear hE a; intro a hE
                    refine QL.v hE (runs_plain rfl) (Gives.loadB hE 0 rfl rfl rfl ty3) rfl ?_; clear hE a; intro a hE
                    obtain ⟨x229, hx230, hq213⟩ := bindS hq213
                    obtain ⟨hi231, hlt232, hy233⟩ := gx_some hx230
                    obtain ⟨vs234, hl235, hR236, hd237, hget238⟩ := hev228.at hy233
                    subst hR236
                    refine QL.v hE (runs_plain rfl) (Gives.idx hE ((x148.To).toNat) rfl rfl sl22 hi231 hlt232 (hS.nnAok 1 rfl hd227 hlt232)) rfl ?_; clear hE a; intro a hE
                    refine QL.v hE (runs_plain rfl) (Gives.load1 hE rfl (fun w h => St.nnSees h 1 rfl hd227 ((x148.To).toNat * 1) _ hget238) ty3) rfl ?_; clear hE a; intro a hE
                    refine QL.v hE (runs_plain rfl) (Gives.p hE rfl) rfl ?_; clear hE a; intro a hE
                    refine QL.v hE (runs_plain rfl) (Gives.p hE rfl) rfl ?_; clear hE a; intro a hE
                    rcases Bool.eq_false_or_eq_true (decide (x229 < 0)) with hg239 | hg239
                    · replace hq213 := iteT hg239 hq213
                      refine QL.no hE (runs_not hE rfl rfl rfl (by rw [hg239]; decide)) rfl ?_; clear hE a; intro a hE
                      refine QL.no hE (runs_not hE rfl rfl rfl (by rw [hg239]; decide)) rfl ?_; clear hE a; intro a hE
                      refine QL.no hE (runs_not hE rfl rfl rfl (by rw [hg239]; decide)) rfl ?_; clear hE a; intro a hE
                      refine QL.no hE (runs_not hE rfl rfl rfl (by rw [hg239]; decide)) rfl ?_; clear hE a; intro a hE
                      refine QL.no hE (runs_not hE rfl rfl rfl (by rw [hg239]; decide)) rfl ?_; clear hE a; intro a hE
                      refine QL.no hE (runs_not hE rfl rfl rfl (by rw [hg239]; decide)) rfl ?_; clear hE a; intro a hE
                      refine QL.no hE (runs_not hE rfl rfl rfl (by rw [hg239]; decide)) rfl ?_; clear hE a; intro a hE
                      refine QL.no hE (runs_not hE rfl rfl rfl (by rw [hg239]; decide)) rfl ?_; clear hE a; intro a hE
                      refine QL.no hE (runs_not hE rfl rfl rfl (by rw [hg239]; decide)) rfl ?_; clear hE a; intro a hE
                      refine QL.no hE (runs_not hE rfl rfl rfl (by rw [hg239]; decide)) rfl ?_; clear hE a; intro a hE
                      refine QL.v hE (runs_plain rfl) (Gives.pickT hE rfl hg239 rfl) rfl ?_; clear hE a; intro a hE
                      refine QL.nil ?_; clear hS w; intro w hS
                      subst hK218
                      exact ⟨true, Option.some.inj hq213, hE.pick _ ⟨rfl, rfl, rfl, rfl, rfl, rfl, rfl, rfl, rfl, rfl, rfl, rfl, trivial⟩, hS⟩
                    · replace hq213 := iteF hg239 hq213
                      refine QL.v hE (runs_if hE rfl rfl rfl hg239) (Gives.p hE rfl) rfl ?_; clear hE a; intro a hE
                      refine QL.v hE (runs_if hE rfl rfl rfl hg239) (Gives.p hE rfl) rfl ?_; clear hE a; intro a hE
                      refine QL.v hE (runs_if hE rfl rfl rfl hg239) (Gives.p hE rfl) rfl ?_; clear hE a; intro a hE
                      obtain ⟨x240, hx241, hq213⟩ := bindS hq213
                      obtain ⟨hi242, hlt243, hy244⟩ := gx_some hx241
                      obtain ⟨a245, c246, cs247, hd248, hev249⟩ := h162.at hy244
                      refine QL.v hE (runs_if hE rfl rfl rfl hg239) (Gives.idx hE ((((k63 : Nat) : Int)).toNat) rfl rfl sl40 hi242 (by have := hn163; omega) (hS.nAok 1 rfl (by have := hn163; omega : (((k63 : Nat) : Int)).toNat < x55.length))) rfl ?_; clear hE a; intro a hE
                      refine QL.v hE (runs_if hE rfl rfl rfl hg239) (Gives.load1 (v := .slice a245 x240.length c246) hE rfl (fun w h => St.nSees h 1 rfl hd248) ty22) rfl ?_; clear hE a; intro a hE
                      refine QL.v hE (runs_if hE rfl rfl rfl hg239) (Gives.fld hE rfl fl36_1) rfl ?_; clear hE a; intro a hE
                      refine QL.v hE (runs_if hE rfl rfl rfl hg239) (Gives.loadB hE 0 rfl rfl rfl ty3) rfl ?_; clear hE a; intro a hE
                      obtain ⟨x250, hx251, hq213⟩ := bindS hq213
                      obtain ⟨hi252, hlt253, hy254⟩ := gx_some hx251
                      obtain ⟨vs255, hl256, hR257, hd258, hget259⟩ := hev249.at hy254
                      subst hR257
                      refine QL.v hE (runs_if hE rfl rfl rfl hg239) (Gives.idx hE ((x148.To).toNat) rfl rfl sl22 hi252 hlt253 (hS.nnAok 1 rfl hd248 hlt253)) rfl ?_; clear hE a; intro a hE
                      refine QL.v hE (runs_if hE rfl rfl rfl hg239) (Gives.load1 hE rfl (fun w h => St.nnSees h 1 rfl hd248 ((x148.To).toNat * 1) _ hget259) ty3) rfl ?_; clear hE a; intro a hE
                      refine QL.v hE (runs_if hE rfl rfl rfl hg239) (Gives.p hE rfl) rfl ?_; clear hE a; intro a hE
                      refine QL.v hE (runs_plain rfl) (Gives.pickF hE rfl hg239 rfl) rfl ?_; clear hE a; intro a hE
                      refine QL.nil ?_; clear hS w; intro w hS
                      subst hK218
                      exact ⟨decide ((w64 (x201 + q211)) < x250), Option.some.inj hq213, hE.pick _ ⟨rfl, rfl, rfl, rfl, rfl, rfl, rfl, rfl, rfl, rfl, rfl, rfl, trivial⟩, hS⟩
                  · clear hE hS a w; rintro a w ⟨q217, rfl, hE, hS⟩
                    obtain ⟨q261, hq260, hq145⟩ := bindS hq145
                    refine W.cut (fun a w => ∃ (q264 : Bool), ∃ (q265 : List (List Int)), ∃ (ds269 : List In), (q264, q265) = q261 ∧ NEv 1 (RI .i64) s84 ds269 q265 ∧ q265.length = x55.length ∧ Rep a 100 [(1, .pointer (some ⟨b51, 0, none⟩)), (5, .slice (some ⟨b57, 0, none⟩) x55.length x55.length), (6, .int .i64 ((k63 : Nat) : Int)), (7, .bool q264), (21, .int .i64 ((x55.length : Nat) : Int)), (22, .int .i64 ((k63 : Nat) : Int)), (41, .slice a0_1 x0.Links.length c0_1), (42, .int .i64 ((x0.Links).length : Int)), (43, .int .i64 ((k147 : Nat) : Int))] ∧ St w s84 (pt b169 (.cells (MendLink.cells x148).toArray 36 (0, 0)) :: nestC 22 3 1 (some ⟨b57, 0, none⟩) x55.length x55.length ds269 :: pt b51 (.cells #[.int .i64 x0.Period, .slice a0_0 x0.Plan.length c0_0, .slice a0_1 x0.Links.length c0_1] 25 (0, 0)) :: R)) ?_ ?_
                    · refine W.gen fun K272 hK272 => ?_
                      refine W.cond hE rfl (fun hc273 => ?_) (fun hc273 => ?_)
                      · replace hq260 := iteT hc273 hq260
                        refine W.gen fun K274 hK274 => ?_
                        refine W.regionE (sel (fun w => St w s84 (pt b169 (.cells (MendLink.cells x148).toArray 36 (0, 0)) :: nestC 22 3 1 (some ⟨b57, 0, none⟩) x55.length x55.length ds161 :: pt b51 (.cells #[.int .i64 x0.Period, .slice a0_0 x0.Plan.length c0_0, .slice a0_1 x0.Links.length c0_1] 25 (0, 0)) :: R)) (fun w => St w s84 (pt b169 (.cells (MendLink.cells x148).toArray 36 (0, 0)) :: pt b51 (.cells #[.int .i64 x0.Period, .slice a0_0 x0.Plan.length c0_0, .slice a0_1 x0.Links.length c0_1] 25 (0, 0)) :: R))) (fun b i => cond b ([0, 1, 2, 3, 4, 5, 6, 9].contains i) ([0, 1, 2, 3, 4, 5, 6, 7, 8, 9].contains i)) mixed ?_
                        replace hS := hS.drew
                        refine Rg.takeP (i := 0) hE rfl (by kernel_rfl) (runs_plain rfl) (Gives.p hE rfl) rfl (tw_sel (fun _ => hS) (fun _ => (hS.dropAt 1))) ?_; clear hE a; intro a hE
                        refine Rg.takeP (i := 1) hE rfl (by kernel_rfl) (runs_plain rfl) (Gives.p hE rfl) rfl (tw_sel (fun _ => hS) (fun _ => (hS.dropAt 1))) ?_; clear hE a; intro a hE
                        obtain ⟨x275, hx276, hq260⟩ := bindS hq260
                        obtain ⟨hi277, hlt278, hy279⟩ := gx_some hx276
                        obtain ⟨a280, c281, cs282, hd283, hev284⟩ := h162.at hy279
                        refine Rg.takeP (i := 2) hE rfl (by kernel_rfl) (runs_plain rfl) (Gives.idx hE ((((k63 : Nat) : Int)).toNat) rfl rfl sl40 hi277 (by have := hn163; omega) (hS.nAok 1 rfl (by have := hn163; omega : (((k63 : Nat) : Int)).toNat < x55.length))) rfl (tw_sel (fun _ => hS) (fun _ => (hS.dropAt 1))) ?_; clear hE a; intro a hE
                        have hT := tw_sel (A := fun w => St w s84 (pt b169 (.cells (MendLink.cells x148).toArray 36 (0, 0)) :: nestC 22 3 1 (some ⟨b57, 0, none⟩) x55.length x55.length ds161 :: pt b51 (.cells #[.int .i64 x0.Period, .slice a0_0 x0.Plan.length c0_0, .slice a0_1 x0.Links.length c0_1] 25 (0, 0)) :: R)) (B := fun w => St w s84 (pt b169 (.cells (MendLink.cells x148).toArray 36 (0, 0)) :: pt b51 (.cells #[.int .i64 x0.Period, .slice a0_0 x0.Plan.length c0_0, .slice a0_1 x0.Links.length c0_1] 25 (0, 0)) :: R)) (w := _) (x := true) (y := true) (fun _ => hS) (fun _ => (hS.dropAt 1))
                        have hF := hS; replace hS := hS
                        refine Rg.take (i := 3) true rfl hE rfl (by kernel_rfl) (runs_plain rfl) (Gives.load1 (v := .slice a280 x275.length c281) hE rfl (fun w h => St.nSees h 1 rfl hd283) ty22) rfl hT ?_; clear hE a; intro a hE
                        replace hS := hF; clear hF hT
                        refine Rg.takeP (i := 4) hE rfl (by kernel_rfl) (runs_plain rfl) (Gives.fld hE rfl fl36_1) rfl (tw_sel (fun _ => hS) (fun _ => (hS.dropAt 1))) ?_; clear hE a; intro a hE
                        have hT := tw_sel (A := fun w => St w s84 (pt b169 (.cells (MendLink.cells x148).toArray 36 (0, 0)) :: nestC 22 3 1 (some ⟨b57, 0, none⟩) x55.length x55.length ds161 :: pt b51 (.cells #[.int .i64 x0.Period, .slice a0_0 x0.Plan.length c0_0, .slice a0_1 x0.Links.length c0_1] 25 (0, 0)) :: R)) (B := fun w => St w s84 (pt b169 (.cells (MendLink.cells x148).toArray 36 (0, 0)) :: pt b51 (.cells #[.int .i64 x0.Period, .slice a0_0 x0.Plan.length c0_0, .slice a0_1 x0.Links.length c0_1] 25 (0, 0)) :: R)) (w := _) (x := true) (y := true) (fun _ => hS) (fun _ => (hS.dropAt 1))
                        have hF := hS; replace hS := hS
                        refine Rg.take (i := 5) true rfl hE rfl (by kernel_rfl) (runs_plain rfl) (Gives.loadB hE 0 rfl rfl rfl ty3) rfl hT ?_; clear hE a; intro a hE
                        replace hS := hF; clear hF hT
                        refine Rg.takeP (i := 6) hE rfl (by kernel_rfl) (runs_plain rfl) (Gives.p hE rfl) rfl (tw_sel (fun _ => hS) (fun _ => (hS.dropAt 1))) ?_; clear hE a; intro a hE
                        refine Rg.one (i := 7) false true rfl (by kernel_rfl) (by kernel_rfl) (by kernel_rfl) ?_
                        replace hS := hS.borrowM 1 rfl hd283
                        obtain ⟨_, hx287, hq260⟩ := bindS hq260
                        obtain ⟨h288, h289⟩ := ix_some hx287
                        refine WL.vS hS hE (runs_plain rfl) (Gives.idx hE ((x148.To).toNat) rfl rfl sl22 h288 (by omega) (hS.vecAok 0 rfl (by omega : (x148.To).toNat < x275.length))) rfl ?_; clear hE a; intro a hE
                        refine WL.nil ?_
                        refine ⟨⟨fun h => absurd h (by decide), fun _ => ((hS.tail).dropAt 1)⟩, ?_⟩
                        refine Rg.one (i := 8) false true rfl (by kernel_rfl) (by kernel_rfl) (by kernel_rfl) ?_
                        obtain ⟨x291, hx292, hq260⟩ := bindS hq260
                        refine WL.setD hE hS 0 rfl (runs_plain rfl) rfl rfl (vs := [.int .i64 (w64 (x201 + q211))]) rfl ty3 rfl rfl rfl hev284 (rfl) (sx_some hx292).1 hx292 rfl rfl ?_; clear hE hS a w; intro cs293 a w h294 hn295 hE hS
                        refine WL.nil ?_
                        refine ⟨⟨fun h => absurd h (by decide), fun _ => ((hS.tail).dropAt 1)⟩, ?_⟩
                        refine Rg.takeP (i := 9) hE rfl (by kernel_rfl) (runs_plain rfl) (Gives.p hE rfl) rfl (tw_sel (fun h => absurd h (by decide)) (fun _ => ((hS.tail).dropAt 1))) ?_; clear hE a; intro a hE
                        refine Rg.done (by kernel_rfl) ?_
                        subst hK274
                        replace hS := hS.giveBack 1 rfl hd283
                        have h297 := h162.set (k := (((k63 : Nat) : Int)).toNat) (d := ⟨a280, c281, x275.length, cs293⟩) h294 hn295
                        have hn298 : (q157.set ((((k63 : Nat) : Int)).toNat) x291).length = x55.length := by simp; exact hn163
                        generalize List.set ds161 ((((k63 : Nat) : Int)).toNat) _ = ds296 at hS h297
                        subst hK272
                        exact ⟨true, (q157.set ((((k63 : Nat) : Int)).toNat) x291), ds296, Option.some.inj hq260, h297, hn298, hE.pick _ ⟨rfl, rfl, rfl, rfl, rfl, rfl, rfl, rfl, rfl, trivial⟩, hS⟩
                      · replace hq260 := iteF hc273 hq260
                        refine W.skip ?_
                        subst hK272
                        exact ⟨q156, q157, ds161, Option.some.inj hq260, h162, hn163, hE.pick _ ⟨rfl, rfl, rfl, rfl, rfl, rfl, rfl, rfl, rfl, trivial⟩, hS⟩
                    · clear hE hS a w; rintro a w ⟨q264, q265, ds269, rfl, h270, hn271, hE, hS⟩
                      dsimp only at hq145
                      refine W.region ?_
                      refine WL.vS hS hE (runs_plain rfl) (Gives.inc hE rfl (by have := h0_1.small; omega)) rfl ?_; clear hE a; intro a hE
                      refine WL.vS hS hE (runs_plain rfl) (Gives.p hE rfl) rfl ?_; clear hE a; intro a hE
                      refine WL.nil ?_
                      replace hS := hS.tail
                      subst hK164
                      exact ⟨rest149.length, Nat.lt_succ_self _, rest149, k147 + 1, q264, q265, ds269, rfl, hd150, hq145, h270, hn271, hE.pick _ ⟨rfl, rfl, rfl, rfl, rfl, rfl, rfl, rfl, rfl, trivial⟩, hS⟩
            · clear hE hS a w; rintro a w ⟨q156, q157, ds161, rfl, h162, hn163, hE, hS⟩
              dsimp only at hq129
              subst hK143
              exact ⟨n131, Nat.lt_succ_self _, n131, q156, q157, ds161, rfl, hq129, h162, hn163, hE.pick _ ⟨rfl, rfl, rfl, rfl, rfl, rfl, trivial⟩, hS⟩
          · replace hq129 := iteF hc144 hq129
            subst hK143
            refine W.exit rfl ?_
            exact ⟨q135, q136, ds140, Option.some.inj hq129, h141, hn142, hE.pick _ ⟨rfl, rfl, rfl, rfl, trivial⟩, hS⟩
        · clear hE hS a w; rintro a w ⟨q135, q136, ds140, rfl, h141, hn142, hE, hS⟩
          dsimp only at hq61
          refine W.region ?_
          refine WL.vS hS hE (runs_plain rfl) (Gives.inc hE rfl (by omega)) rfl ?_; clear hE a; intro a hE
          refine WL.vS hS hE (runs_plain rfl) (Gives.p hE rfl) rfl ?_; clear hE a; intro a hE
          refine WL.nil ?_
          subst hK80
          exact ⟨rest65, Nat.lt_succ_self _, rest65, k63 + 1, q136, ds140, s84, rfl, (by omega), (Sg.Le.trans hle71 hle85), hq61, h141, hn142, hE.pick _ ⟨rfl, rfl, rfl, rfl, trivial⟩, hS⟩
    · clear hE hS a w; rintro a w ⟨q73, ds77, s70, hle71, rfl, h78, hn79, hE, hS⟩
      replace h0_0 := Sl.mono RI.mono hle71 h0_0
      replace h0_1 := Sl.mono RMendLink.mono hle71 h0_1
      replace h59 := NEv.mono RI.mono hle71 h59
      refine W.seq ?_
      refine W.region ?_
      refine WL.vS hS hE (runs_plain rfl) (Gives.p hE rfl) rfl ?_; clear hE a; intro a hE
      refine WL.vS hS hE (runs_plain rfl) (Gives.p hE rfl) rfl ?_; clear hE a; intro a hE
      refine WL.vS hS hE (runs_plain rfl) (Gives.p hE rfl) rfl ?_; clear hE a; intro a hE
      refine WL.nil ?_
      refine W.ret ?_
      have hF := hS.fixN RI.mono 0 rfl h78 hn79; clear hS; obtain ⟨s299, hle300, hS, h301⟩ := hF
      (try rw [← hn79] at hE)
      (try rw [← hn79] at hS)
      (try rw [← hn79] at h301)
      replace h0_0 := Sl.mono RI.mono hle300 h0_0
      replace h0_1 := Sl.mono RMendLink.mono hle300 h0_1
      refine finG (fn := Try.f34) (rs := [.tmp 2, .tmp 3]) (vs := [_, _]) hE rfl ⟨rfl, rfl, trivial⟩ ?_
      obtain rfl := Option.some.inj hr
      replace hS := hS.tail
      exact ⟨(some ⟨b57, 0, none⟩), q73.length, s299, rfl, (Sg.Le.trans hle71 hle300), h301, hS⟩
set_option maxHeartbeats 8000000 in
theorem SlicesEqualLint_ok  {w : World} {s : Sg} {R : List HP} {x0 : List Int} {a0 : Option Addr} {c0 : Nat} {x1 : List Int} {a1 : Option Addr} {c1 : Nat} (hS : St w s (R)) (h0 : Sl 1 (RI .i64) s a0 c0 x0) (h1 : Sl 1 (RI .i64) s a1 c1 x1) {r : Bool} (hr : SlicesEqualLint x0 x1 = some r) :
    Calls Try.prog 28 [.slice a0 x0.length c0, .slice a1 x1.length c1].toArray w (fun e w => e = .returned (.bool r) ∧ St w s (R)) := by
  refine enter Try.func28 rfl rfl rfl fun a hE => ?_
  rw [SlicesEqualLint] at hr
  refine W.seq ?_
  refine W.region ?_
  refine WL.vS hS hE (runs_plain rfl) (Gives.p hE rfl) rfl ?_; clear hE a; intro a hE
  refine WL.nil ?_
  refine W.seq ?_
  refine W.seq ?_
  refine W.region ?_
  refine WL.vS hS hE (runs_plain rfl) (Gives.p hE rfl) rfl ?_; clear hE a; intro a hE
  refine WL.vS hS hE (runs_plain rfl) (Gives.len hE rfl sl22) rfl ?_; clear hE a; intro a hE
  refine WL.vS hS hE (runs_plain rfl) (Gives.p hE rfl) rfl ?_; clear hE a; intro a hE
  refine WL.vS hS hE (runs_plain rfl) (Gives.len hE rfl sl22) rfl ?_; clear hE a; intro a hE
  refine WL.vS hS hE (runs_plain rfl) (Gives.p hE rfl) rfl ?_; clear hE a; intro a hE
  refine WL.nil ?_
  refine W.cond hE rfl (fun hc51 => ?_) (fun hc51 => ?_)
  · replace hr := iteT hc51 hr
    refine W.seq ?_
    refine W.region ?_
    refine WL.vS hS hE (runs_plain rfl) (Gives.p hE rfl) rfl ?_; clear hE a; intro a hE
    refine WL.nil ?_
    refine W.ret ?_
    refine finG (fn := Try.f28) (rs := [.tmp 4]) (vs := [_]) hE rfl ⟨rfl, trivial⟩ ?_
    obtain rfl := Option.some.inj hr
    exact ⟨rfl, hS⟩
  · replace hr := iteF hc51 hr
    refine W.skip ?_
    refine W.seq ?_
    refine W.seq ?_
    refine W.region ?_
    refine WL.vS hS hE (runs_plain rfl) (Gives.p hE rfl) rfl ?_; clear hE a; intro a hE
    refine WL.vS hS hE (runs_plain rfl) (Gives.len hE rfl sl22) rfl ?_; clear hE a; intro a hE
    refine WL.vS hS hE (runs_plain rfl) (Gives.p hE rfl) rfl ?_; clear hE a; intro a hE
    refine WL.nil ?_
    obtain ⟨q53, hq52, hr⟩ := bindS hr
    refine W.cut (fun a w => (.next ()) = q53 ∧ Rep a 26 [] ∧ St w s (R)) ?_ ?_
    · refine W.block ?_
      refine W.loop (fun m a w => ∃ (rest56 : List Int) (k54 : Nat), rest56.length = m ∧ x0.drop k54 = rest56 ∧ SlicesEqualLint.loop1 x1 rest56 k54 = some q53 ∧ Rep a 26 [(0, .slice a0 x0.length c0), (1, .slice a1 x1.length c1), (12, .int .i64 ((x0).length : Int)), (13, .int .i64 ((k54 : Nat) : Int))] ∧ St w s (R)) (m := x0.length) ⟨x0, 0, rfl, rfl, hq52, hE.pick _ ⟨rfl, rfl, rfl, rfl, trivial⟩, hS⟩ ?_
      clear hE hS a w hq52; rintro m60 a w ⟨rest56, k54, rfl, hd57, hq52, hE, hS⟩
      refine W.gen fun K63 hK63 => ?_
      rcases rest56 with _ | ⟨x55, rest56⟩
      · have hlt58 := drop_nil hd57
        refine W.seq ?_
        refine W.region ?_
        refine WL.vS hS hE (runs_plain rfl) (Gives.p hE rfl) rfl ?_; clear hE a; intro a hE
        refine WL.nil ?_
        refine W.seq ?_
        refine W.condF hE rfl (decide_eq_false (by omega)) ?_
        subst hK63
        refine W.exit rfl ?_
        exact ⟨Option.some.inj hq52, hE.pick _ trivial, hS⟩
      · obtain ⟨hlt58, hx59, hd57⟩ := drop_cons hd57
        rw [SlicesEqualLint.loop1] at hq52
        refine W.seq ?_
        refine W.region ?_
        refine WL.vS hS hE (runs_plain rfl) (Gives.p hE rfl) rfl ?_; clear hE a; intro a hE
        refine WL.nil ?_
        refine W.seq ?_
        refine W.condT hE rfl (decide_eq_true (by omega)) ?_
        refine W.skip ?_
        refine W.seq ?_
        refine W.block ?_
        refine W.seq ?_
        refine W.region ?_
        refine WL.vS hS hE (runs_plain rfl) (Gives.p hE rfl) rfl ?_; clear hE a; intro a hE
        refine WL.vS hS hE (runs_plain rfl) (Gives.p hE rfl) rfl ?_; clear hE a; intro a hE
        refine WL.nil ?_
        refine W.seq ?_
        refine W.regionQ (C := fun w => St w s (R)) mixed (by kernel_rfl) hS.drew ?_
        refine QL.v hE (runs_plain rfl) (Gives.p hE rfl) rfl ?_; clear hE a; intro a hE
        refine QL.v hE (runs_plain rfl) (Gives.p hE rfl) rfl ?_; clear hE a; intro a hE
        obtain ⟨cs64, hl65, hR66, hat67⟩ := h0.at hx59
        subst hR66
        refine QL.v hE (runs_plain rfl) (Gives.idx hE k54 rfl rfl sl22 rfl hlt58 (h0.aok hlt58)) rfl ?_; clear hE a; intro a hE
        refine QL.v hE (runs_plain rfl) (Gives.load1 hE rfl (fun w h => hat67 w _ h) ty3) rfl ?_; clear hE a; intro a hE
        refine QL.v hE (runs_plain rfl) (Gives.p hE rfl) rfl ?_; clear hE a; intro a hE
        refine QL.v hE (runs_plain rfl) (Gives.p hE rfl) rfl ?_; clear hE a; intro a hE
        obtain ⟨x68, hx69, hq52⟩ := bindS hq52
        obtain ⟨hi70, hlt71, hy72⟩ := gx_some hx69
        obtain ⟨cs73, hl74, hR75, hat76⟩ := h1.at hy72
        subst hR75
        refine QL.v hE (runs_plain rfl) (Gives.idx hE (((k54 : Nat) : Int)).toNat rfl rfl sl22 hi70 hlt71 (h1.aok hlt71)) rfl ?_; clear hE a; intro a hE
        refine QL.v hE (runs_plain rfl) (Gives.load1 hE rfl (fun w h => hat76 w _ h) ty3) rfl ?_; clear hE a; intro a hE
        refine QL.v hE (runs_plain rfl) (Gives.p hE rfl) rfl ?_; clear hE a; intro a hE
        refine QL.nil ?_; clear hS w; intro w hS
        refine W.cond hE rfl (fun hc77 => ?_) (fun hc77 => ?_)
        · replace hq52 := iteT hc77 hq52
          refine W.seq ?_
          refine W.region ?_
          refine WL.vS hS hE (runs_plain rfl) (Gives.p hE rfl) rfl ?_; clear hE a; intro a hE
          refine WL.nil ?_
          refine W.ret ?_
          subst hK63
          rw [← Option.some.inj hq52] at hr
          dsimp only at hr
          refine finG (fn := Try.f28) (rs := [.tmp 4]) (vs := [_]) hE rfl ⟨rfl, trivial⟩ ?_
          obtain rfl := Option.some.inj hr
          exact ⟨rfl, hS⟩
        · replace hq52 := iteF hc77 hq52
          refine W.skip ?_
          refine W.region ?_
          refine WL.vS hS hE (runs_plain rfl) (Gives.inc hE rfl (by have := h0.small; omega)) rfl ?_; clear hE a; intro a hE
          refine WL.vS hS hE (runs_plain rfl) (Gives.p hE rfl) rfl ?_; clear hE a; intro a hE
          refine WL.nil ?_
          subst hK63
          exact ⟨rest56.length, Nat.lt_succ_self _, rest56, k54 + 1, rfl, hd57, hq52, hE.pick _ ⟨rfl, rfl, rfl, rfl, trivial⟩, hS⟩
    · clear hE hS a w; rintro a w ⟨rfl, hE, hS⟩
      dsimp only at hr
      refine W.seq ?_
      refine W.region ?_
      refine WL.vS hS hE (runs_plain rfl) (Gives.p hE rfl) rfl ?_; clear hE a; intro a hE
      refine WL.nil ?_
      refine W.ret ?_
      refine finG (fn := Try.f28) (rs := [.tmp 4]) (vs := [_]) hE rfl ⟨rfl, trivial⟩ ?_
      obtain rfl := Option.some.inj hr
      exact ⟨rfl, hS⟩
set_option maxHeartbeats 8000000 in
theorem SlicesEqualFuncLLint_v1_ok  {w : World} {s : Sg} {R : List HP} {x0 : List (List Int)} {a0 : Option Addr} {c0 : Nat} {x1 : List (List Int)} {a1 : Option Addr} {c1 : Nat} (hS : St w s (R)) (h0 : Sl 1 (RL 1 (RI .i64)) s a0 c0 x0) (h1 : Sl 1 (RL 1 (RI .i64)) s a1 c1 x1) {r : Bool} (hr : SlicesEqualFuncLLint_v1 x0 x1 = some r) :
    Calls Try.prog 61 [.slice a0 x0.length c0, .slice a1 x1.length c1, .func (.func 28) #[] #[]].toArray w (fun e w => e = .returned (.bool r) ∧ St w s (R)) := by
  refine enter Try.func61 rfl rfl rfl fun a hE => ?_
  rw [SlicesEqualFuncLLint_v1] at hr
  refine W.seq ?_
  refine W.region ?_
  refine WL.vS hS hE (runs_plain rfl) (Gives.p hE rfl) rfl ?_; clear hE a; intro a hE
  refine WL.nil ?_
  refine W.seq ?_
  refine W.seq ?_
  refine W.region ?_
  refine WL.vS hS hE (runs_plain rfl) (Gives.p hE rfl) rfl ?_; clear hE a; intro a hE
  refine WL.vS hS hE (runs_plain rfl) (Gives.len hE rfl sl40) rfl ?_; clear hE a; intro a hE
  refine WL.vS hS hE (runs_plain rfl) (Gives.p hE rfl) rfl ?_; clear hE a; intro a hE
  refine WL.vS hS hE (runs_plain rfl) (Gives.len hE rfl sl40) rfl ?_; clear hE a; intro a hE
  refine WL.vS hS hE (runs_plain rfl) (Gives.p hE rfl) rfl ?_; clear hE a; intro a hE
  refine WL.nil ?_
  refine W.cond hE rfl (fun hc51 => ?_) (fun hc51 => ?_)
  · replace hr := iteT hc51 hr
    refine W.seq ?_
    refine W.region ?_
    refine WL.vS hS hE (runs_plain rfl) (Gives.p hE rfl) rfl ?_; clear hE a; intro a hE
    refine WL.nil ?_
    refine W.ret ?_
    refine finG (fn := Try.f61) (rs := [.tmp 6]) (vs := [_]) hE rfl ⟨rfl, trivial⟩ ?_
    obtain rfl := Option.some.inj hr
    exact ⟨rfl, hS⟩
  · replace hr := iteF hc51 hr
    refine W.skip ?_
    refine W.seq ?_
    refine W.seq ?_
    refine W.region ?_
    refine WL.vS hS hE (runs_plain rfl) (Gives.p hE rfl) rfl ?_; clear hE a; intro a hE
    refine WL.vS hS hE (runs_plain rfl) (Gives.len hE rfl sl40) rfl ?_; clear hE a; intro a hE
    refine WL.vS hS hE (runs_plain rfl) (Gives.p hE rfl) rfl ?_; clear hE a; intro a hE
    refine WL.nil ?_
    obtain ⟨q53, hq52, hr⟩ := bindS hr
    refine W.cut (fun a w => (.next ()) = q53 ∧ Rep a 32 [] ∧ St w s (R)) ?_ ?_
    · refine W.block ?_
      refine W.loop (fun m a w => ∃ (rest56 : List (List Int)) (k54 : Nat), rest56.length = m ∧ x0.drop k54 = rest56 ∧ SlicesEqualFuncLLint_v1.loop1 x1 rest56 k54 = some q53 ∧ Rep a 32 [(1, .slice a1 x1.length c1), (2, .func (.func 28) #[] #[]), (15, .slice a0 x0.length c0), (16, .int .i64 ((x0).length : Int)), (17, .int .i64 ((k54 : Nat) : Int))] ∧ St w s (R)) (m := x0.length) ⟨x0, 0, rfl, rfl, hq52, hE.pick _ ⟨rfl, rfl, rfl, rfl, rfl, trivial⟩, hS⟩ ?_
      clear hE hS a w hq52; rintro m60 a w ⟨rest56, k54, rfl, hd57, hq52, hE, hS⟩
      refine W.gen fun K63 hK63 => ?_
      rcases rest56 with _ | ⟨x55, rest56⟩
      · have hlt58 := drop_nil hd57
        refine W.seq ?_
        refine W.region ?_
        refine WL.vS hS hE (runs_plain rfl) (Gives.p hE rfl) rfl ?_; clear hE a; intro a hE
        refine WL.nil ?_
        refine W.seq ?_
        refine W.condF hE rfl (decide_eq_false (by omega)) ?_
        subst hK63
        refine W.exit rfl ?_
        exact ⟨Option.some.inj hq52, hE.pick _ trivial, hS⟩
      · obtain ⟨hlt58, hx59, hd57⟩ := drop_cons hd57
        rw [SlicesEqualFuncLLint_v1.loop1] at hq52
        refine W.seq ?_
        refine W.region ?_
        refine WL.vS hS hE (runs_plain rfl) (Gives.p hE rfl) rfl ?_; clear hE a; intro a hE
        refine WL.nil ?_
        refine W.seq ?_
        refine W.condT hE rfl (decide_eq_true (by omega)) ?_
        refine W.skip ?_
        refine W.seq ?_
        refine W.block ?_
        refine W.seq ?_
        refine W.region ?_
        refine WL.vS hS hE (runs_plain rfl) (Gives.p hE rfl) rfl ?_; clear hE a; intro a hE
        obtain ⟨cs64, hl65, hR66, hat67⟩ := h0.at hx59
        obtain ⟨a68, c69, rfl, h70⟩ := hR66
        refine WL.vS hS hE (runs_plain rfl) (Gives.idx hE k54 rfl rfl sl40 rfl hlt58 (h0.aok hlt58)) rfl ?_; clear hE a; intro a hE
        refine WL.vS hS hE (runs_plain rfl) (Gives.load1 hE rfl (fun w h => hat67 w _ h) ty22) rfl ?_; clear hE a; intro a hE
        refine WL.vS hS hE (runs_plain rfl) (Gives.p hE rfl) rfl ?_; clear hE a; intro a hE
        refine WL.vS hS hE (runs_plain rfl) (Gives.p hE rfl) rfl ?_; clear hE a; intro a hE
        refine WL.nil ?_
        refine W.seq ?_
        refine W.region ?_
        refine WL.vS hS hE (runs_plain rfl) (Gives.p hE rfl) rfl ?_; clear hE a; intro a hE
        refine WL.vS hS hE (runs_plain rfl) (Gives.p hE rfl) rfl ?_; clear hE a; intro a hE
        obtain ⟨x71, hx72, hq52⟩ := bindS hq52
        obtain ⟨hi73, hlt74, hy75⟩ := gx_some hx72
        obtain ⟨cs76, hl77, hR78, hat79⟩ := h1.at hy75
        obtain ⟨a80, c81, rfl, h82⟩ := hR78
        refine WL.vS hS hE (runs_plain rfl) (Gives.idx hE (((k54 : Nat) : Int)).toNat rfl rfl sl40 hi73 hlt74 (h1.aok hlt74)) rfl ?_; clear hE a; intro a hE
        refine WL.vS hS hE (runs_plain rfl) (Gives.load1 hE rfl (fun w h => hat79 w _ h) ty22) rfl ?_; clear hE a; intro a hE
        refine WL.vS hS hE (runs_plain rfl) (Gives.p hE rfl) rfl ?_; clear hE a; intro a hE
        refine WL.nil ?_
        refine W.seq ?_
        refine W.region ?_
        refine WL.vS hS hE (runs_plain rfl) (Gives.p hE rfl) rfl ?_; clear hE a; intro a hE
        refine WL.vS hS hE (runs_plain rfl) (Gives.p hE rfl) rfl ?_; clear hE a; intro a hE
        refine WL.vS hS hE (runs_plain rfl) (Gives.p hE rfl) rfl ?_; clear hE a; intro a hE
        obtain ⟨q83, hq84, hq52⟩ := bindS hq52
        have hc_ := SlicesEqualLint_ok hS h70 h82 hq84
        refine WL.fnw hE (hc_) rfl (runs_plain rfl) bd28 rfl rfl rfl ?_
        clear hE hS hc_; rintro e w ⟨rfl, hS⟩; refine ⟨_, rfl, ?_⟩; clear a; intro a hE
        refine WL.vS hS hE (runs_plain rfl) (Gives.p hE rfl) rfl ?_; clear hE a; intro a hE
        refine WL.nil ?_
        refine W.cond hE rfl (fun hc85 => ?_) (fun hc85 => ?_)
        · replace hq52 := iteT hc85 hq52
          refine W.seq ?_
          refine W.region ?_
          refine WL.vS hS hE (runs_plain rfl) (Gives.p hE rfl) rfl ?_; clear hE a; intro a hE
          refine WL.nil ?_
          refine W.ret ?_
          subst hK63
          rw [← Option.some.inj hq52] at hr
          dsimp only at hr
          refine finG (fn := Try.f61) (rs := [.tmp 6]) (vs := [_]) hE rfl ⟨rfl, trivial⟩ ?_
          obtain rfl := Option.some.inj hr
          exact ⟨rfl, hS⟩
        · replace hq52 := iteF hc85 hq52
          refine W.skip ?_
          refine W.region ?_
          refine WL.vS hS hE (runs_plain rfl) (Gives.inc hE rfl (by have := h0.small; omega)) rfl ?_; clear hE a; intro a hE
          refine WL.vS hS hE (runs_plain rfl) (Gives.p hE rfl) rfl ?_; clear hE a; intro a hE
          refine WL.nil ?_
          subst hK63
          exact ⟨rest56.length, Nat.lt_succ_self _, rest56, k54 + 1, rfl, hd57, hq52, hE.pick _ ⟨rfl, rfl, rfl, rfl, rfl, trivial⟩, hS⟩
    · clear hE hS a w; rintro a w ⟨rfl, hE, hS⟩
      dsimp only at hr
      refine W.seq ?_
      refine W.region ?_
      refine WL.vS hS hE (runs_plain rfl) (Gives.p hE rfl) rfl ?_; clear hE a; intro a hE
      refine WL.nil ?_
      refine W.ret ?_
      refine finG (fn := Try.f61) (rs := [.tmp 6]) (vs := [_]) hE rfl ⟨rfl, trivial⟩ ?_
      obtain rfl := Option.some.inj hr
      exact ⟨rfl, hS⟩
set_option maxHeartbeats 8000000 in
theorem Fishlaw2lists_ok  {w : World} {s : Sg} {R : List HP} {x0 : List (List Int)} {a0 : Option Addr} {c0 : Nat} {x1 : List (List Int)} {a1 : Option Addr} {c1 : Nat} (hS : St w s (R)) (h0 : Sl 1 (RL 1 (RI .i64)) s a0 c0 x0) (h1 : Sl 1 (RL 1 (RI .i64)) s a1 c1 x1) {r : Bool} (hr : Fishlaw2lists x0 x1 = some r) :
    Calls Try.prog 21 [.slice a0 x0.length c0, .slice a1 x1.length c1].toArray w (fun e w => e = .returned (.bool r) ∧ St w s (R)) := by
  refine enter Try.func21 rfl rfl rfl fun a hE => ?_
  rw [Fishlaw2lists] at hr
  refine W.seq ?_
  refine W.region ?_
  refine WL.vS hS hE (runs_plain rfl) (Gives.p hE rfl) rfl ?_; clear hE a; intro a hE
  refine WL.nil ?_
  refine W.seq ?_
  refine W.region ?_
  refine WL.vS hS hE (runs_plain rfl) (Gives.p hE rfl) rfl ?_; clear hE a; intro a hE
  refine WL.vS hS hE (runs_plain rfl) (Gives.p hE rfl) rfl ?_; clear hE a; intro a hE
  obtain ⟨q51, hq52, hr⟩ := bindS hr
  have hc_ := SlicesEqualFuncLLint_v1_ok hS h0 h1 hq52
  refine WL.fnq hE (hc_) (runs_plain rfl) bd61 rfl rfl rfl ?_
  clear hE hS hc_; rintro e w ⟨rfl, hS⟩; refine ⟨_, rfl, ?_⟩; clear a; intro a hE
  refine WL.vS hS hE (runs_plain rfl) (Gives.p hE rfl) rfl ?_; clear hE a; intro a hE
  refine WL.nil ?_
  refine W.ret ?_
  refine finG (fn := Try.f21) (rs := [.tmp 4]) (vs := [_]) hE rfl ⟨rfl, trivial⟩ ?_
  obtain rfl := Option.some.inj hr
  exact ⟨rfl, hS⟩
set_option maxHeartbeats 8000000 in
theorem Fishlaw2rounds_ok {fu : Nat}  {w : World} {s : Sg} {R : List HP}  (hS : St w s (R))  {r : Bool} (hr : Fishlaw2rounds fu = some r) :
    Calls Try.prog 15 [].toArray w (fun e w => e = .returned (.bool r) ∧ St w s (R)) := by
  refine enter Try.func15 rfl rfl rfl fun a hE => ?_
  rw [Fishlaw2rounds] at hr
  refine W.seq ?_
  refine W.region ?_
  refine WL.vS hS hE (runs_plain rfl) (Gives.p hE rfl) rfl ?_; clear hE a; intro a hE
  refine WL.nil ?_
  refine W.seq ?_
  refine W.region ?_
  refine WL.lit hE hS (e := 3) (es := 1) (vs := [(0, .int .i64 0), (1, .int .i64 20)]) (cs := [.int .i64 0, .int .i64 20]) (runs_plain rfl) rfl (by kernel_rfl) rfl ?_; clear hE hS a w; intro b51 a w hE hS
  replace hS := hS.ptVec (es := 1) (m := 2) rfl (by decide)
  have h53 : Ev 1 (RI .i64) s [.int .i64 0, .int .i64 20] [0, 20] := (Ev.cons (c1 := [.int .i64 0]) rfl rfl (Ev.cons (c1 := [.int .i64 20]) rfl rfl (Ev.nil)))
  have hF := hS.fixD RI.mono 0 rfl h53 (rfl); clear hS; obtain ⟨s54, hle55, hS, h56⟩ := hF
  refine WL.vS hS hE (runs_plain rfl) (Gives.build hE (vs := [(0, .int .i64 0), (1, .int .i64 1), (2, .int .i64 15)]) [.int .i64 0, .int .i64 1, .int .i64 15, .int .i64 0] rfl (by kernel_rfl)) rfl ?_; clear hE a; intro a hE
  refine WL.vS hS hE (runs_plain rfl) (Gives.build hE (vs := [(0, .int .i64 1), (1, .int .i64 0), (2, .int .i64 35), (3, .int .i64 1)]) [.int .i64 1, .int .i64 0, .int .i64 35, .int .i64 1] rfl (by kernel_rfl)) rfl ?_; clear hE a; intro a hE
  refine WL.lit hE hS (e := 36) (es := 4) (vs := [(0, .agg [.int .i64 0, .int .i64 1, .int .i64 15, .int .i64 0].toArray), (1, .agg [.int .i64 1, .int .i64 0, .int .i64 35, .int .i64 1].toArray)]) (cs := [.int .i64 0, .int .i64 1, .int .i64 15, .int .i64 0, .int .i64 1, .int .i64 0, .int .i64 35, .int .i64 1]) (runs_plain rfl) rfl (by kernel_rfl) rfl ?_; clear hE hS a w; intro b57 a w hE hS
  replace hS := hS.ptVec (es := 4) (m := 2) rfl (by decide)
  have h59 : Ev 4 RMendLink s54 [.int .i64 0, .int .i64 1, .int .i64 15, .int .i64 0, .int .i64 1, .int .i64 0, .int .i64 35, .int .i64 1] [(MendLink.mk 0 1 15 0), (MendLink.mk 1 0 35 1)] := (Ev.cons (c1 := [.int .i64 0, .int .i64 1, .int .i64 15, .int .i64 0]) rfl rfl (Ev.cons (c1 := [.int .i64 1, .int .i64 0, .int .i64 35, .int .i64 1]) rfl rfl (Ev.nil)))
  have hF := hS.fixD RMendLink.mono 0 rfl h59 (rfl); clear hS; obtain ⟨s60, hle61, hS, h62⟩ := hF
  replace h56 := Sl.mono RI.mono hle61 h56
  refine WL.vS hS hE (runs_plain rfl) (Gives.build hE (vs := [(0, .int .i64 60), (1, .slice (some ⟨b51, 0, none⟩) 2 2), (2, .slice (some ⟨b57, 0, none⟩) 2 2)]) [.int .i64 60, .slice (some ⟨b51, 0, none⟩) 2 2, .slice (some ⟨b57, 0, none⟩) 2 2] rfl (by kernel_rfl)) rfl ?_; clear hE a; intro a hE
  refine WL.alloc hE hS (runs_plain rfl) zr25 rfl ?_; clear hE hS a w; intro b63 a w hE hS
  refine WL.storeI hE hS 0 rfl [.int .i64 60, .slice (some ⟨b51, 0, none⟩) 2 2, .slice (some ⟨b57, 0, none⟩) 2 2] (runs_plain rfl) rfl rfl rfl ty25 rfl rfl rfl rfl ?_; clear hE hS a w; intro a w hE hS
  refine WL.nil ?_
  refine W.seq ?_
  refine W.region ?_
  refine WL.vS hS hE (runs_plain rfl) (Gives.loadBA hE 0 rfl rfl ty25) rfl ?_; clear hE a; intro a hE
  obtain ⟨q64, hq65, hr⟩ := bindS hr
  have hc_ := MendRoom_ok hS h56 h62 hq65
  refine WL.fnq hE (hc_) (runs_plain rfl) bd34 rfl rfl rfl ?_
  clear hE hS hc_; rintro e w ⟨a66, c67, s69, rfl, hle70, h68, hS⟩; refine ⟨_, rfl, ?_⟩; clear a; intro a hE
  replace h56 := Sl.mono RI.mono hle70 h56
  replace h62 := Sl.mono RMendLink.mono hle70 h62
  refine WL.vS hS hE (runs_plain rfl) (Gives.p hE rfl) rfl ?_; clear hE a; intro a hE
  refine WL.vS hS hE (runs_plain rfl) (Gives.p hE rfl) rfl ?_; clear hE a; intro a hE
  refine WL.vS hS hE (runs_plain rfl) (Gives.p hE rfl) rfl ?_; clear hE a; intro a hE
  refine WL.vS hS hE (runs_plain rfl) (Gives.p hE rfl) rfl ?_; clear hE a; intro a hE
  refine WL.vS hS hE (runs_plain rfl) (Gives.p hE rfl) rfl ?_; clear hE a; intro a hE
  refine WL.nil ?_
  refine W.seq ?_
  obtain ⟨q72, hq71, hr⟩ := bindS hr
  refine W.cut (fun a w => ∃ (q75 : Bool), ∃ (s73 : Sg), s69.Le s73 ∧ q75 = q72 ∧ Rep a 23 [(0, .bool q75)] ∧ St w s73 (pt b63 (.cells #[.int .i64 60, .slice (some ⟨b51, 0, none⟩) 2 2, .slice (some ⟨b57, 0, none⟩) 2 2] 25 (0, 0)) :: R)) ?_ ?_
  · refine W.gen fun K76 hK76 => ?_
    refine W.region ?_
    refine WL.vS hS hE (runs_plain rfl) (Gives.p hE rfl) rfl ?_; clear hE a; intro a hE
    refine WL.vS hS hE (runs_plain rfl) (Gives.p hE rfl) rfl ?_; clear hE a; intro a hE
    refine WL.vS hS hE (runs_plain rfl) (Gives.p hE rfl) rfl ?_; clear hE a; intro a hE
    rcases Bool.eq_false_or_eq_true (q64.2 == 0) with hg77 | hg77
    · replace hq71 := iteT hg77 hq71
      refine WL.vS hS hE (runs_if hE rfl rfl rfl hg77) (Gives.p hE rfl) rfl ?_; clear hE a; intro a hE
      refine WL.lit hE hS (e := 3) (es := 1) (vs := [(0, .int .i64 0), (1, .int .i64 5)]) (cs := [.int .i64 0, .int .i64 5]) (runs_if hE rfl rfl rfl hg77) rfl (by kernel_rfl) rfl ?_; clear hE hS a w; intro b78 a w hE hS
      replace hS := hS.ptVec (es := 1) (m := 2) rfl (by decide)
      have h80 : Ev 1 (RI .i64) s69 [.int .i64 0, .int .i64 5] [0, 5] := (Ev.cons (c1 := [.int .i64 0]) rfl rfl (Ev.cons (c1 := [.int .i64 5]) rfl rfl (Ev.nil)))
      have hF := hS.fixD RI.mono 0 rfl h80 (rfl); clear hS; obtain ⟨s81, hle82, hS, h83⟩ := hF
      replace h56 := Sl.mono RI.mono hle82 h56
      replace h62 := Sl.mono RMendLink.mono hle82 h62
      replace h68 := Sl.mono (RL.mono RI.mono) hle82 h68
      refine WL.lit hE hS (e := 3) (es := 1) (vs := [(0, .int .i64 5), (1, .int .i64 0)]) (cs := [.int .i64 5, .int .i64 0]) (runs_if hE rfl rfl rfl hg77) rfl (by kernel_rfl) rfl ?_; clear hE hS a w; intro b84 a w hE hS
      replace hS := hS.ptVec (es := 1) (m := 2) rfl (by decide)
      have h86 : Ev 1 (RI .i64) s81 [.int .i64 5, .int .i64 0] [5, 0] := (Ev.cons (c1 := [.int .i64 5]) rfl rfl (Ev.cons (c1 := [.int .i64 0]) rfl rfl (Ev.nil)))
      have hF := hS.fixD RI.mono 0 rfl h86 (rfl); clear hS; obtain ⟨s87, hle88, hS, h89⟩ := hF
      replace h56 := Sl.mono RI.mono hle88 h56
      replace h62 := Sl.mono RMendLink.mono hle88 h62
      replace h68 := Sl.mono (RL.mono RI.mono) hle88 h68
      replace h83 := Sl.mono RI.mono hle88 h83
      refine WL.lit hE hS (e := 22) (es := 1) (vs := [(0, .slice (some ⟨b78, 0, none⟩) 2 2), (1, .slice (some ⟨b84, 0, none⟩) 2 2)]) (cs := [.slice (some ⟨b78, 0, none⟩) 2 2, .slice (some ⟨b84, 0, none⟩) 2 2]) (runs_if hE rfl rfl rfl hg77) rfl (by kernel_rfl) rfl ?_; clear hE hS a w; intro b90 a w hE hS
      replace hS := hS.ptVec (es := 1) (m := 2) rfl (by decide)
      have h92 : Ev 1 (RL 1 (RI .i64)) s87 [.slice (some ⟨b78, 0, none⟩) 2 2, .slice (some ⟨b84, 0, none⟩) 2 2] [[0, 5], [5, 0]] := (Ev.cons (c1 := [.slice (some ⟨b78, 0, none⟩) 2 2]) ⟨_, _, rfl, h83⟩ rfl (Ev.cons (c1 := [.slice (some ⟨b84, 0, none⟩) 2 2]) ⟨_, _, rfl, h89⟩ rfl (Ev.nil)))
      have hF := hS.fixD (RL.mono RI.mono) 0 rfl h92 (rfl); clear hS; obtain ⟨s93, hle94, hS, h95⟩ := hF
      replace h56 := Sl.mono RI.mono hle94 h56
      replace h62 := Sl.mono RMendLink.mono hle94 h62
      replace h68 := Sl.mono (RL.mono RI.mono) hle94 h68
      replace h83 := Sl.mono RI.mono hle94 h83
      replace h89 := Sl.mono RI.mono hle94 h89
      obtain ⟨q96, hq97, hq71⟩ := bindS hq71
      have hc_ := Fishlaw2lists_ok hS h68 h95 hq97
      refine WL.fnq hE (hc_) (runs_if hE rfl rfl rfl hg77) bd21 rfl rfl rfl ?_
      clear hE hS hc_; rintro e w ⟨rfl, hS⟩; refine ⟨_, rfl, ?_⟩; clear a; intro a hE
      refine WL.vS hS hE (runs_plain rfl) (Gives.pickT hE rfl hg77 rfl) rfl ?_; clear hE a; intro a hE
      refine WL.vS hS hE (runs_plain rfl) (Gives.p hE rfl) rfl ?_; clear hE a; intro a hE
      refine WL.nil ?_
      subst hK76
      exact ⟨q96, s93, (Sg.Le.trans (Sg.Le.trans hle82 hle88) hle94), Option.some.inj hq71, hE.pick _ ⟨rfl, trivial⟩, hS⟩
    · replace hq71 := iteF hg77 hq71
      refine WL.no hE (runs_not hE rfl rfl rfl (by rw [hg77]; decide)) rfl ?_; clear hE a; intro a hE
      refine WL.no hE (runs_not hE rfl rfl rfl (by rw [hg77]; decide)) rfl ?_; clear hE a; intro a hE
      refine WL.no hE (runs_not hE rfl rfl rfl (by rw [hg77]; decide)) rfl ?_; clear hE a; intro a hE
      refine WL.no hE (runs_not hE rfl rfl rfl (by rw [hg77]; decide)) rfl ?_; clear hE a; intro a hE
      refine WL.no hE (runs_not hE rfl rfl rfl (by rw [hg77]; decide)) rfl ?_; clear hE a; intro a hE
      refine WL.vS hS hE (runs_plain rfl) (Gives.pickF hE rfl hg77 rfl) rfl ?_; clear hE a; intro a hE
      refine WL.vS hS hE (runs_plain rfl) (Gives.p hE rfl) rfl ?_; clear hE a; intro a hE
      refine WL.nil ?_
      subst hK76
      exact ⟨false, s69, (Sg.Le.refl _), Option.some.inj hq71, hE.pick _ ⟨rfl, trivial⟩, hS⟩
  · clear hE hS a w; rintro a w ⟨q75, s73, hle74, rfl, hE, hS⟩
    replace h56 := Sl.mono RI.mono hle74 h56
    replace h62 := Sl.mono RMendLink.mono hle74 h62
    refine W.ret ?_
    refine finG (fn := Try.f15) (rs := [.tmp 0]) (vs := [_]) hE rfl ⟨rfl, trivial⟩ ?_
    obtain rfl := Option.some.inj hr
    replace hS := hS.tail
    exact ⟨rfl, (hS.down (Sg.Le.trans (Sg.Le.trans (Sg.Le.trans hle55 hle61) hle70) hle74))⟩
set_option maxHeartbeats 8000000 in
theorem Fishref2common_ok : ∀ {fu : Nat} {w : World} {s : Sg} {R : List HP} {x0 : Int} {x1 : Int} (_hS : St w s (R))  {r : Int} (_hr : Fishref2common fu x0 x1 = some r),
    Calls Try.prog 86 [.int .i64 x0, .int .i64 x1].toArray w (fun e w => e = .returned (.int .i64 r) ∧ St w s (R)) := by
  intro fu
  induction fu with
  | zero => intro w s R x0 x1 hS  r hr; rw [Fishref2common] at hr; exact absurd hr (by simp)
  | succ fu ih_Fishref2common =>
    intro w s R x0 x1 hS  r hr
    rw [Fishref2common] at hr
    generalize Fishref2common fu = self_Fishref2common at hr ih_Fishref2common
    refine enter Try.func86 rfl rfl rfl fun a hE => ?_
    refine W.seq ?_
    refine W.region ?_
    refine WL.vS hS hE (runs_plain rfl) (Gives.p hE rfl) rfl ?_; clear hE a; intro a hE
    refine WL.nil ?_
    refine W.seq ?_
    refine W.seq ?_
    refine W.region ?_
    refine WL.vS hS hE (runs_plain rfl) (Gives.p hE rfl) rfl ?_; clear hE a; intro a hE
    refine WL.vS hS hE (runs_plain rfl) (Gives.p hE rfl) rfl ?_; clear hE a; intro a hE
    refine WL.nil ?_
    refine W.cond hE rfl (fun hc51 => ?_) (fun hc51 => ?_)
    · replace hr := iteT hc51 hr
      refine W.seq ?_
      refine W.region ?_
      refine WL.vS hS hE (runs_plain rfl) (Gives.p hE rfl) rfl ?_; clear hE a; intro a hE
      refine WL.vS hS hE (runs_plain rfl) (Gives.p hE rfl) rfl ?_; clear hE a; intro a hE
      refine WL.nil ?_
      refine W.ret ?_
      refine finG (fn := Try.f86) (rs := [.tmp 4]) (vs := [_]) hE rfl ⟨rfl, trivial⟩ ?_
      obtain rfl := Option.some.inj hr
      exact ⟨rfl, hS⟩
    · replace hr := iteF hc51 hr
      refine W.skip ?_
      refine W.seq ?_
      refine W.region ?_
      refine WL.vS hS hE (runs_plain rfl) (Gives.p hE rfl) rfl ?_; clear hE a; intro a hE
      refine WL.vS hS hE (runs_plain rfl) (Gives.p hE rfl) rfl ?_; clear hE a; intro a hE
      refine WL.vS hS hE (runs_plain rfl) (Gives.p hE rfl) rfl ?_; clear hE a; intro a hE
      obtain ⟨x52, hx53, hr⟩ := bindS hr
      refine WL.vS hS hE (runs_plain rfl) (Gives.rm hE rfl rfl hx53) rfl ?_; clear hE a; intro a hE
      obtain ⟨q54, hq55, hr⟩ := bindS hr
      have hc_ := ih_Fishref2common hS  hq55
      refine WL.fnq hE (hc_) (runs_plain rfl) bd86 rfl rfl rfl ?_
      clear hE hS hc_; rintro e w ⟨rfl, hS⟩; refine ⟨_, rfl, ?_⟩; clear a; intro a hE
      refine WL.vS hS hE (runs_plain rfl) (Gives.p hE rfl) rfl ?_; clear hE a; intro a hE
      refine WL.nil ?_
      refine W.ret ?_
      refine finG (fn := Try.f86) (rs := [.tmp 4]) (vs := [_]) hE rfl ⟨rfl, trivial⟩ ?_
      obtain rfl := Option.some.inj hr
      exact ⟨rfl, hS⟩
set_option maxHeartbeats 8000000 in
theorem Fishref2Lowest_ok {fu : Nat}  {w : World} {s : Sg} {R : List HP} {x0 : Int} {x1 : Int} (hS : St w s (R))  {r : Int × Int} (hr : Fishref2Lowest fu x0 x1 = some r) :
    Calls Try.prog 58 [.int .i64 x0, .int .i64 x1].toArray w (fun e w => e = .returned (.tuple #[.int .i64 r.1, .int .i64 r.2]) ∧ St w s (R)) := by
  refine enter Try.func58 rfl rfl rfl fun a hE => ?_
  rw [Fishref2Lowest] at hr
  refine W.seq ?_
  refine W.region ?_
  refine WL.vS hS hE (runs_plain rfl) (Gives.p hE rfl) rfl ?_; clear hE a; intro a hE
  refine WL.vS hS hE (runs_plain rfl) (Gives.p hE rfl) rfl ?_; clear hE a; intro a hE
  refine WL.nil ?_
  refine W.seq ?_
  refine W.region ?_
  refine WL.vS hS hE (runs_plain rfl) (Gives.p hE rfl) rfl ?_; clear hE a; intro a hE
  refine WL.vS hS hE (runs_plain rfl) (Gives.p hE rfl) rfl ?_; clear hE a; intro a hE
  obtain ⟨q51, hq52, hr⟩ := bindS hr
  have hc_ := Fishref2common_ok hS  hq52
  refine WL.fnq hE (hc_) (runs_plain rfl) bd86 rfl rfl rfl ?_
  clear hE hS hc_; rintro e w ⟨rfl, hS⟩; refine ⟨_, rfl, ?_⟩; clear a; intro a hE
  refine WL.vS hS hE (runs_plain rfl) (Gives.p hE rfl) rfl ?_; clear hE a; intro a hE
  refine WL.nil ?_
  refine W.seq ?_
  refine W.regionQ (C := fun w => St w s (R)) mixed (by kernel_rfl) hS.drew ?_
  refine QL.v hE (runs_plain rfl) (Gives.p hE rfl) rfl ?_; clear hE a; intro a hE
  refine QL.v hE (runs_plain rfl) (Gives.p hE rfl) rfl ?_; clear hE a; intro a hE
  obtain ⟨x53, hx54, hr⟩ := bindS hr
  refine QL.v hE (runs_plain rfl) (Gives.dv hE rfl rfl hx54) rfl ?_; clear hE a; intro a hE
  refine QL.v hE (runs_plain rfl) (Gives.p hE rfl) rfl ?_; clear hE a; intro a hE
  refine QL.v hE (runs_plain rfl) (Gives.p hE rfl) rfl ?_; clear hE a; intro a hE
  obtain ⟨x55, hx56, hr⟩ := bindS hr
  refine QL.v hE (runs_plain rfl) (Gives.dv hE rfl rfl hx56) rfl ?_; clear hE a; intro a hE
  refine QL.v hE (runs_plain rfl) (Gives.p hE rfl) rfl ?_; clear hE a; intro a hE
  refine QL.v hE (runs_plain rfl) (Gives.p hE rfl) rfl ?_; clear hE a; intro a hE
  refine QL.nil ?_; clear hS w; intro w hS
  refine W.ret ?_
  refine finG (fn := Try.f58) (rs := [.tmp 4, .tmp 5]) (vs := [_, _]) hE rfl ⟨rfl, rfl, trivial⟩ ?_
  obtain rfl := Option.some.inj hr
  exact ⟨rfl, hS⟩
set_option maxHeartbeats 8000000 in
theorem Fishref2MeanOf_ok {fu : Nat}  {w : World} {s : Sg} {R : List HP} {x0 : MendRound} {a0_0 : Option Addr} {c0_0 : Nat} {a0_1 : Option Addr} {c0_1 : Nat} (hS : St w s (R)) (h0_0 : Sl 1 (RI .i64) s a0_0 c0_0 x0.Plan) (h0_1 : Sl 4 RMendLink s a0_1 c0_1 x0.Links) {r : Int × Int × Bool} (hr : Fishref2MeanOf fu x0 = some r) :
    Calls Try.prog 17 [.agg [.int .i64 x0.Period, .slice a0_0 x0.Plan.length c0_0, .slice a0_1 x0.Links.length c0_1].toArray].toArray w (fun e w => e = .returned (.tuple #[.int .i64 r.1, .int .i64 r.2.1, .bool r.2.2]) ∧ St w s (R)) := by
  refine enter Try.func17 rfl rfl rfl fun a hE => ?_
  rw [Fishref2MeanOf] at hr
  refine W.seq ?_
  refine W.region ?_
  refine WL.box hE hS (runs_plain rfl) rfl rfl rfl ?_; clear hE hS a w; intro b51 a w hE hS
  refine WL.vS hS hE (runs_plain rfl) (Gives.p hE rfl) rfl ?_; clear hE a; intro a hE
  refine WL.vS hS hE (runs_plain rfl) (Gives.p hE rfl) rfl ?_; clear hE a; intro a hE
  refine WL.vS hS hE (runs_plain rfl) (Gives.p hE rfl) rfl ?_; clear hE a; intro a hE
  refine WL.nil ?_
  refine W.seq ?_
  refine W.region ?_
  refine WL.vS hS hE (runs_plain rfl) (Gives.fld hE rfl fl25_1) rfl ?_; clear hE a; intro a hE
  refine WL.vS hS hE (runs_plain rfl) (Gives.loadB hE 0 rfl rfl rfl ty22) rfl ?_; clear hE a; intro a hE
  refine WL.vS hS hE (runs_plain rfl) (Gives.len hE rfl sl22) rfl ?_; clear hE a; intro a hE
  refine WL.vS hS hE (runs_plain rfl) (Gives.p hE rfl) rfl ?_; clear hE a; intro a hE
  refine WL.nil ?_
  refine W.seq ?_
  refine W.region ?_
  refine WL.vS hS hE (runs_plain rfl) (Gives.p hE rfl) rfl ?_; clear hE a; intro a hE
  refine WL.vS hS hE (runs_plain rfl) (Gives.p hE rfl) rfl ?_; clear hE a; intro a hE
  refine WL.vS hS hE (runs_plain rfl) (Gives.p hE rfl) rfl ?_; clear hE a; intro a hE
  refine WL.nil ?_
  refine W.seq ?_
  refine W.seq ?_
  refine W.region ?_
  refine WL.vS hS hE (runs_plain rfl) (Gives.p hE rfl) rfl ?_; clear hE a; intro a hE
  refine WL.vS hS hE (runs_plain rfl) (Gives.p hE rfl) rfl ?_; clear hE a; intro a hE
  refine WL.nil ?_
  obtain ⟨q53, hq52, hr⟩ := bindS hr
  refine W.cut (fun a w => ∃ (q63 : Int), ∃ (q64 : Int), ∃ (q65 : Bool), ∃ (s61 : Sg), s.Le s61 ∧ (q63, q64, q65) = q53 ∧ Rep a 163 [(2, .int .i64 q63), (3, .int .i64 q64), (4, .bool q65)] ∧ St w s61 (pt b51 (.cells #[.int .i64 x0.Period, .slice a0_0 x0.Plan.length c0_0, .slice a0_1 x0.Links.length c0_1] 25 (0, 0)) :: R)) ?_ ?_
  · refine W.block ?_
    refine W.loop (fun m a w => ∃ (rest56 : List Int) (k54 : Nat), ∃ (q63 : Int), ∃ (q64 : Int), ∃ (q65 : Bool), ∃ (s61 : Sg), rest56.length = m ∧ x0.Plan.drop k54 = rest56 ∧ s.Le s61 ∧ Fishref2MeanOf.loop1 x0 fu rest56 k54 q63 q64 q65 = some q53 ∧ Rep a 163 [(1, .pointer (some ⟨b51, 0, none⟩)), (2, .int .i64 q63), (3, .int .i64 q64), (4, .bool q65), (5, .int .i64 ((x0.Plan).length : Int)), (6, .int .i64 (w64 (((x0.Plan).length : Int) * 3))), (23, .int .i64 ((x0.Plan).length : Int)), (24, .int .i64 ((k54 : Nat) : Int))] ∧ St w s61 (pt b51 (.cells #[.int .i64 x0.Period, .slice a0_0 x0.Plan.length c0_0, .slice a0_1 x0.Links.length c0_1] 25 (0, 0)) :: R)) (m := x0.Plan.length) ⟨x0.Plan, 0, 0, 0, false, s, rfl, rfl, (Sg.Le.refl _), hq52, hE.pick _ ⟨rfl, rfl, rfl, rfl, rfl, rfl, rfl, rfl, trivial⟩, hS⟩ ?_
    clear hE hS a w hq52; rintro m60 a w ⟨rest56, k54, q63, q64, q65, s61, rfl, hd57, hle62, hq52, hE, hS⟩
    refine W.gen fun K66 hK66 => ?_
    replace h0_0 := Sl.mono RI.mono hle62 h0_0
    replace h0_1 := Sl.mono RMendLink.mono hle62 h0_1
    rcases rest56 with _ | ⟨x55, rest56⟩
    · have hlt58 := drop_nil hd57
      refine W.seq ?_
      refine W.region ?_
      refine WL.vS hS hE (runs_plain rfl) (Gives.p hE rfl) rfl ?_; clear hE a; intro a hE
      refine WL.nil ?_
      refine W.seq ?_
      refine W.condF hE rfl (decide_eq_false (by omega)) ?_
      subst hK66
      refine W.exit rfl ?_
      exact ⟨q63, q64, q65, s61, hle62, Option.some.inj hq52, hE.pick _ ⟨rfl, rfl, rfl, trivial⟩, hS⟩
    · obtain ⟨hlt58, hx59, hd57⟩ := drop_cons hd57
      rw [Fishref2MeanOf.loop1] at hq52
      refine W.seq ?_
      refine W.region ?_
      refine WL.vS hS hE (runs_plain rfl) (Gives.p hE rfl) rfl ?_; clear hE a; intro a hE
      refine WL.nil ?_
      refine W.seq ?_
      refine W.condT hE rfl (decide_eq_true (by omega)) ?_
      refine W.skip ?_
      refine W.seq ?_
      refine W.block ?_
      refine W.seq ?_
      refine W.region ?_
      refine WL.vS hS hE (runs_plain rfl) (Gives.p hE rfl) rfl ?_; clear hE a; intro a hE
      refine WL.vS hS hE (runs_plain rfl) (Gives.p hE rfl) rfl ?_; clear hE a; intro a hE
      refine WL.nil ?_
      refine W.seq ?_
      refine W.region ?_
      refine WL.vS hS hE (runs_plain rfl) (Gives.p hE rfl) rfl ?_; clear hE a; intro a hE
      obtain ⟨x67, hx68, hq52⟩ := bindS hq52
      refine WL.mkND (Rr := RI .i64) (Ti := 3) (es := 1) hE hS (runs_plain rfl) rfl rfl ap40 zr22 hx68 rfl ?_; clear hE hS a w; intro b69 ds70 a w h71 hE hS
      refine WL.vS hS hE (runs_plain rfl) (Gives.p hE rfl) rfl ?_; clear hE a; intro a hE
      refine WL.nil ?_
      refine W.seq ?_
      refine W.seq ?_
      refine W.region ?_
      refine WL.vS hS hE (runs_plain rfl) (Gives.p hE rfl) rfl ?_; clear hE a; intro a hE
      refine WL.vS hS hE (runs_plain rfl) (Gives.len hE rfl sl40) rfl ?_; clear hE a; intro a hE
      refine WL.vS hS hE (runs_plain rfl) (Gives.p hE rfl) rfl ?_; clear hE a; intro a hE
      refine WL.nil ?_
      have hb84 : x67.length ≤ 9223372036854775807 := by have := hS.nCap 0 rfl; unfold maxLen at this; omega
      obtain ⟨q74, hq73, hq52⟩ := bindS hq52
      refine W.cut (fun a w => ∃ (q85 : List (List Int)), ∃ (ds89 : List In), ∃ (s82 : Sg), s61.Le s82 ∧ q85 = q74 ∧ NEv 1 (RI .i64) s82 ds89 q85 ∧ q85.length = x67.length ∧ Rep a 163 [(1, .pointer (some ⟨b51, 0, none⟩)), (2, .int .i64 q63), (3, .int .i64 q64), (4, .bool q65), (5, .int .i64 ((x0.Plan).length : Int)), (6, .int .i64 (w64 (((x0.Plan).length : Int) * 3))), (7, .int .i64 ((k54 : Nat) : Int)), (8, .slice (some ⟨b69, 0, none⟩) x67.length x67.length), (23, .int .i64 ((x0.Plan).length : Int)), (24, .int .i64 ((k54 : Nat) : Int))] ∧ St w s82 (nestC 22 3 1 (some ⟨b69, 0, none⟩) x67.length x67.length ds89 :: pt b51 (.cells #[.int .i64 x0.Period, .slice a0_0 x0.Plan.length c0_0, .slice a0_1 x0.Links.length c0_1] 25 (0, 0)) :: R)) ?_ ?_
      · refine W.block ?_
        refine W.loop (fun m a w => ∃ (rest77 : Nat) (k75 : Nat), ∃ (q85 : List (List Int)), ∃ (ds89 : List In), ∃ (s82 : Sg), rest77 = m ∧ k75 + rest77 = x67.length ∧ s61.Le s82 ∧ Fishref2MeanOf.loop2 x0 fu rest77 k75 q85 = some q74 ∧ NEv 1 (RI .i64) s82 ds89 q85 ∧ q85.length = x67.length ∧ Rep a 163 [(1, .pointer (some ⟨b51, 0, none⟩)), (2, .int .i64 q63), (3, .int .i64 q64), (4, .bool q65), (5, .int .i64 ((x0.Plan).length : Int)), (6, .int .i64 (w64 (((x0.Plan).length : Int) * 3))), (7, .int .i64 ((k54 : Nat) : Int)), (8, .slice (some ⟨b69, 0, none⟩) x67.length x67.length), (23, .int .i64 ((x0.Plan).length : Int)), (24, .int .i64 ((k54 : Nat) : Int)), (30, .int .i64 ((x67.length : Nat) : Int)), (31, .int .i64 ((k75 : Nat) : Int))] ∧ St w s82 (nestC 22 3 1 (some ⟨b69, 0, none⟩) x67.length x67.length ds89 :: pt b51 (.cells #[.int .i64 x0.Period, .slice a0_0 x0.Plan.length c0_0, .slice a0_1 x0.Links.length c0_1] 25 (0, 0)) :: R)) (m := x67.length) ⟨x67.length, 0, x67, ds70, s61, rfl, by omega, (Sg.Le.refl _), hq73, h71, (rfl), hE.pick _ ⟨rfl, rfl, rfl, rfl, rfl, rfl, rfl, rfl, rfl, rfl, rfl, rfl, trivial⟩, hS⟩ ?_
        clear hE hS a w hq73; rintro m81 a w ⟨rest77, k75, q85, ds89, s82, rfl, hd78, hle83, hq73, h90, hn91, hE, hS⟩
        refine W.gen fun K92 hK92 => ?_
        replace h71 := NEv.mono RI.mono hle83 h71
        replace h0_0 := Sl.mono RI.mono hle83 h0_0
        replace h0_1 := Sl.mono RMendLink.mono hle83 h0_1
        rcases rest77 with _ | rest77
        · skip
          refine W.seq ?_
          refine W.region ?_
          refine WL.vS hS hE (runs_plain rfl) (Gives.p hE rfl) rfl ?_; clear hE a; intro a hE
          refine WL.nil ?_
          refine W.seq ?_
          refine W.condF hE rfl (decide_eq_false (by omega)) ?_
          subst hK92
          refine W.exit rfl ?_
          exact ⟨q85, ds89, s82, hle83, Option.some.inj hq73, h90, hn91, hE.pick _ ⟨rfl, rfl, rfl, rfl, rfl, rfl, rfl, rfl, rfl, rfl, trivial⟩, hS⟩
        · have hlt79 : k75 < x67.length := by omega
          rw [Fishref2MeanOf.loop2] at hq73
          refine W.seq ?_
          refine W.region ?_
          refine WL.vS hS hE (runs_plain rfl) (Gives.p hE rfl) rfl ?_; clear hE a; intro a hE
          refine WL.nil ?_
          refine W.seq ?_
          refine W.condT hE rfl (decide_eq_true (by omega)) ?_
          refine W.skip ?_
          refine W.seq ?_
          refine W.block ?_
          refine W.seq ?_
          refine W.region ?_
          refine WL.vS hS hE (runs_plain rfl) (Gives.p hE rfl) rfl ?_; clear hE a; intro a hE
          refine WL.vS hS hE (runs_plain rfl) (Gives.p hE rfl) rfl ?_; clear hE a; intro a hE
          refine WL.nil ?_
          refine W.region ?_
          refine WL.vS hS hE (runs_plain rfl) (Gives.p hE rfl) rfl ?_; clear hE a; intro a hE
          refine WL.vS hS hE (runs_plain rfl) (Gives.p hE rfl) rfl ?_; clear hE a; intro a hE
          refine WL.lit hE hS (e := 3) (es := 1) (vs := [(0, .int .i64 (-1))]) (cs := [.int .i64 (-1)]) (runs_plain rfl) rfl (by kernel_rfl) rfl ?_; clear hE hS a w; intro b93 a w hE hS
          replace hS := hS.ptVec (es := 1) (m := 1) rfl (by decide)
          have h95 : Ev 1 (RI .i64) s82 [.int .i64 (-1)] [(-1)] := (Ev.cons (c1 := [.int .i64 (-1)]) rfl rfl (Ev.nil))
          have hF := hS.fixD RI.mono 0 rfl h95 (rfl); clear hS; obtain ⟨s96, hle97, hS, h98⟩ := hF
          replace h90 := NEv.mono RI.mono hle97 h90
          replace h0_0 := Sl.mono RI.mono hle97 h0_0
          replace h0_1 := Sl.mono RMendLink.mono hle97 h0_1
          refine WL.vS hS hE (runs_plain rfl) (Gives.p hE rfl) rfl ?_; clear hE a; intro a hE
          refine WL.vS hS hE (runs_plain rfl) (Gives.p hE rfl) rfl ?_; clear hE a; intro a hE
          obtain ⟨q99, hq100, hq73⟩ := bindS hq73
          have hc_ := SlicesRepeatLint_ok hS h98 hq100
          refine WL.fnq hE (hc_) (runs_plain rfl) bd57 rfl rfl rfl ?_
          clear hE hS hc_; rintro e w ⟨a101, c102, n103, cs104, rfl, h105, rfl, hS⟩; refine ⟨_, rfl, ?_⟩; clear a; intro a hE
          obtain ⟨_, hx107, hq73⟩ := bindS hq73
          obtain ⟨h108, h109⟩ := ix_some hx107
          refine WL.vS hS hE (runs_plain rfl) (Gives.idx hE ((((k75 : Nat) : Int)).toNat) rfl rfl sl40 h108 (by have := hn91; omega) (hS.nAok 1 rfl (by have := hn91; omega : (((k75 : Nat) : Int)).toNat < x67.length))) rfl ?_; clear hE a; intro a hE
          obtain ⟨d110, hd111⟩ : ∃ d, ds89[(((k75 : Nat) : Int)).toNat]? = some d := ⟨_, List.getElem?_eq_getElem (by have h1 := h90.len; have h2 := hn91; omega)⟩
          replace hS := (hS.borrow 1 rfl hd111).tail
          obtain ⟨x112, hx113, hq73⟩ := bindS hq73
          refine WL.storeND hE hS 0 rfl (runs_plain rfl) rfl rfl ty22 h90 hn91 (by have := (sx_some hx113).1; omega) hx113 h105 rfl rfl ?_; clear hE hS a w; intro ds114 a w h115 hn116 hE hS
          refine WL.nil ?_
          refine W.region ?_
          refine WL.vS hS hE (runs_plain rfl) (Gives.inc hE rfl (by omega)) rfl ?_; clear hE a; intro a hE
          refine WL.vS hS hE (runs_plain rfl) (Gives.p hE rfl) rfl ?_; clear hE a; intro a hE
          refine WL.nil ?_
          subst hK92
          exact ⟨rest77, Nat.lt_succ_self _, rest77, k75 + 1, x112, ds114, s96, rfl, (by omega), (Sg.Le.trans hle83 hle97), hq73, h115, hn116, hE.pick _ ⟨rfl, rfl, rfl, rfl, rfl, rfl, rfl, rfl, rfl, rfl, rfl, rfl, trivial⟩, hS⟩
      · clear hE hS a w; rintro a w ⟨q85, ds89, s82, hle83, rfl, h90, hn91, hE, hS⟩
        replace h71 := NEv.mono RI.mono hle83 h71
        replace h0_0 := Sl.mono RI.mono hle83 h0_0
        replace h0_1 := Sl.mono RMendLink.mono hle83 h0_1
        refine W.seq ?_
        refine W.region ?_
        refine WL.vS hS hE (runs_plain rfl) (Gives.p hE rfl) rfl ?_; clear hE a; intro a hE
        refine WL.vS hS hE (runs_plain rfl) (Gives.p hE rfl) rfl ?_; clear hE a; intro a hE
        obtain ⟨x117, hx118, hq52⟩ := bindS hq52
        obtain ⟨hi119, hlt120, hy121⟩ := gx_some hx118
        obtain ⟨a122, c123, cs124, hd125, hev126⟩ := h90.at hy121
        refine WL.vS hS hE (runs_plain rfl) (Gives.idx hE ((((k54 : Nat) : Int)).toNat) rfl rfl sl40 hi119 (by have := hn91; omega) (hS.nAok 0 rfl (by have := hn91; omega : (((k54 : Nat) : Int)).toNat < x67.length))) rfl ?_; clear hE a; intro a hE
        refine WL.vS hS hE (runs_plain rfl) (Gives.load1 (v := .slice a122 x117.length c123) hE rfl (fun w h => St.nSees h 0 rfl hd125) ty22) rfl ?_; clear hE a; intro a hE
        replace hS := hS.borrowM 0 rfl hd125
        obtain ⟨_, hx129, hq52⟩ := bindS hq52
        obtain ⟨h130, h131⟩ := ix_some hx129
        refine WL.vS hS hE (runs_plain rfl) (Gives.idx hE (((0 : Int)).toNat) rfl rfl sl22 h130 (by omega) (hS.vecAok 0 rfl (by omega : ((0 : Int)).toNat < x117.length))) rfl ?_; clear hE a; intro a hE
        obtain ⟨x133, hx134, hq52⟩ := bindS hq52
        refine WL.setD hE hS 0 rfl (runs_plain rfl) rfl rfl (vs := [.int .i64 0]) rfl ty3 rfl rfl rfl hev126 (rfl) (sx_some hx134).1 hx134 rfl rfl ?_; clear hE hS a w; intro cs135 a w h136 hn137 hE hS
        refine WL.nil ?_
        refine W.seq ?_
        refine W.region ?_
        refine WL.vS hS hE (runs_plain rfl) (Gives.p hE rfl) rfl ?_; clear hE a; intro a hE
        refine WL.vS hS hE (runs_plain rfl) (Gives.p hE rfl) rfl ?_; clear hE a; intro a hE
        refine WL.nil ?_
        replace hS := hS.giveBack 0 rfl hd125
        have h139 := h90.set (k := (((k54 : Nat) : Int)).toNat) (d := ⟨a122, c123, x117.length, cs135⟩) h136 hn137
        have hn140 : (q85.set ((((k54 : Nat) : Int)).toNat) x133).length = x67.length := by simp; exact hn91
        generalize List.set ds89 ((((k54 : Nat) : Int)).toNat) _ = ds138 at hS h139
        obtain ⟨q142, hq141, hq52⟩ := bindS hq52
        refine W.cut (fun a w => ∃ (q152 : Int), ∃ (q153 : Int), ∃ (q154 : Bool), ∃ (q155 : List (List Int)), ∃ (a156 : Option Addr), ∃ (c157 : Nat), ∃ (n158 : Nat), ∃ (ds159 : List In), ∃ (s150 : Sg), s82.Le s150 ∧ (q152, q153, q154, q155) = q142 ∧ NEv 1 (RI .i64) s150 ds159 q155 ∧ q155.length = n158 ∧ Rep a 163 [(1, .pointer (some ⟨b51, 0, none⟩)), (2, .int .i64 q152), (3, .int .i64 q153), (4, .bool q154), (5, .int .i64 ((x0.Plan).length : Int)), (6, .int .i64 (w64 (((x0.Plan).length : Int) * 3))), (23, .int .i64 ((x0.Plan).length : Int)), (24, .int .i64 ((k54 : Nat) : Int))] ∧ St w s150 (nestC 22 3 1 a156 c157 n158 ds159 :: pt b51 (.cells #[.int .i64 x0.Period, .slice a0_0 x0.Plan.length c0_0, .slice a0_1 x0.Links.length c0_1] 25 (0, 0)) :: R)) ?_ ?_
        · refine W.block ?_
          refine W.loop (fun m a w => ∃ (rest145 : List Int) (k143 : Nat), ∃ (q152 : Int), ∃ (q153 : Int), ∃ (q154 : Bool), ∃ (q155 : List (List Int)), ∃ (a156 : Option Addr), ∃ (c157 : Nat), ∃ (n158 : Nat), ∃ (ds159 : List In), ∃ (s150 : Sg), rest145.length = m ∧ x0.Plan.drop k143 = rest145 ∧ s82.Le s150 ∧ Fishref2MeanOf.loop3 x0 fu k54 rest145 q152 q153 q154 q155 = some q142 ∧ NEv 1 (RI .i64) s150 ds159 q155 ∧ q155.length = n158 ∧ Rep a 163 [(1, .pointer (some ⟨b51, 0, none⟩)), (2, .int .i64 q152), (3, .int .i64 q153), (4, .bool q154), (5, .int .i64 ((x0.Plan).length : Int)), (6, .int .i64 (w64 (((x0.Plan).length : Int) * 3))), (7, .int .i64 ((k54 : Nat) : Int)), (8, .slice a156 n158 c157), (23, .int .i64 ((x0.Plan).length : Int)), (24, .int .i64 ((k54 : Nat) : Int)), (47, .int .i64 ((x0.Plan).length : Int)), (48, .int .i64 ((k143 : Nat) : Int))] ∧ St w s150 (nestC 22 3 1 a156 c157 n158 ds159 :: pt b51 (.cells #[.int .i64 x0.Period, .slice a0_0 x0.Plan.length c0_0, .slice a0_1 x0.Links.length c0_1] 25 (0, 0)) :: R)) (m := x0.Plan.length) ⟨x0.Plan, 0, q63, q64, q65, (q85.set ((((k54 : Nat) : Int)).toNat) x133), (some ⟨b69, 0, none⟩), x67.length, x67.length, ds138, s82, rfl, rfl, (Sg.Le.refl _), hq141, h139, hn140, hE.pick _ ⟨rfl, rfl, rfl, rfl, rfl, rfl, rfl, rfl, rfl, rfl, rfl, rfl, trivial⟩, hS⟩ ?_
          clear hE hS a w hq141; rintro m149 a w ⟨rest145, k143, q152, q153, q154, q155, a156, c157, n158, ds159, s150, rfl, hd146, hle151, hq141, h160, rfl, hE, hS⟩
          refine W.gen fun K162 hK162 => ?_
          replace h139 := NEv.mono RI.mono hle151 h139
          replace h0_0 := Sl.mono RI.mono hle151 h0_0
          replace h0_1 := Sl.mono RMendLink.mono hle151 h0_1
          rcases rest145 with _ | ⟨x144, rest145⟩
          · have hlt147 := drop_nil hd146
            refine W.seq ?_
            refine W.region ?_
            refine WL.vS hS hE (runs_plain rfl) (Gives.p hE rfl) rfl ?_; clear hE a; intro a hE
            refine WL.nil ?_
            refine W.seq ?_
            refine W.condF hE rfl (decide_eq_false (by omega)) ?_
            subst hK162
            refine W.exit rfl ?_
            exact ⟨q152, q153, q154, q155, a156, c157, q155.length, ds159, s150, hle151, Option.some.inj hq141, h160, rfl, hE.pick _ ⟨rfl, rfl, rfl, rfl, rfl, rfl, rfl, rfl, trivial⟩, hS⟩
          · obtain ⟨hlt147, hx148, hd146⟩ := drop_cons hd146
            rw [Fishref2MeanOf.loop3] at hq141
            refine W.seq ?_
            refine W.region ?_
            refine WL.vS hS hE (runs_plain rfl) (Gives.p hE rfl) rfl ?_; clear hE a; intro a hE
            refine WL.nil ?_
            refine W.seq ?_
            refine W.condT hE rfl (decide_eq_true (by omega)) ?_
            refine W.skip ?_
            refine W.seq ?_
            refine W.block ?_
            refine W.seq ?_
            refine W.region ?_
            refine WL.vS hS hE (runs_plain rfl) (Gives.p hE rfl) rfl ?_; clear hE a; intro a hE
            obtain ⟨x163, hx164, hq141⟩ := bindS hq141
            refine WL.mkND (Rr := RI .i64) (Ti := 3) (es := 1) hE hS (runs_plain rfl) rfl rfl ap40 zr22 hx164 rfl ?_; clear hE hS a w; intro b165 ds166 a w h167 hE hS
            refine WL.vS hS hE (runs_plain rfl) (Gives.p hE rfl) rfl ?_; clear hE a; intro a hE
            refine WL.nil ?_
            refine W.seq ?_
            refine W.seq ?_
            refine W.region ?_
            refine WL.vS hS hE (runs_plain rfl) (Gives.p hE rfl) rfl ?_; clear hE a; intro a hE
            refine WL.vS hS hE (runs_plain rfl) (Gives.len hE rfl sl40) rfl ?_; clear hE a; intro a hE
            refine WL.vS hS hE (runs_plain rfl) (Gives.p hE rfl) rfl ?_; clear hE a; intro a hE
            refine WL.nil ?_
            have hb180 : x163.length ≤ 9223372036854775807 := by have := hS.nCap 0 rfl; unfold maxLen at this; omega
            obtain ⟨q170, hq169, hq141⟩ := bindS hq141
            refine W.cut (fun a w => ∃ (q181 : List (List Int)), ∃ (ds185 : List In), ∃ (s178 : Sg), s150.Le s178 ∧ q181 = q170 ∧ NEv 1 (RI .i64) s178 ds185 q181 ∧ q181.length = x163.length ∧ Rep a 163 [(1, .pointer (some ⟨b51, 0, none⟩)), (2, .int .i64 q152), (3, .int .i64 q153), (4, .bool q154), (5, .int .i64 ((x0.Plan).length : Int)), (6, .int .i64 (w64 (((x0.Plan).length : Int) * 3))), (7, .int .i64 ((k54 : Nat) : Int)), (8, .slice a156 q155.length c157), (10, .slice (some ⟨b165, 0, none⟩) x163.length x163.length), (23, .int .i64 ((x0.Plan).length : Int)), (24, .int .i64 ((k54 : Nat) : Int)), (47, .int .i64 ((x0.Plan).length : Int)), (48, .int .i64 ((k143 : Nat) : Int))] ∧ St w s178 (nestC 22 3 1 (some ⟨b165, 0, none⟩) x163.length x163.length ds185 :: nestC 22 3 1 a156 c157 q155.length ds159 :: pt b51 (.cells #[.int .i64 x0.Period, .slice a0_0 x0.Plan.length c0_0, .slice a0_1 x0.Links.length c0_1] 25 (0, 0)) :: R)) ?_ ?_
            · refine W.block ?_
              refine W.loop (fun m a w => ∃ (rest173 : Nat) (k171 : Nat), ∃ (q181 : List (List Int)), ∃ (ds185 : List In), ∃ (s178 : Sg), rest173 = m ∧ k171 + rest173 = x163.length ∧ s150.Le s178 ∧ Fishref2MeanOf.loop4 x0 fu rest173 k171 q181 = some q170 ∧ NEv 1 (RI .i64) s178 ds185 q181 ∧ q181.length = x163.length ∧ Rep a 163 [(1, .pointer (some ⟨b51, 0, none⟩)), (2, .int .i64 q152), (3, .int .i64 q153), (4, .bool q154), (5, .int .i64 ((x0.Plan).length : Int)), (6, .int .i64 (w64 (((x0.Plan).length : Int) * 3))), (7, .int .i64 ((k54 : Nat) : Int)), (8, .slice a156 q155.length c157), (10, .slice (some ⟨b165, 0, none⟩) x163.length x163.length), (23, .int .i64 ((x0.Plan).length : Int)), (24, .int .i64 ((k54 : Nat) : Int)), (47, .int .i64 ((x0.Plan).length : Int)), (48, .int .i64 ((k143 : Nat) : Int)), (53, .int .i64 ((x163.length : Nat) : Int)), (54, .int .i64 ((k171 : Nat) : Int))] ∧ St w s178 (nestC 22 3 1 (some ⟨b165, 0, none⟩) x163.length x163.length ds185 :: nestC 22 3 1 a156 c157 q155.length ds159 :: pt b51 (.cells #[.int .i64 x0.Period, .slice a0_0 x0.Plan.length c0_0, .slice a0_1 x0.Links.length c0_1] 25 (0, 0)) :: R)) (m := x163.length) ⟨x163.length, 0, x163, ds166, s150, rfl, by omega, (Sg.Le.refl _), hq169, h167, (rfl), hE.pick _ ⟨rfl, rfl, rfl, rfl, rfl, rfl, rfl, rfl, rfl, rfl, rfl, rfl, rfl, rfl, rfl, trivial⟩, hS⟩ ?_
              clear hE hS a w hq169; rintro m177 a w ⟨rest173, k171, q181, ds185, s178, rfl, hd174, hle179, hq169, h186, hn187, hE, hS⟩
              refine W.gen fun K188 hK188 => ?_
              replace h167 := NEv.mono RI.mono hle179 h167
              replace h160 := NEv.mono RI.mono hle179 h160
              replace h0_0 := Sl.mono RI.mono hle179 h0_0
              replace h0_1 := Sl.mono RMendLink.mono hle179 h0_1
              rcases rest173 with _ | rest173
              · skip
                refine W.seq ?_
                refine W.region ?_
                refine WL.vS hS hE (runs_plain rfl) (Gives.p hE rfl) rfl ?_; clear hE a; intro a hE
                refine WL.nil ?_
                refine W.seq ?_
                refine W.condF hE rfl (decide_eq_false (by omega)) ?_
                subst hK188
                refine W.exit rfl ?_
                exact ⟨q181, ds185, s178, hle179, Option.some.inj hq169, h186, hn187, hE.pick _ ⟨rfl, rfl, rfl, rfl, rfl, rfl, rfl, rfl, rfl, rfl, rfl, rfl, rfl, trivial⟩, hS⟩
              · have hlt175 : k171 < x163.length := by omega
                rw [Fishref2MeanOf.loop4] at hq169
                refine W.seq ?_
                refine W.region ?_
                refine WL.vS hS hE (runs_plain rfl) (Gives.p hE rfl) rfl ?_; clear hE a; intro a hE
                refine WL.nil ?_
                refine W.seq ?_
                refine W.condT hE rfl (decide_eq_true (by omega)) ?_
                refine W.skip ?_
                refine W.seq ?_
                refine W.block ?_
                refine W.seq ?_
                refine W.region ?_
                refine WL.vS hS hE (runs_plain rfl) (Gives.p hE rfl) rfl ?_; clear hE a; intro a hE
                refine WL.vS hS hE (runs_plain rfl) (Gives.p hE rfl) rfl ?_; clear hE a; intro a hE
                refine WL.nil ?_
                refine W.region ?_
                refine WL.vS hS hE (runs_plain rfl) (Gives.p hE rfl) rfl ?_; clear hE a; intro a hE
                refine WL.vS hS hE (runs_plain rfl) (Gives.p hE rfl) rfl ?_; clear hE a; intro a hE
                refine WL.lit hE hS (e := 3) (es := 1) (vs := [(0, .int .i64 (-1))]) (cs := [.int .i64 (-1)]) (runs_plain rfl) rfl (by kernel_rfl) rfl ?_; clear hE hS a w; intro b189 a w hE hS
                replace hS := hS.ptVec (es := 1) (m := 1) rfl (by decide)
                have h191 : Ev 1 (RI .i64) s178 [.int .i64 (-1)] [(-1)] := (Ev.cons (c1 := [.int .i64 (-1)]) rfl rfl (Ev.nil))
                have hF := hS.fixD RI.mono 0 rfl h191 (rfl); clear hS; obtain ⟨s192, hle193, hS, h194⟩ := hF
                replace h186 := NEv.mono RI.mono hle193 h186
                replace h160 := NEv.mono RI.mono hle193 h160
                replace h0_0 := Sl.mono RI.mono hle193 h0_0
                replace h0_1 := Sl.mono RMendLink.mono hle193 h0_1
                refine WL.vS hS hE (runs_plain rfl) (Gives.p hE rfl) rfl ?_; clear hE a; intro a hE
                refine WL.vS hS hE (runs_plain rfl) (Gives.p hE rfl) rfl ?_; clear hE a; intro a hE
                obtain ⟨q195, hq196, hq169⟩ := bindS hq169
                have hc_ := SlicesRepeatLint_ok hS h194 hq196
                refine WL.fnq hE (hc_) (runs_plain rfl) bd57 rfl rfl rfl ?_
                clear hE hS hc_; rintro e w ⟨a197, c198, n199, cs200, rfl, h201, rfl, hS⟩; refine ⟨_, rfl, ?_⟩; clear a; intro a hE
                obtain ⟨_, hx203, hq169⟩ := bindS hq169
                obtain ⟨h204, h205⟩ := ix_some hx203
                refine WL.vS hS hE (runs_plain rfl) (Gives.idx hE ((((k171 : Nat) : Int)).toNat) rfl rfl sl40 h204 (by have := hn187; omega) (hS.nAok 1 rfl (by have := hn187; omega : (((k171 : Nat) : Int)).toNat < x163.length))) rfl ?_; clear hE a; intro a hE
                obtain ⟨d206, hd207⟩ : ∃ d, ds185[(((k171 : Nat) : Int)).toNat]? = some d := ⟨_, List.getElem?_eq_getElem (by have h1 := h186.len; have h2 := hn187; omega)⟩
                replace hS := (hS.borrow 1 rfl hd207).tail
                obtain ⟨x208, hx209, hq169⟩ := bindS hq169
                refine WL.storeND hE hS 0 rfl (runs_plain rfl) rfl rfl ty22 h186 hn187 (by have := (sx_some hx209).1; omega) hx209 h201 rfl rfl ?_; clear hE hS a w; intro ds210 a w h211 hn212 hE hS
                refine WL.nil ?_
                refine W.region ?_
                refine WL.vS hS hE (runs_plain rfl) (Gives.inc hE rfl (by omega)) rfl ?_; clear hE a; intro a hE
                refine WL.vS hS hE (runs_plain rfl) (Gives.p hE rfl) rfl ?_; clear hE a; intro a hE
                refine WL.nil ?_
                subst hK188
                exact ⟨rest173, Nat.lt_succ_self _, rest173, k171 + 1, x208, ds210, s192, rfl, (by omega), (Sg.Le.trans hle179 hle193), hq169, h211, hn212, hE.pick _ ⟨rfl, rfl, rfl, rfl, rfl, rfl, rfl, rfl, rfl, rfl, rfl, rfl, rfl, rfl, rfl, trivial⟩, hS⟩
            · clear hE hS a w; rintro a w ⟨q181, ds185, s178, hle179, rfl, h186, hn187, hE, hS⟩
              replace h167 := NEv.mono RI.mono hle179 h167
              replace h160 := NEv.mono RI.mono hle179 h160
              replace h0_0 := Sl.mono RI.mono hle179 h0_0
              replace h0_1 := Sl.mono RMendLink.mono hle179 h0_1
              refine W.seq ?_
              refine W.seq ?_
              refine W.region ?_
              refine WL.vS hS hE (runs_plain rfl) (Gives.fld hE rfl fl25_2) rfl ?_; clear hE a; intro a hE
              refine WL.vS hS hE (runs_plain rfl) (Gives.loadB hE 2 rfl rfl rfl ty23) rfl ?_; clear hE a; intro a hE
              refine WL.vS hS hE (runs_plain rfl) (Gives.len hE rfl sl23) rfl ?_; clear hE a; intro a hE
              refine WL.vS hS hE (runs_plain rfl) (Gives.p hE rfl) rfl ?_; clear hE a; intro a hE
              refine WL.nil ?_
              obtain ⟨q214, hq213, hq141⟩ := bindS hq141
              refine W.cut (fun a w => ∃ (q224 : List (List Int)), ∃ (ds228 : List In), q224 = q214 ∧ NEv 1 (RI .i64) s178 ds228 q224 ∧ q224.length = x163.length ∧ Rep a 163 [(1, .pointer (some ⟨b51, 0, none⟩)), (2, .int .i64 q152), (3, .int .i64 q153), (4, .bool q154), (5, .int .i64 ((x0.Plan).length : Int)), (6, .int .i64 (w64 (((x0.Plan).length : Int) * 3))), (7, .int .i64 ((k54 : Nat) : Int)), (10, .slice (some ⟨b165, 0, none⟩) x163.length x163.length), (23, .int .i64 ((x0.Plan).length : Int)), (24, .int .i64 ((k54 : Nat) : Int)), (47, .int .i64 ((x0.Plan).length : Int)), (48, .int .i64 ((k143 : Nat) : Int))] ∧ St w s178 (nestC 22 3 1 (some ⟨b165, 0, none⟩) x163.length x163.length ds228 :: nestC 22 3 1 a156 c157 q155.length ds159 :: pt b51 (.cells #[.int .i64 x0.Period, .slice a0_0 x0.Plan.length c0_0, .slice a0_1 x0.Links.length c0_1] 25 (0, 0)) :: R)) ?_ ?_
              · refine W.block ?_
                refine W.loop (fun m a w => ∃ (rest217 : List MendLink) (k215 : Nat), ∃ (q224 : List (List Int)), ∃ (ds228 : List In), rest217.length = m ∧ x0.Links.drop k215 = rest217 ∧ Fishref2MeanOf.loop5 x0 fu q155 rest217 q224 = some q214 ∧ NEv 1 (RI .i64) s178 ds228 q224 ∧ q224.length = x163.length ∧ Rep a 163 [(1, .pointer (some ⟨b51, 0, none⟩)), (2, .int .i64 q152), (3, .int .i64 q153), (4, .bool q154), (5, .int .i64 ((x0.Plan).length : Int)), (6, .int .i64 (w64 (((x0.Plan).length : Int) * 3))), (7, .int .i64 ((k54 : Nat) : Int)), (8, .slice a156 q155.length c157), (10, .slice (some ⟨b165, 0, none⟩) x163.length x163.length), (23, .int .i64 ((x0.Plan).length : Int)), (24, .int .i64 ((k54 : Nat) : Int)), (47, .int .i64 ((x0.Plan).length : Int)), (48, .int .i64 ((k143 : Nat) : Int)), (66, .slice a0_1 x0.Links.length c0_1), (67, .int .i64 ((x0.Links).length : Int)), (68, .int .i64 ((k215 : Nat) : Int))] ∧ St w s178 (nestC 22 3 1 (some ⟨b165, 0, none⟩) x163.length x163.length ds228 :: nestC 22 3 1 a156 c157 q155.length ds159 :: pt b51 (.cells #[.int .i64 x0.Period, .slice a0_0 x0.Plan.length c0_0, .slice a0_1 x0.Links.length c0_1] 25 (0, 0)) :: R)) (m := x0.Links.length) ⟨x0.Links, 0, q181, ds185, rfl, rfl, hq213, h186, hn187, hE.pick _ ⟨rfl, rfl, rfl, rfl, rfl, rfl, rfl, rfl, rfl, rfl, rfl, rfl, rfl, rfl, rfl, rfl, trivial⟩, hS⟩ ?_
                clear hE hS a w hq213; rintro m221 a w ⟨rest217, k215, q224, ds228, rfl, hd218, hq213, h229, hn230, hE, hS⟩
                refine W.gen fun K231 hK231 => ?_
                rcases rest217 with _ | ⟨x216, rest217⟩
                · have hlt219 := drop_nil hd218
                  refine W.seq ?_
                  refine W.region ?_
                  refine WL.vS hS hE (runs_plain rfl) (Gives.p hE rfl) rfl ?_; clear hE a; intro a hE
                  refine WL.nil ?_
                  refine W.seq ?_
                  refine W.condF hE rfl (decide_eq_false (by omega)) ?_
                  subst hK231
                  refine W.exit rfl ?_
                  exact ⟨q224, ds228, Option.some.inj hq213, h229, hn230, hE.pick _ ⟨rfl, rfl, rfl, rfl, rfl, rfl, rfl, rfl, rfl, rfl, rfl, rfl, trivial⟩, hS⟩
                · obtain ⟨hlt219, hx220, hd218⟩ := drop_cons hd218
                  rw [Fishref2MeanOf.loop5] at hq213
                  refine W.seq ?_
                  refine W.region ?_
                  refine WL.vS hS hE (runs_plain rfl) (Gives.p hE rfl) rfl ?_; clear hE a; intro a hE
                  refine WL.nil ?_
                  refine W.seq ?_
                  refine W.condT hE rfl (decide_eq_true (by omega)) ?_
                  refine W.skip ?_
                  refine W.seq ?_
                  refine W.block ?_
                  refine W.seq ?_
                  refine W.region ?_
                  obtain ⟨cs232, hl233, hR234, hat235⟩ := h0_1.at hx220
                  subst hR234
                  refine WL.vS hS hE (runs_plain rfl) (Gives.idx hE k215 rfl rfl sl23 rfl hlt219 (h0_1.aok hlt219)) rfl ?_; clear hE a; intro a hE
                  refine WL.vS hS hE (runs_plain rfl) (Gives.loadA hE rfl (fun w h => hat235 w _ h) ty36) rfl ?_; clear hE a; intro a hE
                  refine WL.alloc hE hS (runs_plain rfl) zr36 rfl ?_; clear hE hS a w; intro b236 a w hE hS
                  refine WL.storeI hE hS 0 rfl (MendLink.cells x216) (runs_plain rfl) rfl rfl rfl ty36 rfl rfl rfl rfl ?_; clear hE hS a w; intro a w hE hS
                  refine WL.nil ?_
                  refine W.seq ?_
                  refine W.region ?_
                  refine WL.vS hS hE (runs_plain rfl) (Gives.p hE rfl) rfl ?_; clear hE a; intro a hE
                  refine WL.vS hS hE (runs_plain rfl) (Gives.p hE rfl) rfl ?_; clear hE a; intro a hE
                  refine WL.vS hS hE (runs_plain rfl) (Gives.fld hE rfl fl36_3) rfl ?_; clear hE a; intro a hE
                  refine WL.vS hS hE (runs_plain rfl) (Gives.loadB hE 0 rfl rfl rfl ty3) rfl ?_; clear hE a; intro a hE
                  refine WL.vS hS hE (runs_plain rfl) (Gives.p hE rfl) rfl ?_; clear hE a; intro a hE
                  refine WL.vS hS hE (runs_plain rfl) (Gives.p hE rfl) rfl ?_; clear hE a; intro a hE
                  refine WL.nil ?_
                  obtain ⟨q249, hq248, hq213⟩ := bindS hq213
                  refine W.cut (fun a w => ∃ (q254 : Int), ∃ (q255 : List (List Int)), ∃ (ds259 : List In), (q254, q255) = q249 ∧ NEv 1 (RI .i64) s178 ds259 q255 ∧ q255.length = x163.length ∧ Rep a 163 [(1, .pointer (some ⟨b51, 0, none⟩)), (2, .int .i64 q152), (3, .int .i64 q153), (4, .bool q154), (5, .int .i64 ((x0.Plan).length : Int)), (6, .int .i64 (w64 (((x0.Plan).length : Int) * 3))), (7, .int .i64 ((k54 : Nat) : Int)), (8, .slice a156 q155.length c157), (10, .slice (some ⟨b165, 0, none⟩) x163.length x163.length), (23, .int .i64 ((x0.Plan).length : Int)), (24, .int .i64 ((k54 : Nat) : Int)), (47, .int .i64 ((x0.Plan).length : Int)), (48, .int .i64 ((k143 : Nat) : Int)), (66, .slice a0_1 x0.Links.length c0_1), (67, .int .i64 ((x0.Links).length : Int)), (68, .int .i64 ((k215 : Nat) : Int))] ∧ St w s178 (pt b236 (.cells (MendLink.cells x216).toArray 36 (0, 0)) :: nestC 22 3 1 (some ⟨b165, 0, none⟩) x163.length x163.length ds259 :: nestC 22 3 1 a156 c157 q155.length ds159 :: pt b51 (.cells #[.int .i64 x0.Period, .slice a0_0 x0.Plan.length c0_0, .slice a0_1 x0.Links.length c0_1] 25 (0, 0)) :: R)) ?_ ?_
                  · refine W.block ?_
                    refine W.loop (fun m a w => ∃ (n250 : Nat), ∃ (q254 : Int), ∃ (q255 : List (List Int)), ∃ (ds259 : List In), n250 = m ∧ Fishref2MeanOf.loop7 x0 q155 x216 n250 q254 q255 = some q249 ∧ NEv 1 (RI .i64) s178 ds259 q255 ∧ q255.length = x163.length ∧ Rep a 163 [(1, .pointer (some ⟨b51, 0, none⟩)), (2, .int .i64 q152), (3, .int .i64 q153), (4, .bool q154), (5, .int .i64 ((x0.Plan).length : Int)), (6, .int .i64 (w64 (((x0.Plan).length : Int) * 3))), (7, .int .i64 ((k54 : Nat) : Int)), (8, .slice a156 q155.length c157), (10, .slice (some ⟨b165, 0, none⟩) x163.length x163.length), (13, .pointer (some ⟨b236, 0, none⟩)), (23, .int .i64 ((x0.Plan).length : Int)), (24, .int .i64 ((k54 : Nat) : Int)), (47, .int .i64 ((x0.Plan).length : Int)), (48, .int .i64 ((k143 : Nat) : Int)), (66, .slice a0_1 x0.Links.length c0_1), (67, .int .i64 ((x0.Links).length : Int)), (68, .int .i64 ((k215 : Nat) : Int)), (76, .int .i64 (w64 ((w64 ((w64 (((x0.Plan).length : Int) * 3)) + 1)) - x216.Back))), (77, .int .i64 q254)] ∧ St w s178 (pt b236 (.cells (MendLink.cells x216).toArray 36 (0, 0)) :: nestC 22 3 1 (some ⟨b165, 0, none⟩) x163.length x163.length ds259 :: nestC 22 3 1 a156 c157 q155.length ds159 :: pt b51 (.cells #[.int .i64 x0.Period, .slice a0_0 x0.Plan.length c0_0, .slice a0_1 x0.Links.length c0_1] 25 (0, 0)) :: R)) (m := fu) ⟨fu, 0, q224, ds228, rfl, hq248, h229, hn230, hE.pick _ ⟨rfl, rfl, rfl, rfl, rfl, rfl, rfl, rfl, rfl, rfl, rfl, rfl, rfl, rfl, rfl, rfl, rfl, rfl, rfl, trivial⟩, hS⟩ ?_
                    clear hE hS a w hq248; rintro m251 a w ⟨n250, q254, q255, ds259, rfl, hq248, h260, hn261, hE, hS⟩
                    refine W.gen fun K262 hK262 => ?_
                    rcases n250 with _ | n250
                    · rw [Fishref2MeanOf.loop7] at hq248; exact absurd hq248 (by simp)
                    rw [Fishref2MeanOf.loop7] at hq248
                    refine W.seq ?_
                    refine W.region ?_
                    refine WL.vS hS hE (runs_plain rfl) (Gives.p hE rfl) rfl ?_; clear hE a; intro a hE
                    refine WL.nil ?_
                    refine W.seq ?_
                    refine W.cond hE rfl (fun hc263 => ?_) (fun hc263 => ?_)
                    · replace hq248 := iteT hc263 hq248
                      refine W.skip ?_
                      refine W.seq ?_
                      refine W.block ?_
                      refine W.seq ?_
                      refine W.region ?_
                      refine WL.vS hS hE (runs_plain rfl) (Gives.p hE rfl) rfl ?_; clear hE a; intro a hE
                      refine WL.vS hS hE (runs_plain rfl) (Gives.p hE rfl) rfl ?_; clear hE a; intro a hE
                      refine WL.nil ?_
                      refine W.seq ?_
                      refine W.region ?_
                      refine WL.vS hS hE (runs_plain rfl) (Gives.p hE rfl) rfl ?_; clear hE a; intro a hE
                      refine WL.vS hS hE (runs_plain rfl) (Gives.fld hE rfl fl36_0) rfl ?_; clear hE a; intro a hE
                      refine WL.vS hS hE (runs_plain rfl) (Gives.loadB hE 0 rfl rfl rfl ty3) rfl ?_; clear hE a; intro a hE
                      obtain ⟨x264, hx265, hq248⟩ := bindS hq248
                      obtain ⟨hi266, hlt267, hy268⟩ := gx_some hx265
                      obtain ⟨a269, c270, cs271, hd272, hev273⟩ := h160.at hy268
                      refine WL.vS hS hE (runs_plain rfl) (Gives.idx hE ((x216.From).toNat) rfl rfl sl40 hi266 (by omega) (hS.nAok 2 rfl (by omega : (x216.From).toNat < q155.length))) rfl ?_; clear hE a; intro a hE
                      refine WL.vS hS hE (runs_plain rfl) (Gives.load1 (v := .slice a269 x264.length c270) hE rfl (fun w h => St.nSees h 2 rfl hd272) ty22) rfl ?_; clear hE a; intro a hE
                      refine WL.vS hS hE (runs_plain rfl) (Gives.p hE rfl) rfl ?_; clear hE a; intro a hE
                      obtain ⟨x274, hx275, hq248⟩ := bindS hq248
                      obtain ⟨hi276, hlt277, hy278⟩ := gx_some hx275
                      obtain ⟨vs279, hl280, hR281, hd282, hget283⟩ := hev273.at hy278
                      subst hR281
                      refine WL.vS hS hE (runs_plain rfl) (Gives.idx hE ((q254).toNat) rfl rfl sl22 hi276 hlt277 (hS.nnAok 2 rfl hd272 hlt277)) rfl ?_; clear hE a; intro a hE
                      refine WL.vS hS hE (runs_plain rfl) (Gives.load1 hE rfl (fun w h => St.nnSees h 2 rfl hd272 ((q254).toNat * 1) _ hget283) ty3) rfl ?_; clear hE a; intro a hE
                      refine WL.vS hS hE (runs_plain rfl) (Gives.p hE rfl) rfl ?_; clear hE a; intro a hE
                      refine WL.nil ?_
                      refine W.seq ?_
                      refine W.region ?_
                      refine WL.vS hS hE (runs_plain rfl) (Gives.p hE rfl) rfl ?_; clear hE a; intro a hE
                      refine WL.vS hS hE (runs_plain rfl) (Gives.p hE rfl) rfl ?_; clear hE a; intro a hE
                      refine WL.nil ?_
                      obtain ⟨q285, hq284, hq248⟩ := bindS hq248
                      refine W.cut (fun a w => ∃ (q288 : List (List Int)), ∃ (ds292 : List In), q288 = q285 ∧ NEv 1 (RI .i64) s178 ds292 q288 ∧ q288.length = x163.length ∧ Rep a 163 [(1, .pointer (some ⟨b51, 0, none⟩)), (2, .int .i64 q152), (3, .int .i64 q153), (4, .bool q154), (5, .int .i64 ((x0.Plan).length : Int)), (6, .int .i64 (w64 (((x0.Plan).length : Int) * 3))), (7, .int .i64 ((k54 : Nat) : Int)), (8, .slice a156 q155.length c157), (10, .slice (some ⟨b165, 0, none⟩) x163.length x163.length), (13, .pointer (some ⟨b236, 0, none⟩)), (23, .int .i64 ((x0.Plan).length : Int)), (24, .int .i64 ((k54 : Nat) : Int)), (47, .int .i64 ((x0.Plan).length : Int)), (48, .int .i64 ((k143 : Nat) : Int)), (66, .slice a0_1 x0.Links.length c0_1), (67, .int .i64 ((x0.Links).length : Int)), (68, .int .i64 ((k215 : Nat) : Int)), (76, .int .i64 (w64 ((w64 ((w64 (((x0.Plan).length : Int) * 3)) + 1)) - x216.Back))), (77, .int .i64 q254)] ∧ St w s178 (pt b236 (.cells (MendLink.cells x216).toArray 36 (0, 0)) :: nestC 22 3 1 (some ⟨b165, 0, none⟩) x163.length x163.length ds292 :: nestC 22 3 1 a156 c157 q155.length ds159 :: pt b51 (.cells #[.int .i64 x0.Period, .slice a0_0 x0.Plan.length c0_0, .slice a0_1 x0.Links.length c0_1] 25 (0, 0)) :: R)) ?_ ?_
                      · refine W.gen fun K295 hK295 => ?_
                        refine W.cond hE rfl (fun hc296 => ?_) (fun hc296 => ?_)
                        · replace hq284 := iteT hc296 hq284
                          refine W.gen fun K297 hK297 => ?_
                          refine W.regionE (sel (fun w => St w s178 (pt b236 (.cells (MendLink.cells x216).toArray 36 (0, 0)) :: nestC 22 3 1 (some ⟨b165, 0, none⟩) x163.length x163.length ds259 :: nestC 22 3 1 a156 c157 q155.length ds159 :: pt b51 (.cells #[.int .i64 x0.Period, .slice a0_0 x0.Plan.length c0_0, .slice a0_1 x0.Links.length c0_1] 25 (0, 0)) :: R)) (fun w => St w s178 (pt b236 (.cells (MendLink.cells x216).toArray 36 (0, 0)) :: nestC 22 3 1 a156 c157 q155.length ds159 :: pt b51 (.cells #[.int .i64 x0.Period, .slice a0_0 x0.Plan.length c0_0, .slice a0_1 x0.Links.length c0_1] 25 (0, 0)) :: R))) (fun b i => cond b ([0, 1, 2, 3, 4, 5, 6, 7, 8, 9, 10, 11, 12, 13, 14, 15, 16, 17, 18, 19, 20, 21, 22, 23, 24].contains i) ([0, 1, 2, 3, 4, 5, 6, 7, 8, 9, 10, 11, 12, 13, 14, 15, 16, 17, 18, 19, 20, 21, 22, 23, 24, 25, 26].contains i)) mixed ?_
                          replace hS := hS.drew
                          refine Rg.takeP (i := 0) hE rfl (by kernel_rfl) (runs_plain rfl) (Gives.p hE rfl) rfl (tw_sel (fun _ => hS) (fun _ => (hS.dropAt 1))) ?_; clear hE a; intro a hE
                          refine Rg.takeP (i := 1) hE rfl (by kernel_rfl) (runs_plain rfl) (Gives.fld hE rfl fl36_1) rfl (tw_sel (fun _ => hS) (fun _ => (hS.dropAt 1))) ?_; clear hE a; intro a hE
                          have hT := tw_sel (A := fun w => St w s178 (pt b236 (.cells (MendLink.cells x216).toArray 36 (0, 0)) :: nestC 22 3 1 (some ⟨b165, 0, none⟩) x163.length x163.length ds259 :: nestC 22 3 1 a156 c157 q155.length ds159 :: pt b51 (.cells #[.int .i64 x0.Period, .slice a0_0 x0.Plan.length c0_0, .slice a0_1 x0.Links.length c0_1] 25 (0, 0)) :: R)) (B := fun w => St w s178 (pt b236 (.cells (MendLink.cells x216).toArray 36 (0, 0)) :: nestC 22 3 1 a156 c157 q155.length ds159 :: pt b51 (.cells #[.int .i64 x0.Period, .slice a0_0 x0.Plan.length c0_0, .slice a0_1 x0.Links.length c0_1] 25 (0, 0)) :: R)) (w := _) (x := true) (y := true) (fun _ => hS) (fun _ => (hS.dropAt 1))
                          have hF := hS; replace hS := hS
                          refine Rg.take (i := 2) true rfl hE rfl (by kernel_rfl) (runs_plain rfl) (Gives.loadB hE 0 rfl rfl rfl ty3) rfl hT ?_; clear hE a; intro a hE
                          replace hS := hF; clear hF hT
                          obtain ⟨x298, hx299, hq284⟩ := bindS hq284
                          obtain ⟨hi300, hlt301, hy302⟩ := gx_some hx299
                          obtain ⟨a303, c304, cs305, hd306, hev307⟩ := h260.at hy302
                          refine Rg.takeP (i := 3) hE rfl (by kernel_rfl) (runs_plain rfl) (Gives.idx hE ((x216.To).toNat) rfl rfl sl40 hi300 (by have := hn261; omega) (hS.nAok 1 rfl (by have := hn261; omega : (x216.To).toNat < x163.length))) rfl (tw_sel (fun _ => hS) (fun _ => (hS.dropAt 1))) ?_; clear hE a; intro a hE
                          have hT := tw_sel (A := fun w => St w s178 (pt b236 (.cells (MendLink.cells x216).toArray 36 (0, 0)) :: nestC 22 3 1 (some ⟨b165, 0, none⟩) x163.length x163.length ds259 :: nestC 22 3 1 a156 c157 q155.length ds159 :: pt b51 (.cells #[.int .i64 x0.Period, .slice a0_0 x0.Plan.length c0_0, .slice a0_1 x0.Links.length c0_1] 25 (0, 0)) :: R)) (B := fun w => St w s178 (pt b236 (.cells (MendLink.cells x216).toArray 36 (0, 0)) :: nestC 22 3 1 a156 c157 q155.length ds159 :: pt b51 (.cells #[.int .i64 x0.Period, .slice a0_0 x0.Plan.length c0_0, .slice a0_1 x0.Links.length c0_1] 25 (0, 0)) :: R)) (w := _) (x := true) (y := true) (fun _ => hS) (fun _ => (hS.dropAt 1))
                          have hF := hS; replace hS := hS
                          refine Rg.take (i := 4) true rfl hE rfl (by kernel_rfl) (runs_plain rfl) (Gives.load1 (v := .slice a303 x298.length c304) hE rfl (fun w h => St.nSees h 1 rfl hd306) ty22) rfl hT ?_; clear hE a; intro a hE
                          replace hS := hF; clear hF hT
                          refine Rg.takeP (i := 5) hE rfl (by kernel_rfl) (runs_plain rfl) (Gives.p hE rfl) rfl (tw_sel (fun _ => hS) (fun _ => (hS.dropAt 1))) ?_; clear hE a; intro a hE
                          refine Rg.takeP (i := 6) hE rfl (by kernel_rfl) (runs_plain rfl) (Gives.fld hE rfl fl36_3) rfl (tw_sel (fun _ => hS) (fun _ => (hS.dropAt 1))) ?_; clear hE a; intro a hE
                          have hT := tw_sel (A := fun w => St w s178 (pt b236 (.cells (MendLink.cells x216).toArray 36 (0, 0)) :: nestC 22 3 1 (some ⟨b165, 0, none⟩) x163.length x163.length ds259 :: nestC 22 3 1 a156 c157 q155.length ds159 :: pt b51 (.cells #[.int .i64 x0.Period, .slice a0_0 x0.Plan.length c0_0, .slice a0_1 x0.Links.length c0_1] 25 (0, 0)) :: R)) (B := fun w => St w s178 (pt b236 (.cells (MendLink.cells x216).toArray 36 (0, 0)) :: nestC 22 3 1 a156 c157 q155.length ds159 :: pt b51 (.cells #[.int .i64 x0.Period, .slice a0_0 x0.Plan.length c0_0, .slice a0_1 x0.Links.length c0_1] 25 (0, 0)) :: R)) (w := _) (x := true) (y := true) (fun _ => hS) (fun _ => (hS.dropAt 1))
                          have hF := hS; replace hS := hS
                          refine Rg.take (i := 7) true rfl hE rfl (by kernel_rfl) (runs_plain rfl) (Gives.loadB hE 0 rfl rfl rfl ty3) rfl hT ?_; clear hE a; intro a hE
                          replace hS := hF; clear hF hT
                          refine Rg.takeP (i := 8) hE rfl (by kernel_rfl) (runs_plain rfl) (Gives.p hE rfl) rfl (tw_sel (fun _ => hS) (fun _ => (hS.dropAt 1))) ?_; clear hE a; intro a hE
                          refine Rg.takeP (i := 9) hE rfl (by kernel_rfl) (runs_plain rfl) (Gives.p hE rfl) rfl (tw_sel (fun _ => hS) (fun _ => (hS.dropAt 1))) ?_; clear hE a; intro a hE
                          refine Rg.takeP (i := 10) hE rfl (by kernel_rfl) (runs_plain rfl) (Gives.fld hE rfl fl36_1) rfl (tw_sel (fun _ => hS) (fun _ => (hS.dropAt 1))) ?_; clear hE a; intro a hE
                          have hT := tw_sel (A := fun w => St w s178 (pt b236 (.cells (MendLink.cells x216).toArray 36 (0, 0)) :: nestC 22 3 1 (some ⟨b165, 0, none⟩) x163.length x163.length ds259 :: nestC 22 3 1 a156 c157 q155.length ds159 :: pt b51 (.cells #[.int .i64 x0.Period, .slice a0_0 x0.Plan.length c0_0, .slice a0_1 x0.Links.length c0_1] 25 (0, 0)) :: R)) (B := fun w => St w s178 (pt b236 (.cells (MendLink.cells x216).toArray 36 (0, 0)) :: nestC 22 3 1 a156 c157 q155.length ds159 :: pt b51 (.cells #[.int .i64 x0.Period, .slice a0_0 x0.Plan.length c0_0, .slice a0_1 x0.Links.length c0_1] 25 (0, 0)) :: R)) (w := _) (x := true) (y := true) (fun _ => hS) (fun _ => (hS.dropAt 1))
                          have hF := hS; replace hS := hS
                          refine Rg.take (i := 11) true rfl hE rfl (by kernel_rfl) (runs_plain rfl) (Gives.loadB hE 0 rfl rfl rfl ty3) rfl hT ?_; clear hE a; intro a hE
                          replace hS := hF; clear hF hT
                          obtain ⟨x308, hx309, hq284⟩ := bindS hq284
                          obtain ⟨hi310, hlt311, hy312⟩ := gx_some hx309
                          obtain ⟨a313, c314, cs315, hd316, hev317⟩ := h260.at hy312
                          refine Rg.takeP (i := 12) hE rfl (by kernel_rfl) (runs_plain rfl) (Gives.idx hE ((x216.To).toNat) rfl rfl sl40 hi310 (by have := hn261; omega) (hS.nAok 1 rfl (by have := hn261; omega : (x216.To).toNat < x163.length))) rfl (tw_sel (fun _ => hS) (fun _ => (hS.dropAt 1))) ?_; clear hE a; intro a hE
                          have hT := tw_sel (A := fun w => St w s178 (pt b236 (.cells (MendLink.cells x216).toArray 36 (0, 0)) :: nestC 22 3 1 (some ⟨b165, 0, none⟩) x163.length x163.length ds259 :: nestC 22 3 1 a156 c157 q155.length ds159 :: pt b51 (.cells #[.int .i64 x0.Period, .slice a0_0 x0.Plan.length c0_0, .slice a0_1 x0.Links.length c0_1] 25 (0, 0)) :: R)) (B := fun w => St w s178 (pt b236 (.cells (MendLink.cells x216).toArray 36 (0, 0)) :: nestC 22 3 1 a156 c157 q155.length ds159 :: pt b51 (.cells #[.int .i64 x0.Period, .slice a0_0 x0.Plan.length c0_0, .slice a0_1 x0.Links.length c0_1] 25 (0, 0)) :: R)) (w := _) (x := true) (y := true) (fun _ => hS) (fun _ => (hS.dropAt 1))
                          have hF := hS; replace hS := hS
                          refine Rg.take (i := 13) true rfl hE rfl (by kernel_rfl) (runs_plain rfl) (Gives.load1 (v := .slice a313 x308.length c314) hE rfl (fun w h => St.nSees h 1 rfl hd316) ty22) rfl hT ?_; clear hE a; intro a hE
                          replace hS := hF; clear hF hT
                          refine Rg.takeP (i := 14) hE rfl (by kernel_rfl) (runs_plain rfl) (Gives.p hE rfl) rfl (tw_sel (fun _ => hS) (fun _ => (hS.dropAt 1))) ?_; clear hE a; intro a hE
                          refine Rg.takeP (i := 15) hE rfl (by kernel_rfl) (runs_plain rfl) (Gives.fld hE rfl fl36_3) rfl (tw_sel (fun _ => hS) (fun _ => (hS.dropAt 1))) ?_; clear hE a; intro a hE
                          have hT := tw_sel (A := fun w => St w s178 (pt b236 (.cells (MendLink.cells x216).toArray 36 (0, 0)) :: nestC 22 3 1 (some ⟨b165, 0, none⟩) x163.length x163.length ds259 :: nestC 22 3 1 a156 c157 q155.length ds159 :: pt b51 (.cells #[.int .i64 x0.Period, .slice a0_0 x0.Plan.length c0_0, .slice a0_1 x0.Links.length c0_1] 25 (0, 0)) :: R)) (B := fun w => St w s178 (pt b236 (.cells (MendLink.cells x216).toArray 36 (0, 0)) :: nestC 22 3 1 a156 c157 q155.length ds159 :: pt b51 (.cells #[.int .i64 x0.Period, .slice a0_0 x0.Plan.length c0_0, .slice a0_1 x0.Links.length c0_1] 25 (0, 0)) :: R)) (w := _) (x := true) (y := true) (fun _ => hS) (fun _ => (hS.dropAt 1))
                          have hF := hS; replace hS := hS
                          refine Rg.take (i := 16) true rfl hE rfl (by kernel_rfl) (runs_plain rfl) (Gives.loadB hE 0 rfl rfl rfl ty3) rfl hT ?_; clear hE a; intro a hE
                          replace hS := hF; clear hF hT
                          refine Rg.takeP (i := 17) hE rfl (by kernel_rfl) (runs_plain rfl) (Gives.p hE rfl) rfl (tw_sel (fun _ => hS) (fun _ => (hS.dropAt 1))) ?_; clear hE a; intro a hE
                          obtain ⟨x318, hx319, hq284⟩ := bindS hq284
                          obtain ⟨hi320, hlt321, hy322⟩ := gx_some hx319
                          obtain ⟨vs323, hl324, hR325, hd326, hget327⟩ := hev317.at hy322
                          subst hR325
                          refine Rg.takeP (i := 18) hE rfl (by kernel_rfl) (runs_plain rfl) (Gives.idx hE ((w64 (q254 + x216.Back)).toNat) rfl rfl sl22 hi320 hlt321 (hS.nnAok 1 rfl hd316 hlt321)) rfl (tw_sel (fun _ => hS) (fun _ => (hS.dropAt 1))) ?_; clear hE a; intro a hE
                          have hT := tw_sel (A := fun w => St w s178 (pt b236 (.cells (MendLink.cells x216).toArray 36 (0, 0)) :: nestC 22 3 1 (some ⟨b165, 0, none⟩) x163.length x163.length ds259 :: nestC 22 3 1 a156 c157 q155.length ds159 :: pt b51 (.cells #[.int .i64 x0.Period, .slice a0_0 x0.Plan.length c0_0, .slice a0_1 x0.Links.length c0_1] 25 (0, 0)) :: R)) (B := fun w => St w s178 (pt b236 (.cells (MendLink.cells x216).toArray 36 (0, 0)) :: nestC 22 3 1 a156 c157 q155.length ds159 :: pt b51 (.cells #[.int .i64 x0.Period, .slice a0_0 x0.Plan.length c0_0, .slice a0_1 x0.Links.length c0_1] 25 (0, 0)) :: R)) (w := _) (x := true) (y := true) (fun _ => hS) (fun _ => (hS.dropAt 1))
                          have hF := hS; replace hS := hS
                          refine Rg.take (i := 19) true rfl hE rfl (by kernel_rfl) (runs_plain rfl) (Gives.load1 hE rfl (fun w h => St.nnSees h 1 rfl hd316 ((w64 (q254 + x216.Back)).toNat * 1) _ hget327) ty3) rfl hT ?_; clear hE a; intro a hE
                          replace hS := hF; clear hF hT
                          refine Rg.takeP (i := 20) hE rfl (by kernel_rfl) (runs_plain rfl) (Gives.p hE rfl) rfl (tw_sel (fun _ => hS) (fun _ => (hS.dropAt 1))) ?_; clear hE a; intro a hE
                          refine Rg.takeP (i := 21) hE rfl (by kernel_rfl) (runs_plain rfl) (Gives.fld hE rfl fl36_2) rfl (tw_sel (fun _ => hS) (fun _ => (hS.dropAt 1))) ?_; clear hE a; intro a hE
                          have hT := tw_sel (A := fun w => St w s178 (pt b236 (.cells (MendLink.cells x216).toArray 36 (0, 0)) :: nestC 22 3 1 (some ⟨b165, 0, none⟩) x163.length x163.length ds259 :: nestC 22 3 1 a156 c157 q155.length ds159 :: pt b51 (.cells #[.int .i64 x0.Period, .slice a0_0 x0.Plan.length c0_0, .slice a0_1 x0.Links.length c0_1] 25 (0, 0)) :: R)) (B := fun w => St w s178 (pt b236 (.cells (MendLink.cells x216).toArray 36 (0, 0)) :: nestC 22 3 1 a156 c157 q155.length ds159 :: pt b51 (.cells #[.int .i64 x0.Period, .slice a0_0 x0.Plan.length c0_0, .slice a0_1 x0.Links.length c0_1] 25 (0, 0)) :: R)) (w := _) (x := true) (y := true) (fun _ => hS) (fun _ => (hS.dropAt 1))
                          have hF := hS; replace hS := hS
                          refine Rg.take (i := 22) true rfl hE rfl (by kernel_rfl) (runs_plain rfl) (Gives.loadB hE 0 rfl rfl rfl ty3) rfl hT ?_; clear hE a; intro a hE
                          replace hS := hF; clear hF hT
                          refine Rg.takeP (i := 23) hE rfl (by kernel_rfl) (runs_plain rfl) (Gives.p hE rfl) rfl (tw_sel (fun _ => hS) (fun _ => (hS.dropAt 1))) ?_; clear hE a; intro a hE
                          refine Rg.takeP (i := 24) hE rfl (by kernel_rfl) (runs_plain rfl) (Gives.max2 hE rfl rfl) rfl (tw_sel (fun _ => hS) (fun _ => (hS.dropAt 1))) ?_; clear hE a; intro a hE
                          refine Rg.one (i := 25) false true rfl (by kernel_rfl) (by kernel_rfl) (by kernel_rfl) ?_
                          replace hS := hS.borrowM 1 rfl hd306
                          obtain ⟨_, hx330, hq284⟩ := bindS hq284
                          obtain ⟨h331, h332⟩ := ix_some hx330
                          refine WL.vS hS hE (runs_plain rfl) (Gives.idx hE ((w64 (q254 + x216.Back)).toNat) rfl rfl sl22 h331 (by omega) (hS.vecAok 0 rfl (by omega : (w64 (q254 + x216.Back)).toNat < x298.length))) rfl ?_; clear hE a; intro a hE
                          refine WL.nil ?_
                          refine ⟨⟨fun h => absurd h (by decide), fun _ => ((hS.tail).dropAt 1)⟩, ?_⟩
                          refine Rg.one (i := 26) false true rfl (by kernel_rfl) (by kernel_rfl) (by kernel_rfl) ?_
                          obtain ⟨x334, hx335, hq284⟩ := bindS hq284
                          refine WL.setD hE hS 0 rfl (runs_plain rfl) rfl rfl (vs := [.int .i64 (mx x318 (w64 (x274 + x216.Len)))]) rfl ty3 rfl rfl rfl hev307 (rfl) (sx_some hx335).1 hx335 rfl rfl ?_; clear hE hS a w; intro cs336 a w h337 hn338 hE hS
                          refine WL.nil ?_
                          refine ⟨⟨fun h => absurd h (by decide), fun _ => ((hS.tail).dropAt 1)⟩, ?_⟩
                          refine Rg.done (by kernel_rfl) ?_
                          subst hK297
                          replace hS := hS.giveBack 1 rfl hd306
                          have h340 := h260.set (k := (x216.To).toNat) (d := ⟨a303, c304, x298.length, cs336⟩) h337 hn338
                          have hn341 : (q255.set ((x216.To).toNat) x334).length = x163.length := by simp; exact hn261
                          generalize List.set ds259 ((x216.To).toNat) _ = ds339 at hS h340
                          subst hK295
                          exact ⟨(q255.set ((x216.To).toNat) x334), ds339, Option.some.inj hq284, h340, hn341, hE.pick _ ⟨rfl, rfl, rfl, rfl, rfl, rfl, rfl, rfl, rfl, rfl, rfl, rfl, rfl, rfl, rfl, rfl, rfl, rfl, rfl, trivial⟩, hS⟩
                        · replace hq284 := iteF hc296 hq284
                          refine W.skip ?_
                          subst hK295
                          exact ⟨q255, ds259, Option.some.inj hq284, h260, hn261, hE.pick _ ⟨rfl, rfl, rfl, rfl, rfl, rfl, rfl, rfl, rfl, rfl, rfl, rfl, rfl, rfl, rfl, rfl, rfl, rfl, rfl, trivial⟩, hS⟩
                      · clear hE hS a w; rintro a w ⟨q288, ds292, rfl, h293, hn294, hE, hS⟩
                        refine W.region ?_
                        refine WL.vS hS hE (runs_plain rfl) (Gives.p hE rfl) rfl ?_; clear hE a; intro a hE
                        refine WL.vS hS hE (runs_plain rfl) (Gives.p hE rfl) rfl ?_; clear hE a; intro a hE
                        refine WL.nil ?_
                        subst hK262
                        exact ⟨n250, Nat.lt_succ_self _, n250, (w64 (q254 + 1)), q288, ds292, rfl, hq248, h293, hn294, hE.pick _ ⟨rfl, rfl, rfl, rfl, rfl, rfl, rfl, rfl, rfl, rfl, rfl, rfl, rfl, rfl, rfl, rfl, rfl, rfl, rfl, trivial⟩, hS⟩
                    · replace hq248 := iteF hc263 hq248
                      subst hK262
                      refine W.exit rfl ?_
                      exact ⟨q254, q255, ds259, Option.some.inj hq248, h260, hn261, hE.pick _ ⟨rfl, rfl, rfl, rfl, rfl, rfl, rfl, rfl, rfl, rfl, rfl, rfl, rfl, rfl, rfl, rfl, trivial⟩, hS⟩
                  · clear hE hS a w; rintro a w ⟨q254, q255, ds259, rfl, h260, hn261, hE, hS⟩
                    dsimp only at hq213
                    refine W.region ?_
                    refine WL.vS hS hE (runs_plain rfl) (Gives.inc hE rfl (by have := h0_1.small; omega)) rfl ?_; clear hE a; intro a hE
                    refine WL.vS hS hE (runs_plain rfl) (Gives.p hE rfl) rfl ?_; clear hE a; intro a hE
                    refine WL.nil ?_
                    replace hS := hS.tail
                    subst hK231
                    exact ⟨rest217.length, Nat.lt_succ_self _, rest217, k215 + 1, q255, ds259, rfl, hd218, hq213, h260, hn261, hE.pick _ ⟨rfl, rfl, rfl, rfl, rfl, rfl, rfl, rfl, rfl, rfl, rfl, rfl, rfl, rfl, rfl, rfl, trivial⟩, hS⟩
              · clear hE hS a w; rintro a w ⟨q224, ds228, rfl, h229, hn230, hE, hS⟩
                refine W.seq ?_
                refine W.seq ?_
                refine W.region ?_
                refine WL.vS hS hE (runs_plain rfl) (Gives.p hE rfl) rfl ?_; clear hE a; intro a hE
                refine WL.vS hS hE (runs_plain rfl) (Gives.p hE rfl) rfl ?_; clear hE a; intro a hE
                obtain ⟨x342, hx343, hq141⟩ := bindS hq141
                obtain ⟨hi344, hlt345, hy346⟩ := gx_some hx343
                obtain ⟨a347, c348, cs349, hd350, hev351⟩ := h229.at hy346
                refine WL.vS hS hE (runs_plain rfl) (Gives.idx hE ((((k54 : Nat) : Int)).toNat) rfl rfl sl40 hi344 (by have := hn230; omega) (hS.nAok 0 rfl (by have := hn230; omega : (((k54 : Nat) : Int)).toNat < x163.length))) rfl ?_; clear hE a; intro a hE
                refine WL.vS hS hE (runs_plain rfl) (Gives.load1 (v := .slice a347 x342.length c348) hE rfl (fun w h => St.nSees h 0 rfl hd350) ty22) rfl ?_; clear hE a; intro a hE
                refine WL.vS hS hE (runs_plain rfl) (Gives.len hE rfl sl22) rfl ?_; clear hE a; intro a hE
                refine WL.vS hS hE (runs_plain rfl) (Gives.p hE rfl) rfl ?_; clear hE a; intro a hE
                refine WL.nil ?_
                replace hS := hS.dropAt 1
                have hb363 : (x342).length ≤ 9223372036854775807 := by have := (hS.borrowM 0 rfl hd350).vecCap 0 rfl; unfold maxLen at this; omega
                obtain ⟨q353, hq352, hq141⟩ := bindS hq141
                refine W.cut (fun a w => ∃ (q364 : Int), ∃ (q365 : Int), ∃ (q366 : Bool), (q364, q365, q366) = q353 ∧ Rep a 163 [(1, .pointer (some ⟨b51, 0, none⟩)), (2, .int .i64 q364), (3, .int .i64 q365), (4, .bool q366), (5, .int .i64 ((x0.Plan).length : Int)), (6, .int .i64 (w64 (((x0.Plan).length : Int) * 3))), (7, .int .i64 ((k54 : Nat) : Int)), (10, .slice (some ⟨b165, 0, none⟩) x163.length x163.length), (23, .int .i64 ((x0.Plan).length : Int)), (24, .int .i64 ((k54 : Nat) : Int)), (47, .int .i64 ((x0.Plan).length : Int)), (48, .int .i64 ((k143 : Nat) : Int))] ∧ St w s178 (nestC 22 3 1 (some ⟨b165, 0, none⟩) x163.length x163.length ds228 :: pt b51 (.cells #[.int .i64 x0.Period, .slice a0_0 x0.Plan.length c0_0, .slice a0_1 x0.Links.length c0_1] 25 (0, 0)) :: R)) ?_ ?_
                · refine W.block ?_
                  refine W.loop (fun m a w => ∃ (rest356 : Nat) (k354 : Nat), ∃ (q364 : Int), ∃ (q365 : Int), ∃ (q366 : Bool), rest356 = m ∧ k354 + rest356 = (x342).length ∧ Fishref2MeanOf.loop8 x342 rest356 k354 q364 q365 q366 = some q353 ∧ Rep a 163 [(1, .pointer (some ⟨b51, 0, none⟩)), (2, .int .i64 q364), (3, .int .i64 q365), (4, .bool q366), (5, .int .i64 ((x0.Plan).length : Int)), (6, .int .i64 (w64 (((x0.Plan).length : Int) * 3))), (7, .int .i64 ((k54 : Nat) : Int)), (10, .slice (some ⟨b165, 0, none⟩) x163.length x163.length), (23, .int .i64 ((x0.Plan).length : Int)), (24, .int .i64 ((k54 : Nat) : Int)), (47, .int .i64 ((x0.Plan).length : Int)), (48, .int .i64 ((k143 : Nat) : Int)), (121, .slice a347 x342.length c348), (122, .int .i64 ((x342).length : Int)), (123, .int .i64 ((k354 : Nat) : Int))] ∧ St w s178 (nestC 22 3 1 (some ⟨b165, 0, none⟩) x163.length x163.length ds228 :: pt b51 (.cells #[.int .i64 x0.Period, .slice a0_0 x0.Plan.length c0_0, .slice a0_1 x0.Links.length c0_1] 25 (0, 0)) :: R)) (m := (x342).length) ⟨(x342).length, 0, q152, q153, q154, rfl, by omega, hq352, hE.pick _ ⟨rfl, rfl, rfl, rfl, rfl, rfl, rfl, rfl, rfl, rfl, rfl, rfl, rfl, rfl, rfl, trivial⟩, hS⟩ ?_
                  clear hE hS a w hq352; rintro m360 a w ⟨rest356, k354, q364, q365, q366, rfl, hd357, hq352, hE, hS⟩
                  refine W.gen fun K367 hK367 => ?_
                  rcases rest356 with _ | rest356
                  · skip
                    refine W.seq ?_
                    refine W.region ?_
                    refine WL.vS hS hE (runs_plain rfl) (Gives.p hE rfl) rfl ?_; clear hE a; intro a hE
                    refine WL.nil ?_
                    refine W.seq ?_
                    refine W.condF hE rfl (decide_eq_false (by omega)) ?_
                    subst hK367
                    refine W.exit rfl ?_
                    exact ⟨q364, q365, q366, Option.some.inj hq352, hE.pick _ ⟨rfl, rfl, rfl, rfl, rfl, rfl, rfl, rfl, rfl, rfl, rfl, rfl, trivial⟩, hS⟩
                  · have hlt358 : k354 < (x342).length := by omega
                    rw [Fishref2MeanOf.loop8] at hq352
                    refine W.seq ?_
                    refine W.region ?_
                    refine WL.vS hS hE (runs_plain rfl) (Gives.p hE rfl) rfl ?_; clear hE a; intro a hE
                    refine WL.nil ?_
                    refine W.seq ?_
                    refine W.condT hE rfl (decide_eq_true (by omega)) ?_
                    refine W.skip ?_
                    refine W.seq ?_
                    refine W.block ?_
                    refine W.seq ?_
                    refine W.region ?_
                    refine WL.vS hS hE (runs_plain rfl) (Gives.p hE rfl) rfl ?_; clear hE a; intro a hE
                    obtain ⟨x368, hx369, hq352⟩ := bindS hq352
                    obtain ⟨hi370, hlt371, hy372⟩ := gx_some hx369
                    obtain ⟨vs373, hl374, hR375, hd376, hget377⟩ := hev351.at hy372
                    subst hR375
                    refine WL.vS hS hE (runs_plain rfl) (Gives.idx hE ((((k354 : Nat) : Int)).toNat) rfl rfl sl22 hi370 hlt371 (hS.nnAok 0 rfl hd350 hlt371)) rfl ?_; clear hE a; intro a hE
                    refine WL.vS hS hE (runs_plain rfl) (Gives.load1 hE rfl (fun w h => St.nnSees h 0 rfl hd350 ((((k354 : Nat) : Int)).toNat * 1) _ hget377) ty3) rfl ?_; clear hE a; intro a hE
                    refine WL.vS hS hE (runs_plain rfl) (Gives.p hE rfl) rfl ?_; clear hE a; intro a hE
                    refine WL.vS hS hE (runs_plain rfl) (Gives.p hE rfl) rfl ?_; clear hE a; intro a hE
                    refine WL.nil ?_
                    refine W.seq ?_
                    obtain ⟨q379, hq378, hq352⟩ := bndS hq352
                    refine W.cut (fun a w => ∃ (q382 : Bool), q382 = q379 ∧ Rep a 163 [(1, .pointer (some ⟨b51, 0, none⟩)), (2, .int .i64 q364), (3, .int .i64 q365), (4, .bool q366), (5, .int .i64 ((x0.Plan).length : Int)), (6, .int .i64 (w64 (((x0.Plan).length : Int) * 3))), (7, .int .i64 ((k54 : Nat) : Int)), (10, .slice (some ⟨b165, 0, none⟩) x163.length x163.length), (16, .int .i64 ((k354 : Nat) : Int)), (17, .int .i64 x368), (23, .int .i64 ((x0.Plan).length : Int)), (24, .int .i64 ((k54 : Nat) : Int)), (47, .int .i64 ((x0.Plan).length : Int)), (48, .int .i64 ((k143 : Nat) : Int)), (121, .slice a347 x342.length c348), (122, .int .i64 ((x342).length : Int)), (123, .int .i64 ((k354 : Nat) : Int)), (146, .bool q382)] ∧ St w s178 (nestC 22 3 1 (some ⟨b165, 0, none⟩) x163.length x163.length ds228 :: pt b51 (.cells #[.int .i64 x0.Period, .slice a0_0 x0.Plan.length c0_0, .slice a0_1 x0.Links.length c0_1] 25 (0, 0)) :: R)) ?_ ?_
                    · refine W.gen fun K383 hK383 => ?_
                      refine W.region ?_
                      refine WL.vS hS hE (runs_plain rfl) (Gives.p hE rfl) rfl ?_; clear hE a; intro a hE
                      refine WL.vS hS hE (runs_plain rfl) (Gives.p hE rfl) rfl ?_; clear hE a; intro a hE
                      refine WL.vS hS hE (runs_plain rfl) (Gives.p hE rfl) rfl ?_; clear hE a; intro a hE
                      rcases Bool.eq_false_or_eq_true (decide (x368 ≥ 0)) with hg384 | hg384
                      · replace hq378 := iteT hg384 hq378
                        refine WL.vS hS hE (runs_if hE rfl rfl rfl hg384) (Gives.p hE rfl) rfl ?_; clear hE a; intro a hE
                        refine WL.vS hS hE (runs_if hE rfl rfl rfl hg384) (Gives.p hE rfl) rfl ?_; clear hE a; intro a hE
                        refine WL.vS hS hE (runs_plain rfl) (Gives.pickT hE rfl hg384 rfl) rfl ?_; clear hE a; intro a hE
                        refine WL.vS hS hE (runs_plain rfl) (Gives.p hE rfl) rfl ?_; clear hE a; intro a hE
                        rcases Bool.eq_false_or_eq_true (decide (((k354 : Nat) : Int) > 0)) with hg385 | hg385
                        · replace hq378 := iteT hg385 hq378
                          refine WL.vS hS hE (runs_if hE rfl rfl rfl hg385) (Gives.p hE rfl) rfl ?_; clear hE a; intro a hE
                          refine WL.vS hS hE (runs_if hE rfl rfl rfl hg385) (Gives.p hE rfl) rfl ?_; clear hE a; intro a hE
                          refine WL.vS hS hE (runs_if hE rfl rfl rfl hg385) (Gives.p hE rfl) rfl ?_; clear hE a; intro a hE
                          rcases Bool.eq_false_or_eq_true !q366 with hg386 | hg386
                          · replace hq378 := iteT hg386 hq378
                            refine WL.no hE (runs_not hE rfl rfl rfl (by rw [hg386]; decide)) rfl ?_; clear hE a; intro a hE
                            refine WL.no hE (runs_not hE rfl rfl rfl (by rw [hg386]; decide)) rfl ?_; clear hE a; intro a hE
                            refine WL.no hE (runs_not hE rfl rfl rfl (by rw [hg386]; decide)) rfl ?_; clear hE a; intro a hE
                            refine WL.no hE (runs_not hE rfl rfl rfl (by rw [hg386]; decide)) rfl ?_; clear hE a; intro a hE
                            refine WL.no hE (runs_not hE rfl rfl rfl (by rw [hg386]; decide)) rfl ?_; clear hE a; intro a hE
                            refine WL.no hE (runs_not hE rfl rfl rfl (by rw [hg386]; decide)) rfl ?_; clear hE a; intro a hE
                            refine WL.no hE (runs_not hE rfl rfl rfl (by rw [hg386]; decide)) rfl ?_; clear hE a; intro a hE
                            refine WL.vS hS hE (runs_if hE rfl rfl rfl hg385) (Gives.pickT hE rfl hg386 rfl) rfl ?_; clear hE a; intro a hE
                            refine WL.vS hS hE (runs_plain rfl) (Gives.pickT hE rfl hg385 rfl) rfl ?_; clear hE a; intro a hE
                            refine WL.nil ?_
                            subst hK383
                            exact ⟨true, hq378, hE.pick _ ⟨rfl, rfl, rfl, rfl, rfl, rfl, rfl, rfl, rfl, rfl, rfl, rfl, rfl, rfl, rfl, rfl, rfl, rfl, trivial⟩, hS⟩
                          · replace hq378 := iteF hg386 hq378
                            refine WL.vS hS hE (runs_if hE rfl rfl rfl hg386) (Gives.p hE rfl) rfl ?_; clear hE a; intro a hE
                            refine WL.vS hS hE (runs_if hE rfl rfl rfl hg386) (Gives.p hE rfl) rfl ?_; clear hE a; intro a hE
                            refine WL.vS hS hE (runs_if hE rfl rfl rfl hg386) (Gives.p hE rfl) rfl ?_; clear hE a; intro a hE
                            refine WL.vS hS hE (runs_if hE rfl rfl rfl hg386) (Gives.p hE rfl) rfl ?_; clear hE a; intro a hE
                            refine WL.vS hS hE (runs_if hE rfl rfl rfl hg386) (Gives.p hE rfl) rfl ?_; clear hE a; intro a hE
                            refine WL.vS hS hE (runs_if hE rfl rfl rfl hg386) (Gives.p hE rfl) rfl ?_; clear hE a; intro a hE
                            refine WL.vS hS hE (runs_if hE rfl rfl rfl hg386) (Gives.p hE rfl) rfl ?_; clear hE a; intro a hE
                            refine WL.vS hS hE (runs_if hE rfl rfl rfl hg385) (Gives.pickF hE rfl hg386 rfl) rfl ?_; clear hE a; intro a hE
                            refine WL.vS hS hE (runs_plain rfl) (Gives.pickT hE rfl hg385 rfl) rfl ?_; clear hE a; intro a hE
                            refine WL.nil ?_
                            subst hK383
                            exact ⟨decide ((w64 (x368 * q365)) > (w64 (q364 * ((k354 : Nat) : Int)))), hq378, hE.pick _ ⟨rfl, rfl, rfl, rfl, rfl, rfl, rfl, rfl, rfl, rfl, rfl, rfl, rfl, rfl, rfl, rfl, rfl, rfl, trivial⟩, hS⟩
                        · replace hq378 := iteF hg385 hq378
                          refine WL.no hE (runs_not hE rfl rfl rfl (by rw [hg385]; decide)) rfl ?_; clear hE a; intro a hE
                          refine WL.no hE (runs_not hE rfl rfl rfl (by rw [hg385]; decide)) rfl ?_; clear hE a; intro a hE
                          refine WL.no hE (runs_not hE rfl rfl rfl (by rw [hg385]; decide)) rfl ?_; clear hE a; intro a hE
                          refine WL.no hE (runs_undef hE rfl rfl rfl) rfl ?_; clear hE a; intro a hE
                          refine WL.no hE (runs_undef hE rfl rfl rfl) rfl ?_; clear hE a; intro a hE
                          refine WL.no hE (runs_undef hE rfl rfl rfl) rfl ?_; clear hE a; intro a hE
                          refine WL.no hE (runs_undef hE rfl rfl rfl) rfl ?_; clear hE a; intro a hE
                          refine WL.no hE (runs_undef hE rfl rfl rfl) rfl ?_; clear hE a; intro a hE
                          refine WL.no hE (runs_undef hE rfl rfl rfl) rfl ?_; clear hE a; intro a hE
                          refine WL.no hE (runs_undef hE rfl rfl rfl) rfl ?_; clear hE a; intro a hE
                          refine WL.no hE (runs_not hE rfl rfl rfl (by rw [hg385]; decide)) rfl ?_; clear hE a; intro a hE
                          refine WL.vS hS hE (runs_plain rfl) (Gives.pickF hE rfl hg385 rfl) rfl ?_; clear hE a; intro a hE
                          refine WL.nil ?_
                          subst hK383
                          exact ⟨false, hq378, hE.pick _ ⟨rfl, rfl, rfl, rfl, rfl, rfl, rfl, rfl, rfl, rfl, rfl, rfl, rfl, rfl, rfl, rfl, rfl, rfl, trivial⟩, hS⟩
                      · replace hq378 := iteF hg384 hq378
                        refine WL.no hE (runs_not hE rfl rfl rfl (by rw [hg384]; decide)) rfl ?_; clear hE a; intro a hE
                        refine WL.no hE (runs_not hE rfl rfl rfl (by rw [hg384]; decide)) rfl ?_; clear hE a; intro a hE
                        refine WL.vS hS hE (runs_plain rfl) (Gives.pickF hE rfl hg384 rfl) rfl ?_; clear hE a; intro a hE
                        refine WL.vS hS hE (runs_plain rfl) (Gives.p hE rfl) rfl ?_; clear hE a; intro a hE
                        refine WL.no hE (runs_not hE rfl rfl rfl (by decide)) rfl ?_; clear hE a; intro a hE
                        refine WL.no hE (runs_not hE rfl rfl rfl (by decide)) rfl ?_; clear hE a; intro a hE
                        refine WL.no hE (runs_not hE rfl rfl rfl (by decide)) rfl ?_; clear hE a; intro a hE
                        refine WL.no hE (runs_undef hE rfl rfl rfl) rfl ?_; clear hE a; intro a hE
                        refine WL.no hE (runs_undef hE rfl rfl rfl) rfl ?_; clear hE a; intro a hE
                        refine WL.no hE (runs_undef hE rfl rfl rfl) rfl ?_; clear hE a; intro a hE
                        refine WL.no hE (runs_undef hE rfl rfl rfl) rfl ?_; clear hE a; intro a hE
                        refine WL.no hE (runs_undef hE rfl rfl rfl) rfl ?_; clear hE a; intro a hE
                        refine WL.no hE (runs_undef hE rfl rfl rfl) rfl ?_; clear hE a; intro a hE
                        refine WL.no hE (runs_undef hE rfl rfl rfl) rfl ?_; clear hE a; intro a hE
                        refine WL.no hE (runs_not hE rfl rfl rfl (by decide)) rfl ?_; clear hE a; intro a hE
                        refine WL.vS hS hE (runs_plain rfl) (Gives.pickF hE rfl rfl rfl) rfl ?_; clear hE a; intro a hE
                        refine WL.nil ?_
                        subst hK383
                        exact ⟨false, hq378, hE.pick _ ⟨rfl, rfl, rfl, rfl, rfl, rfl, rfl, rfl, rfl, rfl, rfl, rfl, rfl, rfl, rfl, rfl, rfl, rfl, trivial⟩, hS⟩
                    · clear hE hS a w; rintro a w ⟨q382, rfl, hE, hS⟩
                      obtain ⟨q388, hq387, hq352⟩ := bndS hq352
                      refine W.cut (fun a w => ∃ (q391 : Int), ∃ (q392 : Int), ∃ (q393 : Bool), (q391, q392, q393) = q388 ∧ Rep a 163 [(1, .pointer (some ⟨b51, 0, none⟩)), (2, .int .i64 q391), (3, .int .i64 q392), (4, .bool q393), (5, .int .i64 ((x0.Plan).length : Int)), (6, .int .i64 (w64 (((x0.Plan).length : Int) * 3))), (7, .int .i64 ((k54 : Nat) : Int)), (10, .slice (some ⟨b165, 0, none⟩) x163.length x163.length), (23, .int .i64 ((x0.Plan).length : Int)), (24, .int .i64 ((k54 : Nat) : Int)), (47, .int .i64 ((x0.Plan).length : Int)), (48, .int .i64 ((k143 : Nat) : Int)), (121, .slice a347 x342.length c348), (122, .int .i64 ((x342).length : Int)), (123, .int .i64 ((k354 : Nat) : Int))] ∧ St w s178 (nestC 22 3 1 (some ⟨b165, 0, none⟩) x163.length x163.length ds228 :: pt b51 (.cells #[.int .i64 x0.Period, .slice a0_0 x0.Plan.length c0_0, .slice a0_1 x0.Links.length c0_1] 25 (0, 0)) :: R)) ?_ ?_
                      · refine W.gen fun K394 hK394 => ?_
                        refine W.cond hE rfl (fun hc395 => ?_) (fun hc395 => ?_)
                        · replace hq387 := iteT hc395 hq387
                          refine W.region ?_
                          refine WL.vS hS hE (runs_plain rfl) (Gives.p hE rfl) rfl ?_; clear hE a; intro a hE
                          refine WL.vS hS hE (runs_plain rfl) (Gives.p hE rfl) rfl ?_; clear hE a; intro a hE
                          refine WL.vS hS hE (runs_plain rfl) (Gives.p hE rfl) rfl ?_; clear hE a; intro a hE
                          refine WL.vS hS hE (runs_plain rfl) (Gives.p hE rfl) rfl ?_; clear hE a; intro a hE
                          refine WL.vS hS hE (runs_plain rfl) (Gives.p hE rfl) rfl ?_; clear hE a; intro a hE
                          refine WL.nil ?_
                          subst hK394
                          exact ⟨x368, ((k354 : Nat) : Int), true, hq387, hE.pick _ ⟨rfl, rfl, rfl, rfl, rfl, rfl, rfl, rfl, rfl, rfl, rfl, rfl, rfl, rfl, rfl, trivial⟩, hS⟩
                        · replace hq387 := iteF hc395 hq387
                          refine W.skip ?_
                          subst hK394
                          exact ⟨q364, q365, q366, hq387, hE.pick _ ⟨rfl, rfl, rfl, rfl, rfl, rfl, rfl, rfl, rfl, rfl, rfl, rfl, rfl, rfl, rfl, trivial⟩, hS⟩
                      · clear hE hS a w; rintro a w ⟨q391, q392, q393, rfl, hE, hS⟩
                        dsimp only at hq352
                        refine W.region ?_
                        refine WL.vS hS hE (runs_plain rfl) (Gives.inc hE rfl (by omega)) rfl ?_; clear hE a; intro a hE
                        refine WL.vS hS hE (runs_plain rfl) (Gives.p hE rfl) rfl ?_; clear hE a; intro a hE
                        refine WL.nil ?_
                        subst hK367
                        exact ⟨rest356, Nat.lt_succ_self _, rest356, k354 + 1, q391, q392, q393, rfl, (by omega), hq352, hE.pick _ ⟨rfl, rfl, rfl, rfl, rfl, rfl, rfl, rfl, rfl, rfl, rfl, rfl, rfl, rfl, rfl, trivial⟩, hS⟩
                · clear hE hS a w; rintro a w ⟨q364, q365, q366, rfl, hE, hS⟩
                  dsimp only at hq141
                  refine W.region ?_
                  refine WL.vS hS hE (runs_plain rfl) (Gives.p hE rfl) rfl ?_; clear hE a; intro a hE
                  refine WL.vS hS hE (runs_plain rfl) (Gives.p hE rfl) rfl ?_; clear hE a; intro a hE
                  refine WL.nil ?_
                  refine W.region ?_
                  refine WL.vS hS hE (runs_plain rfl) (Gives.inc hE rfl (by have := h0_0.small; omega)) rfl ?_; clear hE a; intro a hE
                  refine WL.vS hS hE (runs_plain rfl) (Gives.p hE rfl) rfl ?_; clear hE a; intro a hE
                  refine WL.nil ?_
                  subst hK162
                  exact ⟨rest145.length, Nat.lt_succ_self _, rest145, k143 + 1, q364, q365, q366, q224, (some ⟨b165, 0, none⟩), x163.length, x163.length, ds228, s178, rfl, hd146, (Sg.Le.trans hle151 hle179), hq141, h229, hn230, hE.pick _ ⟨rfl, rfl, rfl, rfl, rfl, rfl, rfl, rfl, rfl, rfl, rfl, rfl, trivial⟩, hS⟩
        · clear hE hS a w; rintro a w ⟨q152, q153, q154, q155, a156, c157, n158, ds159, s150, hle151, rfl, h160, rfl, hE, hS⟩
          dsimp only at hq52
          replace h139 := NEv.mono RI.mono hle151 h139
          replace h0_0 := Sl.mono RI.mono hle151 h0_0
          replace h0_1 := Sl.mono RMendLink.mono hle151 h0_1
          refine W.region ?_
          refine WL.vS hS hE (runs_plain rfl) (Gives.inc hE rfl (by have := h0_0.small; omega)) rfl ?_; clear hE a; intro a hE
          refine WL.vS hS hE (runs_plain rfl) (Gives.p hE rfl) rfl ?_; clear hE a; intro a hE
          refine WL.nil ?_
          replace hS := hS.tail
          subst hK66
          exact ⟨rest56.length, Nat.lt_succ_self _, rest56, k54 + 1, q152, q153, q154, s150, rfl, hd57, (Sg.Le.trans (Sg.Le.trans hle62 hle83) hle151), hq52, hE.pick _ ⟨rfl, rfl, rfl, rfl, rfl, rfl, rfl, rfl, trivial⟩, hS⟩
  · clear hE hS a w; rintro a w ⟨q63, q64, q65, s61, hle62, rfl, hE, hS⟩
    dsimp only at hr
    replace h0_0 := Sl.mono RI.mono hle62 h0_0
    replace h0_1 := Sl.mono RMendLink.mono hle62 h0_1
    refine W.seq ?_
    refine W.seq ?_
    refine W.region ?_
    refine WL.vS hS hE (runs_plain rfl) (Gives.p hE rfl) rfl ?_; clear hE a; intro a hE
    refine WL.vS hS hE (runs_plain rfl) (Gives.p hE rfl) rfl ?_; clear hE a; intro a hE
    refine WL.nil ?_
    refine W.cond hE rfl (fun hc396 => ?_) (fun hc396 => ?_)
    · replace hr := iteT hc396 hr
      refine W.seq ?_
      refine W.region ?_
      refine WL.vS hS hE (runs_plain rfl) (Gives.p hE rfl) rfl ?_; clear hE a; intro a hE
      refine WL.vS hS hE (runs_plain rfl) (Gives.p hE rfl) rfl ?_; clear hE a; intro a hE
      refine WL.vS hS hE (runs_plain rfl) (Gives.p hE rfl) rfl ?_; clear hE a; intro a hE
      refine WL.nil ?_
      refine W.ret ?_
      refine finG (fn := Try.f17) (rs := [.tmp 2, .tmp 3, .tmp 4]) (vs := [_, _, _]) hE rfl ⟨rfl, rfl, rfl, trivial⟩ ?_
      obtain rfl := Option.some.inj hr
      replace hS := hS.tail
      exact ⟨rfl, (hS.down hle62)⟩
    · replace hr := iteF hc396 hr
      refine W.skip ?_
      refine W.seq ?_
      refine W.region ?_
      refine WL.vS hS hE (runs_plain rfl) (Gives.p hE rfl) rfl ?_; clear hE a; intro a hE
      refine WL.vS hS hE (runs_plain rfl) (Gives.p hE rfl) rfl ?_; clear hE a; intro a hE
      obtain ⟨q397, hq398, hr⟩ := bindS hr
      have hc_ := Fishref2Lowest_ok hS  hq398
      refine WL.fnq hE (hc_) (runs_plain rfl) bd58 rfl rfl rfl ?_
      clear hE hS hc_; rintro e w ⟨rfl, hS⟩; refine ⟨_, rfl, ?_⟩; clear a; intro a hE
      refine WL.vS hS hE (runs_plain rfl) (Gives.p hE rfl) rfl ?_; clear hE a; intro a hE
      refine WL.vS hS hE (runs_plain rfl) (Gives.p hE rfl) rfl ?_; clear hE a; intro a hE
      refine WL.vS hS hE (runs_plain rfl) (Gives.p hE rfl) rfl ?_; clear hE a; intro a hE
      refine WL.vS hS hE (runs_plain rfl) (Gives.p hE rfl) rfl ?_; clear hE a; intro a hE
      refine WL.vS hS hE (runs_plain rfl) (Gives.p hE rfl) rfl ?_; clear hE a; intro a hE
      refine WL.nil ?_
      refine W.seq ?_
      refine W.region ?_
      refine WL.vS hS hE (runs_plain rfl) (Gives.p hE rfl) rfl ?_; clear hE a; intro a hE
      refine WL.vS hS hE (runs_plain rfl) (Gives.p hE rfl) rfl ?_; clear hE a; intro a hE
      refine WL.vS hS hE (runs_plain rfl) (Gives.p hE rfl) rfl ?_; clear hE a; intro a hE
      refine WL.vS hS hE (runs_plain rfl) (Gives.p hE rfl) rfl ?_; clear hE a; intro a hE
      refine WL.vS hS hE (runs_plain rfl) (Gives.p hE rfl) rfl ?_; clear hE a; intro a hE
      refine WL.nil ?_
      refine W.ret ?_
      refine finG (fn := Try.f17) (rs := [.tmp 2, .tmp 3, .tmp 4]) (vs := [_, _, _]) hE rfl ⟨rfl, rfl, rfl, trivial⟩ ?_
      obtain rfl := Option.some.inj hr
      replace hS := hS.tail
      exact ⟨rfl, (hS.down hle62)⟩
set_option maxHeartbeats 8000000 in
theorem SlicesIndexLint_ok  {w : World} {s : Sg} {R : List HP} {x0 : List Int} {a0 : Option Addr} {c0 : Nat} {x1 : Int} (hS : St w s (R)) (h0 : Sl 1 (RI .i64) s a0 c0 x0) {r : Int} (hr : SlicesIndexLint x0 x1 = r) :
    Calls Try.prog 59 [.slice a0 x0.length c0, .int .i64 x1].toArray w (fun e w => e = .returned (.int .i64 r) ∧ St w s (R)) := by
  refine enter Try.func59 rfl rfl rfl fun a hE => ?_
  rw [SlicesIndexLint] at hr
  refine W.seq ?_
  refine W.region ?_
  refine WL.vS hS hE (runs_plain rfl) (Gives.p hE rfl) rfl ?_; clear hE a; intro a hE
  refine WL.nil ?_
  refine W.seq ?_
  refine W.seq ?_
  refine W.region ?_
  refine WL.vS hS hE (runs_plain rfl) (Gives.p hE rfl) rfl ?_; clear hE a; intro a hE
  refine WL.vS hS hE (runs_plain rfl) (Gives.len hE rfl sl22) rfl ?_; clear hE a; intro a hE
  refine WL.vS hS hE (runs_plain rfl) (Gives.p hE rfl) rfl ?_; clear hE a; intro a hE
  refine WL.nil ?_
  obtain ⟨q52, hq51, hr⟩ := bndS hr
  refine W.cut (fun a w => (.next ()) = q52 ∧ Rep a 19 [] ∧ St w s (R)) ?_ ?_
  · refine W.block ?_
    refine W.loop (fun m a w => ∃ (rest55 : List Int) (k53 : Nat), rest55.length = m ∧ x0.drop k53 = rest55 ∧ SlicesIndexLint.loop1 x1 rest55 k53 = q52 ∧ Rep a 19 [(0, .slice a0 x0.length c0), (1, .int .i64 x1), (7, .int .i64 ((x0).length : Int)), (8, .int .i64 ((k53 : Nat) : Int))] ∧ St w s (R)) (m := x0.length) ⟨x0, 0, rfl, rfl, hq51, hE.pick _ ⟨rfl, rfl, rfl, rfl, trivial⟩, hS⟩ ?_
    clear hE hS a w hq51; rintro m59 a w ⟨rest55, k53, rfl, hd56, hq51, hE, hS⟩
    refine W.gen fun K62 hK62 => ?_
    rcases rest55 with _ | ⟨x54, rest55⟩
    · have hlt57 := drop_nil hd56
      refine W.seq ?_
      refine W.region ?_
      refine WL.vS hS hE (runs_plain rfl) (Gives.p hE rfl) rfl ?_; clear hE a; intro a hE
      refine WL.nil ?_
      refine W.seq ?_
      refine W.condF hE rfl (decide_eq_false (by omega)) ?_
      subst hK62
      refine W.exit rfl ?_
      exact ⟨hq51, hE.pick _ trivial, hS⟩
    · obtain ⟨hlt57, hx58, hd56⟩ := drop_cons hd56
      rw [SlicesIndexLint.loop1] at hq51
      refine W.seq ?_
      refine W.region ?_
      refine WL.vS hS hE (runs_plain rfl) (Gives.p hE rfl) rfl ?_; clear hE a; intro a hE
      refine WL.nil ?_
      refine W.seq ?_
      refine W.condT hE rfl (decide_eq_true (by omega)) ?_
      refine W.skip ?_
      refine W.seq ?_
      refine W.block ?_
      refine W.seq ?_
      refine W.region ?_
      refine WL.vS hS hE (runs_plain rfl) (Gives.p hE rfl) rfl ?_; clear hE a; intro a hE
      refine WL.vS hS hE (runs_plain rfl) (Gives.p hE rfl) rfl ?_; clear hE a; intro a hE
      refine WL.nil ?_
      refine W.seq ?_
      refine W.region ?_
      refine WL.vS hS hE (runs_plain rfl) (Gives.p hE rfl) rfl ?_; clear hE a; intro a hE
      refine WL.vS hS hE (runs_plain rfl) (Gives.p hE rfl) rfl ?_; clear hE a; intro a hE
      refine WL.vS hS hE (runs_plain rfl) (Gives.p hE rfl) rfl ?_; clear hE a; intro a hE
      obtain ⟨cs63, hl64, hR65, hat66⟩ := h0.at hx58
      subst hR65
      refine WL.vS hS hE (runs_plain rfl) (Gives.idx hE k53 rfl rfl sl22 rfl hlt57 (h0.aok hlt57)) rfl ?_; clear hE a; intro a hE
      refine WL.vS hS hE (runs_plain rfl) (Gives.load1 hE rfl (fun w h => hat66 w _ h) ty3) rfl ?_; clear hE a; intro a hE
      refine WL.vS hS hE (runs_plain rfl) (Gives.p hE rfl) rfl ?_; clear hE a; intro a hE
      refine WL.nil ?_
      refine W.cond hE rfl (fun hc67 => ?_) (fun hc67 => ?_)
      · replace hq51 := iteT hc67 hq51
        refine W.seq ?_
        refine W.region ?_
        refine WL.vS hS hE (runs_plain rfl) (Gives.p hE rfl) rfl ?_; clear hE a; intro a hE
        refine WL.vS hS hE (runs_plain rfl) (Gives.p hE rfl) rfl ?_; clear hE a; intro a hE
        refine WL.nil ?_
        refine W.ret ?_
        subst hK62
        rw [← hq51] at hr
        dsimp only at hr
        refine finG (fn := Try.f59) (rs := [.tmp 4]) (vs := [_]) hE rfl ⟨rfl, trivial⟩ ?_
        subst hr
        exact ⟨rfl, hS⟩
      · replace hq51 := iteF hc67 hq51
        refine W.skip ?_
        refine W.region ?_
        refine WL.vS hS hE (runs_plain rfl) (Gives.inc hE rfl (by have := h0.small; omega)) rfl ?_; clear hE a; intro a hE
        refine WL.vS hS hE (runs_plain rfl) (Gives.p hE rfl) rfl ?_; clear hE a; intro a hE
        refine WL.nil ?_
        subst hK62
        exact ⟨rest55.length, Nat.lt_succ_self _, rest55, k53 + 1, rfl, hd56, hq51, hE.pick _ ⟨rfl, rfl, rfl, rfl, trivial⟩, hS⟩
  · clear hE hS a w; rintro a w ⟨rfl, hE, hS⟩
    dsimp only at hr
    refine W.seq ?_
    refine W.region ?_
    refine WL.vS hS hE (runs_plain rfl) (Gives.p hE rfl) rfl ?_; clear hE a; intro a hE
    refine WL.nil ?_
    refine W.ret ?_
    refine finG (fn := Try.f59) (rs := [.tmp 4]) (vs := [_]) hE rfl ⟨rfl, trivial⟩ ?_
    subst hr
    exact ⟨rfl, hS⟩
set_option maxHeartbeats 8000000 in
theorem SlicesContainsLint_ok  {w : World} {s : Sg} {R : List HP} {x0 : List Int} {a0 : Option Addr} {c0 : Nat} {x1 : Int} (hS : St w s (R)) (h0 : Sl 1 (RI .i64) s a0 c0 x0) {r : Bool} (hr : SlicesContainsLint x0 x1 = r) :
    Calls Try.prog 18 [.slice a0 x0.length c0, .int .i64 x1].toArray w (fun e w => e = .returned (.bool r) ∧ St w s (R)) := by
  refine enter Try.func18 rfl rfl rfl fun a hE => ?_
  rw [SlicesContainsLint] at hr
  refine W.seq ?_
  refine W.region ?_
  refine WL.vS hS hE (runs_plain rfl) (Gives.p hE rfl) rfl ?_; clear hE a; intro a hE
  refine WL.nil ?_
  refine W.seq ?_
  refine W.region ?_
  refine WL.vS hS hE (runs_plain rfl) (Gives.p hE rfl) rfl ?_; clear hE a; intro a hE
  refine WL.vS hS hE (runs_plain rfl) (Gives.p hE rfl) rfl ?_; clear hE a; intro a hE
  refine WL.fnq hE (SlicesIndexLint_ok hS h0 rfl (r := SlicesIndexLint x0 x1)) (runs_plain rfl) bd59 rfl rfl rfl ?_
  clear hE hS; rintro e w ⟨rfl, hS⟩; refine ⟨_, rfl, ?_⟩; clear a; intro a hE
  refine WL.vS hS hE (runs_plain rfl) (Gives.p hE rfl) rfl ?_; clear hE a; intro a hE
  refine WL.vS hS hE (runs_plain rfl) (Gives.p hE rfl) rfl ?_; clear hE a; intro a hE
  refine WL.nil ?_
  refine W.ret ?_
  refine finG (fn := Try.f18) (rs := [.tmp 4]) (vs := [_]) hE rfl ⟨rfl, trivial⟩ ?_
  subst hr
  exact ⟨rfl, hS⟩
set_option maxHeartbeats 8000000 in
theorem Fishlaw2MendRounds_ok {fu : Nat}  {w : World} {s : Sg} {R : List HP} {x0 : MendRound} {a0_0 : Option Addr} {c0_0 : Nat} {a0_1 : Option Addr} {c0_1 : Nat} (hS : St w s (R)) (h0_0 : Sl 1 (RI .i64) s a0_0 c0_0 x0.Plan) (h0_1 : Sl 4 RMendLink s a0_1 c0_1 x0.Links) {r : Bool} (hr : Fishlaw2MendRounds fu x0 = some r) :
    Calls Try.prog 3 [.agg [.int .i64 x0.Period, .slice a0_0 x0.Plan.length c0_0, .slice a0_1 x0.Links.length c0_1].toArray].toArray w (fun e w => e = .returned (.bool r) ∧ St w s (R)) := by
  refine enter Try.func3 rfl rfl rfl fun a hE => ?_
  rw [Fishlaw2MendRounds] at hr
  refine W.seq ?_
  refine W.region ?_
  refine WL.box hE hS (runs_plain rfl) rfl rfl rfl ?_; clear hE hS a w; intro b51 a w hE hS
  refine WL.vS hS hE (runs_plain rfl) (Gives.p hE rfl) rfl ?_; clear hE a; intro a hE
  refine WL.nil ?_
  refine W.seq ?_
  refine W.region ?_
  refine WL.vS hS hE (runs_plain rfl) (Gives.loadBA hE 0 rfl rfl ty25) rfl ?_; clear hE a; intro a hE
  obtain ⟨q52, hq53, hr⟩ := bindS hr
  have hc_ := MendMean_ok hS h0_0 h0_1 hq53
  refine WL.fnq hE (hc_) (runs_plain rfl) bd12 rfl rfl rfl ?_
  clear hE hS hc_; rintro e w ⟨a54, c55, s57, rfl, hle58, h56, hS⟩; refine ⟨_, rfl, ?_⟩; clear a; intro a hE
  replace h0_0 := Sl.mono RI.mono hle58 h0_0
  replace h0_1 := Sl.mono RMendLink.mono hle58 h0_1
  refine WL.vS hS hE (runs_plain rfl) (Gives.p hE rfl) rfl ?_; clear hE a; intro a hE
  refine WL.vS hS hE (runs_plain rfl) (Gives.p hE rfl) rfl ?_; clear hE a; intro a hE
  refine WL.vS hS hE (runs_plain rfl) (Gives.p hE rfl) rfl ?_; clear hE a; intro a hE
  refine WL.vS hS hE (runs_plain rfl) (Gives.p hE rfl) rfl ?_; clear hE a; intro a hE
  refine WL.vS hS hE (runs_plain rfl) (Gives.p hE rfl) rfl ?_; clear hE a; intro a hE
  refine WL.vS hS hE (runs_plain rfl) (Gives.p hE rfl) rfl ?_; clear hE a; intro a hE
  refine WL.vS hS hE (runs_plain rfl) (Gives.p hE rfl) rfl ?_; clear hE a; intro a hE
  refine WL.vS hS hE (runs_plain rfl) (Gives.p hE rfl) rfl ?_; clear hE a; intro a hE
  refine WL.vS hS hE (runs_plain rfl) (Gives.p hE rfl) rfl ?_; clear hE a; intro a hE
  refine WL.nil ?_
  refine W.seq ?_
  refine W.region ?_
  refine WL.vS hS hE (runs_plain rfl) (Gives.loadBA hE 0 rfl rfl ty25) rfl ?_; clear hE a; intro a hE
  obtain ⟨q59, hq60, hr⟩ := bindS hr
  have hc_ := MendStable_ok hS h0_0 h0_1 hq60
  refine WL.fnq hE (hc_) (runs_plain rfl) bd13 rfl rfl rfl ?_
  clear hE hS hc_; rintro e w ⟨rfl, hS⟩; refine ⟨_, rfl, ?_⟩; clear a; intro a hE
  refine WL.vS hS hE (runs_plain rfl) (Gives.p hE rfl) rfl ?_; clear hE a; intro a hE
  refine WL.vS hS hE (runs_plain rfl) (Gives.p hE rfl) rfl ?_; clear hE a; intro a hE
  refine WL.vS hS hE (runs_plain rfl) (Gives.p hE rfl) rfl ?_; clear hE a; intro a hE
  refine WL.vS hS hE (runs_plain rfl) (Gives.p hE rfl) rfl ?_; clear hE a; intro a hE
  refine WL.vS hS hE (runs_plain rfl) (Gives.p hE rfl) rfl ?_; clear hE a; intro a hE
  refine WL.nil ?_
  refine W.seq ?_
  refine W.region ?_
  refine WL.vS hS hE (runs_plain rfl) (Gives.loadBA hE 0 rfl rfl ty25) rfl ?_; clear hE a; intro a hE
  obtain ⟨q61, hq62, hr⟩ := bindS hr
  have hc_ := Fishref2RoundFault_ok hS h0_0 h0_1 hq62
  refine WL.fnq hE (hc_) (runs_plain rfl) bd14 rfl rfl rfl ?_
  clear hE hS hc_; rintro e w ⟨rfl, hS⟩; refine ⟨_, rfl, ?_⟩; clear a; intro a hE
  refine WL.vS hS hE (runs_plain rfl) (Gives.p hE rfl) rfl ?_; clear hE a; intro a hE
  refine WL.nil ?_
  refine W.seq ?_
  refine W.seq ?_
  obtain ⟨q64, hq63, hr⟩ := bindS hr
  refine W.cut (fun a w => ∃ (q67 : Bool), q67 = q64 ∧ Rep a 204 [(1, .pointer (some ⟨b51, 0, none⟩)), (3, .int .i64 q52.1), (4, .int .i64 q52.2.1), (5, .slice a54 q52.2.2.1.length c55), (6, .int .i64 q52.2.2.2), (7, .bool q59.1), (8, .int .i64 q59.2), (9, .int .i64 q61), (41, .bool q67)] ∧ St w s57 (pt b51 (.cells #[.int .i64 x0.Period, .slice a0_0 x0.Plan.length c0_0, .slice a0_1 x0.Links.length c0_1] 25 (0, 0)) :: R)) ?_ ?_
  · refine W.gen fun K68 hK68 => ?_
    refine W.region ?_
    obtain ⟨q69, hq70, hq63⟩ := bindS hq63
    have hc_ := Fishlaw2rounds_ok hS  hq70
    refine WL.fnq hE (hc_) (runs_plain rfl) bd15 rfl rfl rfl ?_
    clear hE hS hc_; rintro e w ⟨rfl, hS⟩; refine ⟨_, rfl, ?_⟩; clear a; intro a hE
    refine WL.vS hS hE (runs_plain rfl) (Gives.p hE rfl) rfl ?_; clear hE a; intro a hE
    refine WL.vS hS hE (runs_plain rfl) (Gives.p hE rfl) rfl ?_; clear hE a; intro a hE
    rcases Bool.eq_false_or_eq_true !q69 with hg71 | hg71
    · replace hq63 := iteT hg71 hq63
      refine WL.no hE (runs_not hE rfl rfl rfl (by rw [hg71]; decide)) rfl ?_; clear hE a; intro a hE
      refine WL.no hE (runs_not hE rfl rfl rfl (by rw [hg71]; decide)) rfl ?_; clear hE a; intro a hE
      refine WL.no hE (runs_not hE rfl rfl rfl (by rw [hg71]; decide)) rfl ?_; clear hE a; intro a hE
      refine WL.no hE (runs_not hE rfl rfl rfl (by rw [hg71]; decide)) rfl ?_; clear hE a; intro a hE
      refine WL.vS hS hE (runs_plain rfl) (Gives.pickT hE rfl hg71 rfl) rfl ?_; clear hE a; intro a hE
      refine WL.nil ?_
      subst hK68
      exact ⟨true, Option.some.inj hq63, hE.pick _ ⟨rfl, rfl, rfl, rfl, rfl, rfl, rfl, rfl, rfl, trivial⟩, hS⟩
    · replace hq63 := iteF hg71 hq63
      refine WL.vS hS hE (runs_if hE rfl rfl rfl hg71) (Gives.loadBA hE 0 rfl rfl ty25) rfl ?_; clear hE a; intro a hE
      obtain ⟨q72, hq73, hq63⟩ := bindS hq63
      have hc_ := MendCheckRound_ok hS h0_0 h0_1 hq73
      refine WL.fnq hE (hc_) (runs_if hE rfl rfl rfl hg71) bd16 rfl rfl rfl ?_
      clear hE hS hc_; rintro e w ⟨rfl, hS⟩; refine ⟨_, rfl, ?_⟩; clear a; intro a hE
      refine WL.vS hS hE (runs_if hE rfl rfl rfl hg71) (Gives.p hE rfl) rfl ?_; clear hE a; intro a hE
      refine WL.vS hS hE (runs_if hE rfl rfl rfl hg71) (Gives.p hE rfl) rfl ?_; clear hE a; intro a hE
      refine WL.vS hS hE (runs_plain rfl) (Gives.pickF hE rfl hg71 rfl) rfl ?_; clear hE a; intro a hE
      refine WL.nil ?_
      subst hK68
      exact ⟨(q72 != q61), Option.some.inj hq63, hE.pick _ ⟨rfl, rfl, rfl, rfl, rfl, rfl, rfl, rfl, rfl, trivial⟩, hS⟩
  · clear hE hS a w; rintro a w ⟨q67, rfl, hE, hS⟩
    refine W.cond hE rfl (fun hc74 => ?_) (fun hc74 => ?_)
    · replace hr := iteT hc74 hr
      refine W.seq ?_
      refine W.region ?_
      refine WL.vS hS hE (runs_plain rfl) (Gives.p hE rfl) rfl ?_; clear hE a; intro a hE
      refine WL.nil ?_
      refine W.ret ?_
      refine finG (fn := Try.f3) (rs := [.tmp 2]) (vs := [_]) hE rfl ⟨rfl, trivial⟩ ?_
      obtain rfl := Option.some.inj hr
      replace hS := hS.tail
      exact ⟨rfl, (hS.down hle58)⟩
    · replace hr := iteF hc74 hr
      refine W.skip ?_
      refine W.seq ?_
      refine W.seq ?_
      refine W.region ?_
      refine WL.vS hS hE (runs_plain rfl) (Gives.p hE rfl) rfl ?_; clear hE a; intro a hE
      refine WL.vS hS hE (runs_plain rfl) (Gives.p hE rfl) rfl ?_; clear hE a; intro a hE
      refine WL.nil ?_
      refine W.cond hE rfl (fun hc75 => ?_) (fun hc75 => ?_)
      · replace hr := iteT hc75 hr
        refine W.seq ?_
        obtain ⟨q77, hq76, hr⟩ := bndS hr
        refine W.cut (fun a w => ∃ (q80 : Bool), q80 = q77 ∧ Rep a 204 [(2, .bool q80)] ∧ St w s57 (pt b51 (.cells #[.int .i64 x0.Period, .slice a0_0 x0.Plan.length c0_0, .slice a0_1 x0.Links.length c0_1] 25 (0, 0)) :: R)) ?_ ?_
        · refine W.gen fun K81 hK81 => ?_
          refine W.region ?_
          refine WL.vS hS hE (runs_plain rfl) (Gives.p hE rfl) rfl ?_; clear hE a; intro a hE
          refine WL.vS hS hE (runs_plain rfl) (Gives.p hE rfl) rfl ?_; clear hE a; intro a hE
          refine WL.vS hS hE (runs_plain rfl) (Gives.p hE rfl) rfl ?_; clear hE a; intro a hE
          refine WL.vS hS hE (runs_plain rfl) (Gives.p hE rfl) rfl ?_; clear hE a; intro a hE
          rcases Bool.eq_false_or_eq_true (q52.2.2.2 == q61) with hg82 | hg82
          · replace hq76 := iteT hg82 hq76
            refine WL.vS hS hE (runs_if hE rfl rfl rfl hg82) (Gives.p hE rfl) rfl ?_; clear hE a; intro a hE
            refine WL.vS hS hE (runs_if hE rfl rfl rfl hg82) (Gives.p hE rfl) rfl ?_; clear hE a; intro a hE
            refine WL.vS hS hE (runs_if hE rfl rfl rfl hg82) (Gives.p hE rfl) rfl ?_; clear hE a; intro a hE
            refine WL.vS hS hE (runs_plain rfl) (Gives.pickT hE rfl hg82 rfl) rfl ?_; clear hE a; intro a hE
            refine WL.vS hS hE (runs_plain rfl) (Gives.p hE rfl) rfl ?_; clear hE a; intro a hE
            rcases Bool.eq_false_or_eq_true (q59.2 == q61) with hg83 | hg83
            · replace hq76 := iteT hg83 hq76
              refine WL.vS hS hE (runs_if hE rfl rfl rfl hg83) (Gives.p hE rfl) rfl ?_; clear hE a; intro a hE
              refine WL.vS hS hE (runs_if hE rfl rfl rfl hg83) (Gives.p hE rfl) rfl ?_; clear hE a; intro a hE
              refine WL.vS hS hE (runs_plain rfl) (Gives.pickT hE rfl hg83 rfl) rfl ?_; clear hE a; intro a hE
              refine WL.vS hS hE (runs_plain rfl) (Gives.p hE rfl) rfl ?_; clear hE a; intro a hE
              rcases Bool.eq_false_or_eq_true (q52.1 == 0) with hg84 | hg84
              · replace hq76 := iteT hg84 hq76
                refine WL.vS hS hE (runs_if hE rfl rfl rfl hg84) (Gives.p hE rfl) rfl ?_; clear hE a; intro a hE
                refine WL.vS hS hE (runs_if hE rfl rfl rfl hg84) (Gives.p hE rfl) rfl ?_; clear hE a; intro a hE
                refine WL.vS hS hE (runs_plain rfl) (Gives.pickT hE rfl hg84 rfl) rfl ?_; clear hE a; intro a hE
                refine WL.vS hS hE (runs_plain rfl) (Gives.p hE rfl) rfl ?_; clear hE a; intro a hE
                rcases Bool.eq_false_or_eq_true (q52.2.1 == 0) with hg85 | hg85
                · replace hq76 := iteT hg85 hq76
                  refine WL.vS hS hE (runs_if hE rfl rfl rfl hg85) (Gives.p hE rfl) rfl ?_; clear hE a; intro a hE
                  refine WL.vS hS hE (runs_if hE rfl rfl rfl hg85) (Gives.len hE rfl sl22) rfl ?_; clear hE a; intro a hE
                  refine WL.vS hS hE (runs_if hE rfl rfl rfl hg85) (Gives.p hE rfl) rfl ?_; clear hE a; intro a hE
                  refine WL.vS hS hE (runs_plain rfl) (Gives.pickT hE rfl hg85 rfl) rfl ?_; clear hE a; intro a hE
                  refine WL.vS hS hE (runs_plain rfl) (Gives.p hE rfl) rfl ?_; clear hE a; intro a hE
                  rcases Bool.eq_false_or_eq_true (((q52.2.2.1).length : Int) == 0) with hg86 | hg86
                  · replace hq76 := iteT hg86 hq76
                    refine WL.vS hS hE (runs_if hE rfl rfl rfl hg86) (Gives.p hE rfl) rfl ?_; clear hE a; intro a hE
                    refine WL.vS hS hE (runs_if hE rfl rfl rfl hg86) (Gives.p hE rfl) rfl ?_; clear hE a; intro a hE
                    refine WL.vS hS hE (runs_plain rfl) (Gives.pickT hE rfl hg86 rfl) rfl ?_; clear hE a; intro a hE
                    refine WL.vS hS hE (runs_plain rfl) (Gives.p hE rfl) rfl ?_; clear hE a; intro a hE
                    refine WL.nil ?_
                    subst hK81
                    exact ⟨!q59.1, hq76, hE.pick _ ⟨rfl, trivial⟩, hS⟩
                  · replace hq76 := iteF hg86 hq76
                    refine WL.no hE (runs_not hE rfl rfl rfl (by rw [hg86]; decide)) rfl ?_; clear hE a; intro a hE
                    refine WL.no hE (runs_not hE rfl rfl rfl (by rw [hg86]; decide)) rfl ?_; clear hE a; intro a hE
                    refine WL.vS hS hE (runs_plain rfl) (Gives.pickF hE rfl hg86 rfl) rfl ?_; clear hE a; intro a hE
                    refine WL.vS hS hE (runs_plain rfl) (Gives.p hE rfl) rfl ?_; clear hE a; intro a hE
                    refine WL.nil ?_
                    subst hK81
                    exact ⟨false, hq76, hE.pick _ ⟨rfl, trivial⟩, hS⟩
                · replace hq76 := iteF hg85 hq76
                  refine WL.no hE (runs_not hE rfl rfl rfl (by rw [hg85]; decide)) rfl ?_; clear hE a; intro a hE
                  refine WL.no hE (runs_not hE rfl rfl rfl (by rw [hg85]; decide)) rfl ?_; clear hE a; intro a hE
                  refine WL.no hE (runs_not hE rfl rfl rfl (by rw [hg85]; decide)) rfl ?_; clear hE a; intro a hE
                  refine WL.vS hS hE (runs_plain rfl) (Gives.pickF hE rfl hg85 rfl) rfl ?_; clear hE a; intro a hE
                  refine WL.vS hS hE (runs_plain rfl) (Gives.p hE rfl) rfl ?_; clear hE a; intro a hE
                  refine WL.no hE (runs_not hE rfl rfl rfl (by decide)) rfl ?_; clear hE a; intro a hE
                  refine WL.no hE (runs_not hE rfl rfl rfl (by decide)) rfl ?_; clear hE a; intro a hE
                  refine WL.vS hS hE (runs_plain rfl) (Gives.pickF hE rfl rfl rfl) rfl ?_; clear hE a; intro a hE
                  refine WL.vS hS hE (runs_plain rfl) (Gives.p hE rfl) rfl ?_; clear hE a; intro a hE
                  refine WL.nil ?_
                  subst hK81
                  exact ⟨false, hq76, hE.pick _ ⟨rfl, trivial⟩, hS⟩
              · replace hq76 := iteF hg84 hq76
                refine WL.no hE (runs_not hE rfl rfl rfl (by rw [hg84]; decide)) rfl ?_; clear hE a; intro a hE
                refine WL.no hE (runs_not hE rfl rfl rfl (by rw [hg84]; decide)) rfl ?_; clear hE a; intro a hE
                refine WL.vS hS hE (runs_plain rfl) (Gives.pickF hE rfl hg84 rfl) rfl ?_; clear hE a; intro a hE
                refine WL.vS hS hE (runs_plain rfl) (Gives.p hE rfl) rfl ?_; clear hE a; intro a hE
                refine WL.no hE (runs_not hE rfl rfl rfl (by decide)) rfl ?_; clear hE a; intro a hE
                refine WL.no hE (runs_not hE rfl rfl rfl (by decide)) rfl ?_; clear hE a; intro a hE
                refine WL.no hE (runs_not hE rfl rfl rfl (by decide)) rfl ?_; clear hE a; intro a hE
                refine WL.vS hS hE (runs_plain rfl) (Gives.pickF hE rfl rfl rfl) rfl ?_; clear hE a; intro a hE
                refine WL.vS hS hE (runs_plain rfl) (Gives.p hE rfl) rfl ?_; clear hE a; intro a hE
                refine WL.no hE (runs_not hE rfl rfl rfl (by decide)) rfl ?_; clear hE a; intro a hE
                refine WL.no hE (runs_not hE rfl rfl rfl (by decide)) rfl ?_; clear hE a; intro a hE
                refine WL.vS hS hE (runs_plain rfl) (Gives.pickF hE rfl rfl rfl) rfl ?_; clear hE a; intro a hE
                refine WL.vS hS hE (runs_plain rfl) (Gives.p hE rfl) rfl ?_; clear hE a; intro a hE
                refine WL.nil ?_
                subst hK81
                exact ⟨false, hq76, hE.pick _ ⟨rfl, trivial⟩, hS⟩
            · replace hq76 := iteF hg83 hq76
              refine WL.no hE (runs_not hE rfl rfl rfl (by rw [hg83]; decide)) rfl ?_; clear hE a; intro a hE
              refine WL.no hE (runs_not hE rfl rfl rfl (by rw [hg83]; decide)) rfl ?_; clear hE a; intro a hE
              refine WL.vS hS hE (runs_plain rfl) (Gives.pickF hE rfl hg83 rfl) rfl ?_; clear hE a; intro a hE
              refine WL.vS hS hE (runs_plain rfl) (Gives.p hE rfl) rfl ?_; clear hE a; intro a hE
              refine WL.no hE (runs_not hE rfl rfl rfl (by decide)) rfl ?_; clear hE a; intro a hE
              refine WL.no hE (runs_not hE rfl rfl rfl (by decide)) rfl ?_; clear hE a; intro a hE
              refine WL.vS hS hE (runs_plain rfl) (Gives.pickF hE rfl rfl rfl) rfl ?_; clear hE a; intro a hE
              refine WL.vS hS hE (runs_plain rfl) (Gives.p hE rfl) rfl ?_; clear hE a; intro a hE
              refine WL.no hE (runs_not hE rfl rfl rfl (by decide)) rfl ?_; clear hE a; intro a hE
              refine WL.no hE (runs_not hE rfl rfl rfl (by decide)) rfl ?_; clear hE a; intro a hE
              refine WL.no hE (runs_not hE rfl rfl rfl (by decide)) rfl ?_; clear hE a; intro a hE
              refine WL.vS hS hE (runs_plain rfl) (Gives.pickF hE rfl rfl rfl) rfl ?_; clear hE a; intro a hE
              refine WL.vS hS hE (runs_plain rfl) (Gives.p hE rfl) rfl ?_; clear hE a; intro a hE
              refine WL.no hE (runs_not hE rfl rfl rfl (by decide)) rfl ?_; clear hE a; intro a hE
              refine WL.no hE (runs_not hE rfl rfl rfl (by decide)) rfl ?_; clear hE a; intro a hE
              refine WL.vS hS hE (runs_plain rfl) (Gives.pickF hE rfl rfl rfl) rfl ?_; clear hE a; intro a hE
              refine WL.vS hS hE (runs_plain rfl) (Gives.p hE rfl) rfl ?_; clear hE a; intro a hE
              refine WL.nil ?_
              subst hK81
              exact ⟨false, hq76, hE.pick _ ⟨rfl, trivial⟩, hS⟩
          · replace hq76 := iteF hg82 hq76
            refine WL.no hE (runs_not hE rfl rfl rfl (by rw [hg82]; decide)) rfl ?_; clear hE a; intro a hE
            refine WL.no hE (runs_not hE rfl rfl rfl (by rw [hg82]; decide)) rfl ?_; clear hE a; intro a hE
            refine WL.no hE (runs_not hE rfl rfl rfl (by rw [hg82]; decide)) rfl ?_; clear hE a; intro a hE
            refine WL.vS hS hE (runs_plain rfl) (Gives.pickF hE rfl hg82 rfl) rfl ?_; clear hE a; intro a hE
            refine WL.vS hS hE (runs_plain rfl) (Gives.p hE rfl) rfl ?_; clear hE a; intro a hE
            refine WL.no hE (runs_not hE rfl rfl rfl (by decide)) rfl ?_; clear hE a; intro a hE
            refine WL.no hE (runs_not hE rfl rfl rfl (by decide)) rfl ?_; clear hE a; intro a hE
            refine WL.vS hS hE (runs_plain rfl) (Gives.pickF hE rfl rfl rfl) rfl ?_; clear hE a; intro a hE
            refine WL.vS hS hE (runs_plain rfl) (Gives.p hE rfl) rfl ?_; clear hE a; intro a hE
            refine WL.no hE (runs_not hE rfl rfl rfl (by decide)) rfl ?_; clear hE a; intro a hE
            refine WL.no hE (runs_not hE rfl rfl rfl (by decide)) rfl ?_; clear hE a; intro a hE
            refine WL.vS hS hE (runs_plain rfl) (Gives.pickF hE rfl rfl rfl) rfl ?_; clear hE a; intro a hE
            refine WL.vS hS hE (runs_plain rfl) (Gives.p hE rfl) rfl ?_; clear hE a; intro a hE
            refine WL.no hE (runs_not hE rfl rfl rfl (by decide)) rfl ?_; clear hE a; intro a hE
            refine WL.no hE (runs_not hE rfl rfl rfl (by decide)) rfl ?_; clear hE a; intro a hE
            refine WL.no hE (runs_not hE rfl rfl rfl (by decide)) rfl ?_; clear hE a; intro a hE
            refine WL.vS hS hE (runs_plain rfl) (Gives.pickF hE rfl rfl rfl) rfl ?_; clear hE a; intro a hE
            refine WL.vS hS hE (runs_plain rfl) (Gives.p hE rfl) rfl ?_; clear hE a; intro a hE
            refine WL.no hE (runs_not hE rfl rfl rfl (by decide)) rfl ?_; clear hE a; intro a hE
            refine WL.no hE (runs_not hE rfl rfl rfl (by decide)) rfl ?_; clear hE a; intro a hE
            refine WL.vS hS hE (runs_plain rfl) (Gives.pickF hE rfl rfl rfl) rfl ?_; clear hE a; intro a hE
            refine WL.vS hS hE (runs_plain rfl) (Gives.p hE rfl) rfl ?_; clear hE a; intro a hE
            refine WL.nil ?_
            subst hK81
            exact ⟨false, hq76, hE.pick _ ⟨rfl, trivial⟩, hS⟩
        · clear hE hS a w; rintro a w ⟨q80, rfl, hE, hS⟩
          refine W.ret ?_
          refine finG (fn := Try.f3) (rs := [.tmp 2]) (vs := [_]) hE rfl ⟨rfl, trivial⟩ ?_
          obtain rfl := Option.some.inj hr
          replace hS := hS.tail
          exact ⟨rfl, (hS.down hle58)⟩
      · replace hr := iteF hc75 hr
        refine W.skip ?_
        refine W.seq ?_
        refine W.region ?_
        refine WL.vS hS hE (runs_plain rfl) (Gives.loadBA hE 0 rfl rfl ty25) rfl ?_; clear hE a; intro a hE
        obtain ⟨q87, hq88, hr⟩ := bindS hr
        have hc_ := Fishref2MeanOf_ok hS h0_0 h0_1 hq88
        refine WL.fnq hE (hc_) (runs_plain rfl) bd17 rfl rfl rfl ?_
        clear hE hS hc_; rintro e w ⟨rfl, hS⟩; refine ⟨_, rfl, ?_⟩; clear a; intro a hE
        refine WL.vS hS hE (runs_plain rfl) (Gives.p hE rfl) rfl ?_; clear hE a; intro a hE
        refine WL.vS hS hE (runs_plain rfl) (Gives.p hE rfl) rfl ?_; clear hE a; intro a hE
        refine WL.vS hS hE (runs_plain rfl) (Gives.p hE rfl) rfl ?_; clear hE a; intro a hE
        refine WL.vS hS hE (runs_plain rfl) (Gives.p hE rfl) rfl ?_; clear hE a; intro a hE
        refine WL.vS hS hE (runs_plain rfl) (Gives.p hE rfl) rfl ?_; clear hE a; intro a hE
        refine WL.vS hS hE (runs_plain rfl) (Gives.p hE rfl) rfl ?_; clear hE a; intro a hE
        refine WL.vS hS hE (runs_plain rfl) (Gives.p hE rfl) rfl ?_; clear hE a; intro a hE
        refine WL.nil ?_
        refine W.seq ?_
        refine W.seq ?_
        obtain ⟨q90, hq89, hr⟩ := bndS hr
        refine W.cut (fun a w => ∃ (q93 : Bool), q93 = q90 ∧ Rep a 204 [(1, .pointer (some ⟨b51, 0, none⟩)), (3, .int .i64 q52.1), (4, .int .i64 q52.2.1), (5, .slice a54 q52.2.2.1.length c55), (6, .int .i64 q52.2.2.2), (10, .int .i64 q87.1), (11, .int .i64 q87.2.1), (12, .bool q87.2.2), (90, .bool q93)] ∧ St w s57 (pt b51 (.cells #[.int .i64 x0.Period, .slice a0_0 x0.Plan.length c0_0, .slice a0_1 x0.Links.length c0_1] 25 (0, 0)) :: R)) ?_ ?_
        · refine W.gen fun K94 hK94 => ?_
          refine W.region ?_
          refine WL.vS hS hE (runs_plain rfl) (Gives.p hE rfl) rfl ?_; clear hE a; intro a hE
          refine WL.vS hS hE (runs_plain rfl) (Gives.p hE rfl) rfl ?_; clear hE a; intro a hE
          refine WL.vS hS hE (runs_plain rfl) (Gives.p hE rfl) rfl ?_; clear hE a; intro a hE
          rcases Bool.eq_false_or_eq_true (q59.2 != 0) with hg95 | hg95
          · replace hq89 := iteT hg95 hq89
            refine WL.no hE (runs_not hE rfl rfl rfl (by rw [hg95]; decide)) rfl ?_; clear hE a; intro a hE
            refine WL.no hE (runs_not hE rfl rfl rfl (by rw [hg95]; decide)) rfl ?_; clear hE a; intro a hE
            refine WL.no hE (runs_not hE rfl rfl rfl (by rw [hg95]; decide)) rfl ?_; clear hE a; intro a hE
            refine WL.no hE (runs_not hE rfl rfl rfl (by rw [hg95]; decide)) rfl ?_; clear hE a; intro a hE
            refine WL.no hE (runs_undef hE rfl rfl rfl) rfl ?_; clear hE a; intro a hE
            refine WL.no hE (runs_undef hE rfl rfl rfl) rfl ?_; clear hE a; intro a hE
            refine WL.no hE (runs_undef hE rfl rfl rfl) rfl ?_; clear hE a; intro a hE
            refine WL.no hE (runs_undef hE rfl rfl rfl) rfl ?_; clear hE a; intro a hE
            refine WL.no hE (runs_undef hE rfl rfl rfl) rfl ?_; clear hE a; intro a hE
            refine WL.no hE (runs_undef hE rfl rfl rfl) rfl ?_; clear hE a; intro a hE
            refine WL.no hE (runs_not hE rfl rfl rfl (by rw [hg95]; decide)) rfl ?_; clear hE a; intro a hE
            refine WL.no hE (runs_not hE rfl rfl rfl (by rw [hg95]; decide)) rfl ?_; clear hE a; intro a hE
            refine WL.vS hS hE (runs_plain rfl) (Gives.pickT hE rfl hg95 rfl) rfl ?_; clear hE a; intro a hE
            refine WL.nil ?_
            subst hK94
            exact ⟨true, hq89, hE.pick _ ⟨rfl, rfl, rfl, rfl, rfl, rfl, rfl, rfl, rfl, trivial⟩, hS⟩
          · replace hq89 := iteF hg95 hq89
            refine WL.vS hS hE (runs_if hE rfl rfl rfl hg95) (Gives.p hE rfl) rfl ?_; clear hE a; intro a hE
            refine WL.vS hS hE (runs_if hE rfl rfl rfl hg95) (Gives.p hE rfl) rfl ?_; clear hE a; intro a hE
            refine WL.vS hS hE (runs_if hE rfl rfl rfl hg95) (Gives.p hE rfl) rfl ?_; clear hE a; intro a hE
            refine WL.vS hS hE (runs_if hE rfl rfl rfl hg95) (Gives.p hE rfl) rfl ?_; clear hE a; intro a hE
            rcases Bool.eq_false_or_eq_true !q87.2.2 with hg96 | hg96
            · replace hq89 := iteT hg96 hq89
              refine WL.no hE (runs_not hE rfl rfl rfl (by rw [hg96]; decide)) rfl ?_; clear hE a; intro a hE
              refine WL.no hE (runs_not hE rfl rfl rfl (by rw [hg96]; decide)) rfl ?_; clear hE a; intro a hE
              refine WL.no hE (runs_not hE rfl rfl rfl (by rw [hg96]; decide)) rfl ?_; clear hE a; intro a hE
              refine WL.no hE (runs_not hE rfl rfl rfl (by rw [hg96]; decide)) rfl ?_; clear hE a; intro a hE
              refine WL.no hE (runs_not hE rfl rfl rfl (by rw [hg96]; decide)) rfl ?_; clear hE a; intro a hE
              refine WL.no hE (runs_not hE rfl rfl rfl (by rw [hg96]; decide)) rfl ?_; clear hE a; intro a hE
              refine WL.vS hS hE (runs_if hE rfl rfl rfl hg95) (Gives.pickT hE rfl hg96 rfl) rfl ?_; clear hE a; intro a hE
              refine WL.vS hS hE (runs_if hE rfl rfl rfl hg95) (Gives.neB hE rfl rfl bl4) rfl ?_; clear hE a; intro a hE
              refine WL.vS hS hE (runs_plain rfl) (Gives.pickF hE rfl hg95 rfl) rfl ?_; clear hE a; intro a hE
              refine WL.nil ?_
              subst hK94
              exact ⟨!(q59.1 == true), hq89, hE.pick _ ⟨rfl, rfl, rfl, rfl, rfl, rfl, rfl, rfl, rfl, trivial⟩, hS⟩
            · replace hq89 := iteF hg96 hq89
              refine WL.vS hS hE (runs_if hE rfl rfl rfl hg96) (Gives.p hE rfl) rfl ?_; clear hE a; intro a hE
              refine WL.vS hS hE (runs_if hE rfl rfl rfl hg96) (Gives.p hE rfl) rfl ?_; clear hE a; intro a hE
              refine WL.vS hS hE (runs_if hE rfl rfl rfl hg96) (Gives.fld hE rfl fl25_0) rfl ?_; clear hE a; intro a hE
              refine WL.vS hS hE (runs_if hE rfl rfl rfl hg96) (Gives.loadB hE 0 rfl rfl rfl ty3) rfl ?_; clear hE a; intro a hE
              refine WL.vS hS hE (runs_if hE rfl rfl rfl hg96) (Gives.p hE rfl) rfl ?_; clear hE a; intro a hE
              refine WL.vS hS hE (runs_if hE rfl rfl rfl hg96) (Gives.p hE rfl) rfl ?_; clear hE a; intro a hE
              refine WL.vS hS hE (runs_if hE rfl rfl rfl hg95) (Gives.pickF hE rfl hg96 rfl) rfl ?_; clear hE a; intro a hE
              refine WL.vS hS hE (runs_if hE rfl rfl rfl hg95) (Gives.neB hE rfl rfl bl4) rfl ?_; clear hE a; intro a hE
              refine WL.vS hS hE (runs_plain rfl) (Gives.pickF hE rfl hg95 rfl) rfl ?_; clear hE a; intro a hE
              refine WL.nil ?_
              subst hK94
              exact ⟨!(q59.1 == (decide (q87.1 < (w64 (q87.2.1 * x0.Period))))), hq89, hE.pick _ ⟨rfl, rfl, rfl, rfl, rfl, rfl, rfl, rfl, rfl, trivial⟩, hS⟩
        · clear hE hS a w; rintro a w ⟨q93, rfl, hE, hS⟩
          refine W.cond hE rfl (fun hc97 => ?_) (fun hc97 => ?_)
          · replace hr := iteT hc97 hr
            refine W.seq ?_
            refine W.region ?_
            refine WL.vS hS hE (runs_plain rfl) (Gives.p hE rfl) rfl ?_; clear hE a; intro a hE
            refine WL.nil ?_
            refine W.ret ?_
            refine finG (fn := Try.f3) (rs := [.tmp 2]) (vs := [_]) hE rfl ⟨rfl, trivial⟩ ?_
            obtain rfl := Option.some.inj hr
            replace hS := hS.tail
            exact ⟨rfl, (hS.down hle58)⟩
          · replace hr := iteF hc97 hr
            refine W.skip ?_
            refine W.seq ?_
            refine W.seq ?_
            refine W.region ?_
            refine WL.vS hS hE (runs_plain rfl) (Gives.p hE rfl) rfl ?_; clear hE a; intro a hE
            refine WL.vS hS hE (runs_plain rfl) (Gives.p hE rfl) rfl ?_; clear hE a; intro a hE
            refine WL.nil ?_
            refine W.cond hE rfl (fun hc98 => ?_) (fun hc98 => ?_)
            · replace hr := iteT hc98 hr
              refine W.seq ?_
              obtain ⟨q100, hq99, hr⟩ := bndS hr
              refine W.cut (fun a w => ∃ (q103 : Bool), q103 = q100 ∧ Rep a 204 [(2, .bool q103)] ∧ St w s57 (pt b51 (.cells #[.int .i64 x0.Period, .slice a0_0 x0.Plan.length c0_0, .slice a0_1 x0.Links.length c0_1] 25 (0, 0)) :: R)) ?_ ?_
              · refine W.gen fun K104 hK104 => ?_
                refine W.region ?_
                refine WL.vS hS hE (runs_plain rfl) (Gives.p hE rfl) rfl ?_; clear hE a; intro a hE
                refine WL.vS hS hE (runs_plain rfl) (Gives.p hE rfl) rfl ?_; clear hE a; intro a hE
                refine WL.vS hS hE (runs_plain rfl) (Gives.p hE rfl) rfl ?_; clear hE a; intro a hE
                rcases Bool.eq_false_or_eq_true (q52.2.2.2 == 9) with hg105 | hg105
                · replace hq99 := iteT hg105 hq99
                  refine WL.vS hS hE (runs_if hE rfl rfl rfl hg105) (Gives.p hE rfl) rfl ?_; clear hE a; intro a hE
                  refine WL.vS hS hE (runs_if hE rfl rfl rfl hg105) (Gives.p hE rfl) rfl ?_; clear hE a; intro a hE
                  refine WL.vS hS hE (runs_plain rfl) (Gives.pickT hE rfl hg105 rfl) rfl ?_; clear hE a; intro a hE
                  refine WL.vS hS hE (runs_plain rfl) (Gives.p hE rfl) rfl ?_; clear hE a; intro a hE
                  rcases Bool.eq_false_or_eq_true (q52.1 == 0) with hg106 | hg106
                  · replace hq99 := iteT hg106 hq99
                    refine WL.vS hS hE (runs_if hE rfl rfl rfl hg106) (Gives.p hE rfl) rfl ?_; clear hE a; intro a hE
                    refine WL.vS hS hE (runs_if hE rfl rfl rfl hg106) (Gives.p hE rfl) rfl ?_; clear hE a; intro a hE
                    refine WL.vS hS hE (runs_plain rfl) (Gives.pickT hE rfl hg106 rfl) rfl ?_; clear hE a; intro a hE
                    refine WL.vS hS hE (runs_plain rfl) (Gives.p hE rfl) rfl ?_; clear hE a; intro a hE
                    rcases Bool.eq_false_or_eq_true (q52.2.1 == 0) with hg107 | hg107
                    · replace hq99 := iteT hg107 hq99
                      refine WL.vS hS hE (runs_if hE rfl rfl rfl hg107) (Gives.p hE rfl) rfl ?_; clear hE a; intro a hE
                      refine WL.vS hS hE (runs_if hE rfl rfl rfl hg107) (Gives.len hE rfl sl22) rfl ?_; clear hE a; intro a hE
                      refine WL.vS hS hE (runs_if hE rfl rfl rfl hg107) (Gives.p hE rfl) rfl ?_; clear hE a; intro a hE
                      refine WL.vS hS hE (runs_plain rfl) (Gives.pickT hE rfl hg107 rfl) rfl ?_; clear hE a; intro a hE
                      refine WL.vS hS hE (runs_plain rfl) (Gives.p hE rfl) rfl ?_; clear hE a; intro a hE
                      refine WL.nil ?_
                      subst hK104
                      exact ⟨(((q52.2.2.1).length : Int) == 0), hq99, hE.pick _ ⟨rfl, trivial⟩, hS⟩
                    · replace hq99 := iteF hg107 hq99
                      refine WL.no hE (runs_not hE rfl rfl rfl (by rw [hg107]; decide)) rfl ?_; clear hE a; intro a hE
                      refine WL.no hE (runs_not hE rfl rfl rfl (by rw [hg107]; decide)) rfl ?_; clear hE a; intro a hE
                      refine WL.no hE (runs_not hE rfl rfl rfl (by rw [hg107]; decide)) rfl ?_; clear hE a; intro a hE
                      refine WL.vS hS hE (runs_plain rfl) (Gives.pickF hE rfl hg107 rfl) rfl ?_; clear hE a; intro a hE
                      refine WL.vS hS hE (runs_plain rfl) (Gives.p hE rfl) rfl ?_; clear hE a; intro a hE
                      refine WL.nil ?_
                      subst hK104
                      exact ⟨false, hq99, hE.pick _ ⟨rfl, trivial⟩, hS⟩
                  · replace hq99 := iteF hg106 hq99
                    refine WL.no hE (runs_not hE rfl rfl rfl (by rw [hg106]; decide)) rfl ?_; clear hE a; intro a hE
                    refine WL.no hE (runs_not hE rfl rfl rfl (by rw [hg106]; decide)) rfl ?_; clear hE a; intro a hE
                    refine WL.vS hS hE (runs_plain rfl) (Gives.pickF hE rfl hg106 rfl) rfl ?_; clear hE a; intro a hE
                    refine WL.vS hS hE (runs_plain rfl) (Gives.p hE rfl) rfl ?_; clear hE a; intro a hE
                    refine WL.no hE (runs_not hE rfl rfl rfl (by decide)) rfl ?_; clear hE a; intro a hE
                    refine WL.no hE (runs_not hE rfl rfl rfl (by decide)) rfl ?_; clear hE a; intro a hE
                    refine WL.no hE (runs_not hE rfl rfl rfl (by decide)) rfl ?_; clear hE a; intro a hE
                    refine WL.vS hS hE (runs_plain rfl) (Gives.pickF hE rfl rfl rfl) rfl ?_; clear hE a; intro a hE
                    refine WL.vS hS hE (runs_plain rfl) (Gives.p hE rfl) rfl ?_; clear hE a; intro a hE
                    refine WL.nil ?_
                    subst hK104
                    exact ⟨false, hq99, hE.pick _ ⟨rfl, trivial⟩, hS⟩
                · replace hq99 := iteF hg105 hq99
                  refine WL.no hE (runs_not hE rfl rfl rfl (by rw [hg105]; decide)) rfl ?_; clear hE a; intro a hE
                  refine WL.no hE (runs_not hE rfl rfl rfl (by rw [hg105]; decide)) rfl ?_; clear hE a; intro a hE
                  refine WL.vS hS hE (runs_plain rfl) (Gives.pickF hE rfl hg105 rfl) rfl ?_; clear hE a; intro a hE
                  refine WL.vS hS hE (runs_plain rfl) (Gives.p hE rfl) rfl ?_; clear hE a; intro a hE
                  refine WL.no hE (runs_not hE rfl rfl rfl (by decide)) rfl ?_; clear hE a; intro a hE
                  refine WL.no hE (runs_not hE rfl rfl rfl (by decide)) rfl ?_; clear hE a; intro a hE
                  refine WL.vS hS hE (runs_plain rfl) (Gives.pickF hE rfl rfl rfl) rfl ?_; clear hE a; intro a hE
                  refine WL.vS hS hE (runs_plain rfl) (Gives.p hE rfl) rfl ?_; clear hE a; intro a hE
                  refine WL.no hE (runs_not hE rfl rfl rfl (by decide)) rfl ?_; clear hE a; intro a hE
                  refine WL.no hE (runs_not hE rfl rfl rfl (by decide)) rfl ?_; clear hE a; intro a hE
                  refine WL.no hE (runs_not hE rfl rfl rfl (by decide)) rfl ?_; clear hE a; intro a hE
                  refine WL.vS hS hE (runs_plain rfl) (Gives.pickF hE rfl rfl rfl) rfl ?_; clear hE a; intro a hE
                  refine WL.vS hS hE (runs_plain rfl) (Gives.p hE rfl) rfl ?_; clear hE a; intro a hE
                  refine WL.nil ?_
                  subst hK104
                  exact ⟨false, hq99, hE.pick _ ⟨rfl, trivial⟩, hS⟩
              · clear hE hS a w; rintro a w ⟨q103, rfl, hE, hS⟩
                refine W.ret ?_
                refine finG (fn := Try.f3) (rs := [.tmp 2]) (vs := [_]) hE rfl ⟨rfl, trivial⟩ ?_
                obtain rfl := Option.some.inj hr
                replace hS := hS.tail
                exact ⟨rfl, (hS.down hle58)⟩
            · replace hr := iteF hc98 hr
              refine W.skip ?_
              refine W.seq ?_
              refine W.seq ?_
              obtain ⟨q109, hq108, hr⟩ := bndS hr
              refine W.cut (fun a w => ∃ (q112 : Bool), q112 = q109 ∧ Rep a 204 [(1, .pointer (some ⟨b51, 0, none⟩)), (3, .int .i64 q52.1), (4, .int .i64 q52.2.1), (5, .slice a54 q52.2.2.1.length c55), (124, .bool q112)] ∧ St w s57 (pt b51 (.cells #[.int .i64 x0.Period, .slice a0_0 x0.Plan.length c0_0, .slice a0_1 x0.Links.length c0_1] 25 (0, 0)) :: R)) ?_ ?_
              · refine W.gen fun K113 hK113 => ?_
                refine W.region ?_
                refine WL.vS hS hE (runs_plain rfl) (Gives.p hE rfl) rfl ?_; clear hE a; intro a hE
                refine WL.vS hS hE (runs_plain rfl) (Gives.p hE rfl) rfl ?_; clear hE a; intro a hE
                refine WL.vS hS hE (runs_plain rfl) (Gives.p hE rfl) rfl ?_; clear hE a; intro a hE
                rcases Bool.eq_false_or_eq_true (q52.2.2.2 != 0) with hg114 | hg114
                · replace hq108 := iteT hg114 hq108
                  refine WL.no hE (runs_not hE rfl rfl rfl (by rw [hg114]; decide)) rfl ?_; clear hE a; intro a hE
                  refine WL.no hE (runs_not hE rfl rfl rfl (by rw [hg114]; decide)) rfl ?_; clear hE a; intro a hE
                  refine WL.no hE (runs_not hE rfl rfl rfl (by rw [hg114]; decide)) rfl ?_; clear hE a; intro a hE
                  refine WL.vS hS hE (runs_plain rfl) (Gives.pickT hE rfl hg114 rfl) rfl ?_; clear hE a; intro a hE
                  refine WL.vS hS hE (runs_plain rfl) (Gives.p hE rfl) rfl ?_; clear hE a; intro a hE
                  refine WL.no hE (runs_not hE rfl rfl rfl (by decide)) rfl ?_; clear hE a; intro a hE
                  refine WL.no hE (runs_not hE rfl rfl rfl (by decide)) rfl ?_; clear hE a; intro a hE
                  refine WL.no hE (runs_not hE rfl rfl rfl (by decide)) rfl ?_; clear hE a; intro a hE
                  refine WL.vS hS hE (runs_plain rfl) (Gives.pickT hE rfl rfl rfl) rfl ?_; clear hE a; intro a hE
                  refine WL.vS hS hE (runs_plain rfl) (Gives.p hE rfl) rfl ?_; clear hE a; intro a hE
                  refine WL.no hE (runs_not hE rfl rfl rfl (by decide)) rfl ?_; clear hE a; intro a hE
                  refine WL.no hE (runs_not hE rfl rfl rfl (by decide)) rfl ?_; clear hE a; intro a hE
                  refine WL.no hE (runs_not hE rfl rfl rfl (by decide)) rfl ?_; clear hE a; intro a hE
                  refine WL.vS hS hE (runs_plain rfl) (Gives.pickT hE rfl rfl rfl) rfl ?_; clear hE a; intro a hE
                  refine WL.nil ?_
                  subst hK113
                  exact ⟨true, hq108, hE.pick _ ⟨rfl, rfl, rfl, rfl, rfl, trivial⟩, hS⟩
                · replace hq108 := iteF hg114 hq108
                  refine WL.vS hS hE (runs_if hE rfl rfl rfl hg114) (Gives.p hE rfl) rfl ?_; clear hE a; intro a hE
                  refine WL.vS hS hE (runs_if hE rfl rfl rfl hg114) (Gives.p hE rfl) rfl ?_; clear hE a; intro a hE
                  refine WL.vS hS hE (runs_if hE rfl rfl rfl hg114) (Gives.p hE rfl) rfl ?_; clear hE a; intro a hE
                  refine WL.vS hS hE (runs_plain rfl) (Gives.pickF hE rfl hg114 rfl) rfl ?_; clear hE a; intro a hE
                  refine WL.vS hS hE (runs_plain rfl) (Gives.p hE rfl) rfl ?_; clear hE a; intro a hE
                  rcases Bool.eq_false_or_eq_true (q52.1 != q87.1) with hg115 | hg115
                  · replace hq108 := iteT hg115 hq108
                    refine WL.no hE (runs_not hE rfl rfl rfl (by rw [hg115]; decide)) rfl ?_; clear hE a; intro a hE
                    refine WL.no hE (runs_not hE rfl rfl rfl (by rw [hg115]; decide)) rfl ?_; clear hE a; intro a hE
                    refine WL.no hE (runs_not hE rfl rfl rfl (by rw [hg115]; decide)) rfl ?_; clear hE a; intro a hE
                    refine WL.vS hS hE (runs_plain rfl) (Gives.pickT hE rfl hg115 rfl) rfl ?_; clear hE a; intro a hE
                    refine WL.vS hS hE (runs_plain rfl) (Gives.p hE rfl) rfl ?_; clear hE a; intro a hE
                    refine WL.no hE (runs_not hE rfl rfl rfl (by decide)) rfl ?_; clear hE a; intro a hE
                    refine WL.no hE (runs_not hE rfl rfl rfl (by decide)) rfl ?_; clear hE a; intro a hE
                    refine WL.no hE (runs_not hE rfl rfl rfl (by decide)) rfl ?_; clear hE a; intro a hE
                    refine WL.vS hS hE (runs_plain rfl) (Gives.pickT hE rfl rfl rfl) rfl ?_; clear hE a; intro a hE
                    refine WL.nil ?_
                    subst hK113
                    exact ⟨true, hq108, hE.pick _ ⟨rfl, rfl, rfl, rfl, rfl, trivial⟩, hS⟩
                  · replace hq108 := iteF hg115 hq108
                    refine WL.vS hS hE (runs_if hE rfl rfl rfl hg115) (Gives.p hE rfl) rfl ?_; clear hE a; intro a hE
                    refine WL.vS hS hE (runs_if hE rfl rfl rfl hg115) (Gives.p hE rfl) rfl ?_; clear hE a; intro a hE
                    refine WL.vS hS hE (runs_if hE rfl rfl rfl hg115) (Gives.p hE rfl) rfl ?_; clear hE a; intro a hE
                    refine WL.vS hS hE (runs_plain rfl) (Gives.pickF hE rfl hg115 rfl) rfl ?_; clear hE a; intro a hE
                    refine WL.vS hS hE (runs_plain rfl) (Gives.p hE rfl) rfl ?_; clear hE a; intro a hE
                    rcases Bool.eq_false_or_eq_true (q52.2.1 != q87.2.1) with hg116 | hg116
                    · replace hq108 := iteT hg116 hq108
                      refine WL.no hE (runs_not hE rfl rfl rfl (by rw [hg116]; decide)) rfl ?_; clear hE a; intro a hE
                      refine WL.no hE (runs_not hE rfl rfl rfl (by rw [hg116]; decide)) rfl ?_; clear hE a; intro a hE
                      refine WL.no hE (runs_not hE rfl rfl rfl (by rw [hg116]; decide)) rfl ?_; clear hE a; intro a hE
                      refine WL.vS hS hE (runs_plain rfl) (Gives.pickT hE rfl hg116 rfl) rfl ?_; clear hE a; intro a hE
                      refine WL.nil ?_
                      subst hK113
                      exact ⟨true, hq108, hE.pick _ ⟨rfl, rfl, rfl, rfl, rfl, trivial⟩, hS⟩
                    · replace hq108 := iteF hg116 hq108
                      refine WL.vS hS hE (runs_if hE rfl rfl rfl hg116) (Gives.p hE rfl) rfl ?_; clear hE a; intro a hE
                      refine WL.vS hS hE (runs_if hE rfl rfl rfl hg116) (Gives.len hE rfl sl22) rfl ?_; clear hE a; intro a hE
                      refine WL.vS hS hE (runs_if hE rfl rfl rfl hg116) (Gives.p hE rfl) rfl ?_; clear hE a; intro a hE
                      refine WL.vS hS hE (runs_plain rfl) (Gives.pickF hE rfl hg116 rfl) rfl ?_; clear hE a; intro a hE
                      refine WL.nil ?_
                      subst hK113
                      exact ⟨(((q52.2.2.1).length : Int) == 0), hq108, hE.pick _ ⟨rfl, rfl, rfl, rfl, rfl, trivial⟩, hS⟩
              · clear hE hS a w; rintro a w ⟨q112, rfl, hE, hS⟩
                refine W.cond hE rfl (fun hc117 => ?_) (fun hc117 => ?_)
                · replace hr := iteT hc117 hr
                  refine W.seq ?_
                  refine W.region ?_
                  refine WL.vS hS hE (runs_plain rfl) (Gives.p hE rfl) rfl ?_; clear hE a; intro a hE
                  refine WL.nil ?_
                  refine W.ret ?_
                  refine finG (fn := Try.f3) (rs := [.tmp 2]) (vs := [_]) hE rfl ⟨rfl, trivial⟩ ?_
                  obtain rfl := Option.some.inj hr
                  replace hS := hS.tail
                  exact ⟨rfl, (hS.down hle58)⟩
                · replace hr := iteF hc117 hr
                  refine W.skip ?_
                  refine W.seq ?_
                  refine W.region ?_
                  replace hS := hS.vecNil 3 1
                  refine WL.vS hS hE (runs_plain rfl) (Gives.p hE rfl) rfl ?_; clear hE a; intro a hE
                  refine WL.nil ?_
                  refine W.seq ?_
                  refine W.region ?_
                  refine WL.vS hS hE (runs_plain rfl) (Gives.p hE rfl) rfl ?_; clear hE a; intro a hE
                  refine WL.vS hS hE (runs_plain rfl) (Gives.p hE rfl) rfl ?_; clear hE a; intro a hE
                  refine WL.nil ?_
                  refine W.seq ?_
                  refine W.seq ?_
                  refine W.region ?_
                  refine WL.vS hS hE (runs_plain rfl) (Gives.p hE rfl) rfl ?_; clear hE a; intro a hE
                  refine WL.vS hS hE (runs_plain rfl) (Gives.len hE rfl sl22) rfl ?_; clear hE a; intro a hE
                  refine WL.vS hS hE (runs_plain rfl) (Gives.p hE rfl) rfl ?_; clear hE a; intro a hE
                  refine WL.nil ?_
                  obtain ⟨q120, hq119, hr⟩ := bindS hr
                  refine W.cut (fun a w => ∃ (q130 : List Int), ∃ (q137 : Int), ∃ (q138 : Int), ∃ (a131 : Option Addr), ∃ (c132 : Nat), ∃ (n134 : Nat), ∃ (cs135 : List Value), (.next (q130, q137, q138)) = q120 ∧ Ev 1 (RI .i64) s57 cs135 q130 ∧ q130.length = n134 ∧ Rep a 204 [(3, .int .i64 q52.1), (4, .int .i64 q52.2.1), (14, .int .i64 q137), (15, .int .i64 q138)] ∧ St w s57 (vecC 3 1 a131 c132 n134 cs135 :: pt b51 (.cells #[.int .i64 x0.Period, .slice a0_0 x0.Plan.length c0_0, .slice a0_1 x0.Links.length c0_1] 25 (0, 0)) :: R)) ?_ ?_
                  · refine W.block ?_
                    refine W.loop (fun m a w => ∃ (rest123 : List Int) (k121 : Nat), ∃ (q130 : List Int), ∃ (q137 : Int), ∃ (q138 : Int), ∃ (a131 : Option Addr), ∃ (c132 : Nat), ∃ (n134 : Nat), ∃ (cs135 : List Value), rest123.length = m ∧ q52.2.2.1.drop k121 = rest123 ∧ Fishlaw2MendRounds.loop1 x0 q52 rest123 k121 q130 q137 q138 = some q120 ∧ Ev 1 (RI .i64) s57 cs135 q130 ∧ q130.length = n134 ∧ Rep a 204 [(1, .pointer (some ⟨b51, 0, none⟩)), (3, .int .i64 q52.1), (4, .int .i64 q52.2.1), (5, .slice a54 q52.2.2.1.length c55), (13, .slice a131 n134 c132), (14, .int .i64 q137), (15, .int .i64 q138), (125, .slice a54 q52.2.2.1.length c55), (126, .int .i64 ((q52.2.2.1).length : Int)), (127, .int .i64 ((k121 : Nat) : Int))] ∧ St w s57 (vecC 3 1 a131 c132 n134 cs135 :: pt b51 (.cells #[.int .i64 x0.Period, .slice a0_0 x0.Plan.length c0_0, .slice a0_1 x0.Links.length c0_1] 25 (0, 0)) :: R)) (m := q52.2.2.1.length) ⟨q52.2.2.1, 0, [], 0, 0, none, 0, 0, [], rfl, rfl, hq119, (Ev.nil), (rfl), hE.pick _ ⟨rfl, rfl, rfl, rfl, rfl, rfl, rfl, rfl, rfl, rfl, trivial⟩, hS⟩ ?_
                    clear hE hS a w hq119; rintro m127 a w ⟨rest123, k121, q130, q137, q138, a131, c132, n134, cs135, rfl, hd124, hq119, h133, rfl, hE, hS⟩
                    refine W.gen fun K139 hK139 => ?_
                    rcases rest123 with _ | ⟨x122, rest123⟩
                    · have hlt125 := drop_nil hd124
                      refine W.seq ?_
                      refine W.region ?_
                      refine WL.vS hS hE (runs_plain rfl) (Gives.p hE rfl) rfl ?_; clear hE a; intro a hE
                      refine WL.nil ?_
                      refine W.seq ?_
                      refine W.condF hE rfl (decide_eq_false (by omega)) ?_
                      subst hK139
                      refine W.exit rfl ?_
                      exact ⟨q130, q137, q138, a131, c132, q130.length, cs135, Option.some.inj hq119, h133, rfl, hE.pick _ ⟨rfl, rfl, rfl, rfl, trivial⟩, hS⟩
                    · obtain ⟨hlt125, hx126, hd124⟩ := drop_cons hd124
                      rw [Fishlaw2MendRounds.loop1] at hq119
                      refine W.seq ?_
                      refine W.region ?_
                      refine WL.vS hS hE (runs_plain rfl) (Gives.p hE rfl) rfl ?_; clear hE a; intro a hE
                      refine WL.nil ?_
                      refine W.seq ?_
                      refine W.condT hE rfl (decide_eq_true (by omega)) ?_
                      refine W.skip ?_
                      refine W.seq ?_
                      refine W.block ?_
                      refine W.seq ?_
                      refine W.region ?_
                      refine WL.vS hS hE (runs_plain rfl) (Gives.p hE rfl) rfl ?_; clear hE a; intro a hE
                      obtain ⟨cs140, hl141, hR142, hat143⟩ := h56.at hx126
                      subst hR142
                      refine WL.vS hS hE (runs_plain rfl) (Gives.idx hE k121 rfl rfl sl22 rfl hlt125 (h56.aok hlt125)) rfl ?_; clear hE a; intro a hE
                      refine WL.vS hS hE (runs_plain rfl) (Gives.load1 hE rfl (fun w h => hat143 w _ h) ty3) rfl ?_; clear hE a; intro a hE
                      refine WL.vS hS hE (runs_plain rfl) (Gives.p hE rfl) rfl ?_; clear hE a; intro a hE
                      refine WL.vS hS hE (runs_plain rfl) (Gives.p hE rfl) rfl ?_; clear hE a; intro a hE
                      refine WL.nil ?_
                      refine W.seq ?_
                      refine W.seq ?_
                      obtain ⟨q145, hq144, hq119⟩ := bndS hq119
                      refine W.cut (fun a w => ∃ (q148 : Bool), q148 = q145 ∧ Rep a 204 [(1, .pointer (some ⟨b51, 0, none⟩)), (3, .int .i64 q52.1), (4, .int .i64 q52.2.1), (5, .slice a54 q52.2.2.1.length c55), (13, .slice a131 q130.length c132), (14, .int .i64 q137), (15, .int .i64 q138), (16, .int .i64 ((k121 : Nat) : Int)), (17, .int .i64 x122), (125, .slice a54 q52.2.2.1.length c55), (126, .int .i64 ((q52.2.2.1).length : Int)), (127, .int .i64 ((k121 : Nat) : Int)), (140, .bool q148)] ∧ St w s57 (vecC 3 1 a131 c132 q130.length cs135 :: pt b51 (.cells #[.int .i64 x0.Period, .slice a0_0 x0.Plan.length c0_0, .slice a0_1 x0.Links.length c0_1] 25 (0, 0)) :: R)) ?_ ?_
                      · refine W.gen fun K149 hK149 => ?_
                        refine W.region ?_
                        refine WL.vS hS hE (runs_plain rfl) (Gives.p hE rfl) rfl ?_; clear hE a; intro a hE
                        refine WL.vS hS hE (runs_plain rfl) (Gives.p hE rfl) rfl ?_; clear hE a; intro a hE
                        refine WL.vS hS hE (runs_plain rfl) (Gives.p hE rfl) rfl ?_; clear hE a; intro a hE
                        rcases Bool.eq_false_or_eq_true (decide (x122 < 0)) with hg150 | hg150
                        · replace hq144 := iteT hg150 hq144
                          refine WL.no hE (runs_not hE rfl rfl rfl (by rw [hg150]; decide)) rfl ?_; clear hE a; intro a hE
                          refine WL.no hE (runs_not hE rfl rfl rfl (by rw [hg150]; decide)) rfl ?_; clear hE a; intro a hE
                          refine WL.no hE (runs_not hE rfl rfl rfl (by rw [hg150]; decide)) rfl ?_; clear hE a; intro a hE
                          refine WL.no hE (runs_not hE rfl rfl rfl (by rw [hg150]; decide)) rfl ?_; clear hE a; intro a hE
                          refine WL.no hE (runs_not hE rfl rfl rfl (by rw [hg150]; decide)) rfl ?_; clear hE a; intro a hE
                          refine WL.vS hS hE (runs_plain rfl) (Gives.pickT hE rfl hg150 rfl) rfl ?_; clear hE a; intro a hE
                          refine WL.nil ?_
                          subst hK149
                          exact ⟨true, hq144, hE.pick _ ⟨rfl, rfl, rfl, rfl, rfl, rfl, rfl, rfl, rfl, rfl, rfl, rfl, rfl, trivial⟩, hS⟩
                        · replace hq144 := iteF hg150 hq144
                          refine WL.vS hS hE (runs_if hE rfl rfl rfl hg150) (Gives.p hE rfl) rfl ?_; clear hE a; intro a hE
                          refine WL.vS hS hE (runs_if hE rfl rfl rfl hg150) (Gives.fld hE rfl fl25_2) rfl ?_; clear hE a; intro a hE
                          refine WL.vS hS hE (runs_if hE rfl rfl rfl hg150) (Gives.loadB hE 1 rfl rfl rfl ty23) rfl ?_; clear hE a; intro a hE
                          refine WL.vS hS hE (runs_if hE rfl rfl rfl hg150) (Gives.len hE rfl sl23) rfl ?_; clear hE a; intro a hE
                          refine WL.vS hS hE (runs_if hE rfl rfl rfl hg150) (Gives.p hE rfl) rfl ?_; clear hE a; intro a hE
                          refine WL.vS hS hE (runs_plain rfl) (Gives.pickF hE rfl hg150 rfl) rfl ?_; clear hE a; intro a hE
                          refine WL.nil ?_
                          subst hK149
                          exact ⟨decide (x122 ≥ ((x0.Links).length : Int)), hq144, hE.pick _ ⟨rfl, rfl, rfl, rfl, rfl, rfl, rfl, rfl, rfl, rfl, rfl, rfl, rfl, trivial⟩, hS⟩
                      · clear hE hS a w; rintro a w ⟨q148, rfl, hE, hS⟩
                        refine W.cond hE rfl (fun hc151 => ?_) (fun hc151 => ?_)
                        · replace hq119 := iteT hc151 hq119
                          refine W.seq ?_
                          refine W.region ?_
                          refine WL.vS hS hE (runs_plain rfl) (Gives.p hE rfl) rfl ?_; clear hE a; intro a hE
                          refine WL.nil ?_
                          refine W.ret ?_
                          subst hK139
                          rw [← Option.some.inj hq119] at hr
                          dsimp only at hr
                          refine finG (fn := Try.f3) (rs := [.tmp 2]) (vs := [_]) hE rfl ⟨rfl, trivial⟩ ?_
                          obtain rfl := Option.some.inj hr
                          replace hS := hS.tail
                          replace hS := hS.tail
                          exact ⟨rfl, (hS.down hle58)⟩
                        · replace hq119 := iteF hc151 hq119
                          refine W.skip ?_
                          refine W.seq ?_
                          refine W.region ?_
                          refine WL.vS hS hE (runs_plain rfl) (Gives.fld hE rfl fl25_2) rfl ?_; clear hE a; intro a hE
                          refine WL.vS hS hE (runs_plain rfl) (Gives.loadB hE 1 rfl rfl rfl ty23) rfl ?_; clear hE a; intro a hE
                          refine WL.vS hS hE (runs_plain rfl) (Gives.p hE rfl) rfl ?_; clear hE a; intro a hE
                          obtain ⟨x152, hx153, hq119⟩ := bindS hq119
                          obtain ⟨hi154, hlt155, hy156⟩ := gx_some hx153
                          obtain ⟨cs157, hl158, hR159, hat160⟩ := h0_1.at hy156
                          subst hR159
                          refine WL.vS hS hE (runs_plain rfl) (Gives.idx hE (x122).toNat rfl rfl sl23 hi154 hlt155 (h0_1.aok hlt155)) rfl ?_; clear hE a; intro a hE
                          refine WL.vS hS hE (runs_plain rfl) (Gives.loadA hE rfl (fun w h => hat160 w _ h) ty36) rfl ?_; clear hE a; intro a hE
                          refine WL.alloc hE hS (runs_plain rfl) zr36 rfl ?_; clear hE hS a w; intro b161 a w hE hS
                          refine WL.storeI hE hS 0 rfl (MendLink.cells x152) (runs_plain rfl) rfl rfl rfl ty36 rfl rfl rfl rfl ?_; clear hE hS a w; intro a w hE hS
                          refine WL.nil ?_
                          refine W.seq ?_
                          refine W.seq ?_
                          refine W.region ?_
                          refine WL.vS hS hE (runs_plain rfl) (Gives.p hE rfl) rfl ?_; clear hE a; intro a hE
                          refine WL.vS hS hE (runs_plain rfl) (Gives.p hE rfl) rfl ?_; clear hE a; intro a hE
                          refine WL.vS hS hE (runs_plain rfl) (Gives.p hE rfl) rfl ?_; clear hE a; intro a hE
                          refine WL.vS hS hE (runs_plain rfl) (Gives.len hE rfl sl22) rfl ?_; clear hE a; intro a hE
                          refine WL.vS hS hE (runs_plain rfl) (Gives.p hE rfl) rfl ?_; clear hE a; intro a hE
                          refine WL.vS hS hE (runs_plain rfl) (Gives.p hE rfl) rfl ?_; clear hE a; intro a hE
                          refine WL.vS hS hE (runs_plain rfl) (Gives.p hE rfl) rfl ?_; clear hE a; intro a hE
                          refine WL.vS hS hE (runs_plain rfl) (Gives.len hE rfl sl22) rfl ?_; clear hE a; intro a hE
                          obtain ⟨x162, hx163, hq119⟩ := bindS hq119
                          refine WL.vS hS hE (runs_plain rfl) (Gives.rm hE rfl rfl hx163) rfl ?_; clear hE a; intro a hE
                          obtain ⟨x164, hx165, hq119⟩ := bindS hq119
                          obtain ⟨hi166, hlt167, hy168⟩ := gx_some hx165
                          obtain ⟨cs169, hl170, hR171, hat172⟩ := h56.at hy168
                          subst hR171
                          refine WL.vS hS hE (runs_plain rfl) (Gives.idx hE (x162).toNat rfl rfl sl22 hi166 hlt167 (h56.aok hlt167)) rfl ?_; clear hE a; intro a hE
                          refine WL.vS hS hE (runs_plain rfl) (Gives.load1 hE rfl (fun w h => hat172 w _ h) ty3) rfl ?_; clear hE a; intro a hE
                          refine WL.vS hS hE (runs_plain rfl) (Gives.p hE rfl) rfl ?_; clear hE a; intro a hE
                          refine WL.nil ?_
                          refine W.seq ?_
                          obtain ⟨q174, hq173, hq119⟩ := bindS hq119
                          refine W.cut (fun a w => ∃ (q177 : Bool), q177 = q174 ∧ Rep a 204 [(1, .pointer (some ⟨b51, 0, none⟩)), (3, .int .i64 q52.1), (4, .int .i64 q52.2.1), (5, .slice a54 q52.2.2.1.length c55), (13, .slice a131 q130.length c132), (14, .int .i64 q137), (15, .int .i64 q138), (18, .pointer (some ⟨b161, 0, none⟩)), (125, .slice a54 q52.2.2.1.length c55), (126, .int .i64 ((q52.2.2.1).length : Int)), (127, .int .i64 ((k121 : Nat) : Int)), (182, .bool q177)] ∧ St w s57 (pt b161 (.cells (MendLink.cells x152).toArray 36 (0, 0)) :: vecC 3 1 a131 c132 q130.length cs135 :: pt b51 (.cells #[.int .i64 x0.Period, .slice a0_0 x0.Plan.length c0_0, .slice a0_1 x0.Links.length c0_1] 25 (0, 0)) :: R)) ?_ ?_
                          · refine W.gen fun K178 hK178 => ?_
                            refine W.regionQ (C := fun w => St w s57 (pt b161 (.cells (MendLink.cells x152).toArray 36 (0, 0)) :: vecC 3 1 a131 c132 q130.length cs135 :: pt b51 (.cells #[.int .i64 x0.Period, .slice a0_0 x0.Plan.length c0_0, .slice a0_1 x0.Links.length c0_1] 25 (0, 0)) :: R)) mixed (by kernel_rfl) hS.drew ?_
                            refine QL.v hE (runs_plain rfl) (Gives.p hE rfl) rfl ?_; clear hE a; intro a hE
                            refine QL.v hE (runs_plain rfl) (Gives.p hE rfl) rfl ?_; clear hE a; intro a hE
                            refine QL.v hE (runs_plain rfl) (Gives.p hE rfl) rfl ?_; clear hE a; intro a hE
                            rcases Bool.eq_false_or_eq_true (decide (x164 < 0)) with hg179 | hg179
                            · replace hq173 := iteT hg179 hq173
                              refine QL.no hE (runs_not hE rfl rfl rfl (by rw [hg179]; decide)) rfl ?_; clear hE a; intro a hE
                              refine QL.no hE (runs_not hE rfl rfl rfl (by rw [hg179]; decide)) rfl ?_; clear hE a; intro a hE
                              refine QL.no hE (runs_not hE rfl rfl rfl (by rw [hg179]; decide)) rfl ?_; clear hE a; intro a hE
                              refine QL.no hE (runs_not hE rfl rfl rfl (by rw [hg179]; decide)) rfl ?_; clear hE a; intro a hE
                              refine QL.no hE (runs_not hE rfl rfl rfl (by rw [hg179]; decide)) rfl ?_; clear hE a; intro a hE
                              refine QL.v hE (runs_plain rfl) (Gives.pickT hE rfl hg179 rfl) rfl ?_; clear hE a; intro a hE
                              refine QL.v hE (runs_plain rfl) (Gives.p hE rfl) rfl ?_; clear hE a; intro a hE
                              refine QL.no hE (runs_not hE rfl rfl rfl (by decide)) rfl ?_; clear hE a; intro a hE
                              refine QL.no hE (runs_not hE rfl rfl rfl (by decide)) rfl ?_; clear hE a; intro a hE
                              refine QL.no hE (runs_not hE rfl rfl rfl (by decide)) rfl ?_; clear hE a; intro a hE
                              refine QL.no hE (runs_not hE rfl rfl rfl (by decide)) rfl ?_; clear hE a; intro a hE
                              refine QL.no hE (runs_not hE rfl rfl rfl (by decide)) rfl ?_; clear hE a; intro a hE
                              refine QL.no hE (runs_not hE rfl rfl rfl (by decide)) rfl ?_; clear hE a; intro a hE
                              refine QL.no hE (runs_not hE rfl rfl rfl (by decide)) rfl ?_; clear hE a; intro a hE
                              refine QL.no hE (runs_not hE rfl rfl rfl (by decide)) rfl ?_; clear hE a; intro a hE
                              refine QL.no hE (runs_not hE rfl rfl rfl (by decide)) rfl ?_; clear hE a; intro a hE
                              refine QL.v hE (runs_plain rfl) (Gives.pickT hE rfl rfl rfl) rfl ?_; clear hE a; intro a hE
                              refine QL.v hE (runs_plain rfl) (Gives.p hE rfl) rfl ?_; clear hE a; intro a hE
                              refine QL.no hE (runs_not hE rfl rfl rfl (by decide)) rfl ?_; clear hE a; intro a hE
                              refine QL.no hE (runs_not hE rfl rfl rfl (by decide)) rfl ?_; clear hE a; intro a hE
                              refine QL.no hE (runs_not hE rfl rfl rfl (by decide)) rfl ?_; clear hE a; intro a hE
                              refine QL.no hE (runs_not hE rfl rfl rfl (by decide)) rfl ?_; clear hE a; intro a hE
                              refine QL.v hE (runs_plain rfl) (Gives.pickT hE rfl rfl rfl) rfl ?_; clear hE a; intro a hE
                              refine QL.nil ?_; clear hS w; intro w hS
                              subst hK178
                              exact ⟨true, Option.some.inj hq173, hE.pick _ ⟨rfl, rfl, rfl, rfl, rfl, rfl, rfl, rfl, rfl, rfl, rfl, rfl, trivial⟩, hS⟩
                            · replace hq173 := iteF hg179 hq173
                              refine QL.v hE (runs_if hE rfl rfl rfl hg179) (Gives.p hE rfl) rfl ?_; clear hE a; intro a hE
                              refine QL.v hE (runs_if hE rfl rfl rfl hg179) (Gives.fld hE rfl fl25_2) rfl ?_; clear hE a; intro a hE
                              refine QL.v hE (runs_if hE rfl rfl rfl hg179) (Gives.loadB hE 2 rfl rfl rfl ty23) rfl ?_; clear hE a; intro a hE
                              refine QL.v hE (runs_if hE rfl rfl rfl hg179) (Gives.len hE rfl sl23) rfl ?_; clear hE a; intro a hE
                              refine QL.v hE (runs_if hE rfl rfl rfl hg179) (Gives.p hE rfl) rfl ?_; clear hE a; intro a hE
                              refine QL.v hE (runs_plain rfl) (Gives.pickF hE rfl hg179 rfl) rfl ?_; clear hE a; intro a hE
                              refine QL.v hE (runs_plain rfl) (Gives.p hE rfl) rfl ?_; clear hE a; intro a hE
                              rcases Bool.eq_false_or_eq_true (decide (x164 ≥ ((x0.Links).length : Int))) with hg180 | hg180
                              · replace hq173 := iteT hg180 hq173
                                refine QL.no hE (runs_not hE rfl rfl rfl (by rw [hg180]; decide)) rfl ?_; clear hE a; intro a hE
                                refine QL.no hE (runs_not hE rfl rfl rfl (by rw [hg180]; decide)) rfl ?_; clear hE a; intro a hE
                                refine QL.no hE (runs_not hE rfl rfl rfl (by rw [hg180]; decide)) rfl ?_; clear hE a; intro a hE
                                refine QL.no hE (runs_not hE rfl rfl rfl (by rw [hg180]; decide)) rfl ?_; clear hE a; intro a hE
                                refine QL.no hE (runs_not hE rfl rfl rfl (by rw [hg180]; decide)) rfl ?_; clear hE a; intro a hE
                                refine QL.no hE (runs_not hE rfl rfl rfl (by rw [hg180]; decide)) rfl ?_; clear hE a; intro a hE
                                refine QL.no hE (runs_not hE rfl rfl rfl (by rw [hg180]; decide)) rfl ?_; clear hE a; intro a hE
                                refine QL.no hE (runs_not hE rfl rfl rfl (by rw [hg180]; decide)) rfl ?_; clear hE a; intro a hE
                                refine QL.no hE (runs_not hE rfl rfl rfl (by rw [hg180]; decide)) rfl ?_; clear hE a; intro a hE
                                refine QL.v hE (runs_plain rfl) (Gives.pickT hE rfl hg180 rfl) rfl ?_; clear hE a; intro a hE
                                refine QL.v hE (runs_plain rfl) (Gives.p hE rfl) rfl ?_; clear hE a; intro a hE
                                refine QL.no hE (runs_not hE rfl rfl rfl (by decide)) rfl ?_; clear hE a; intro a hE
                                refine QL.no hE (runs_not hE rfl rfl rfl (by decide)) rfl ?_; clear hE a; intro a hE
                                refine QL.no hE (runs_not hE rfl rfl rfl (by decide)) rfl ?_; clear hE a; intro a hE
                                refine QL.no hE (runs_not hE rfl rfl rfl (by decide)) rfl ?_; clear hE a; intro a hE
                                refine QL.v hE (runs_plain rfl) (Gives.pickT hE rfl rfl rfl) rfl ?_; clear hE a; intro a hE
                                refine QL.nil ?_; clear hS w; intro w hS
                                subst hK178
                                exact ⟨true, Option.some.inj hq173, hE.pick _ ⟨rfl, rfl, rfl, rfl, rfl, rfl, rfl, rfl, rfl, rfl, rfl, rfl, trivial⟩, hS⟩
                              · replace hq173 := iteF hg180 hq173
                                refine QL.v hE (runs_if hE rfl rfl rfl hg180) (Gives.fld hE rfl fl25_2) rfl ?_; clear hE a; intro a hE
                                refine QL.v hE (runs_if hE rfl rfl rfl hg180) (Gives.loadB hE 2 rfl rfl rfl ty23) rfl ?_; clear hE a; intro a hE
                                refine QL.v hE (runs_if hE rfl rfl rfl hg180) (Gives.p hE rfl) rfl ?_; clear hE a; intro a hE
                                obtain ⟨x181, hx182, hq173⟩ := bindS hq173
                                obtain ⟨hi183, hlt184, hy185⟩ := gx_some hx182
                                obtain ⟨cs186, hl187, hR188, hat189⟩ := h0_1.at hy185
                                subst hR188
                                refine QL.v hE (runs_if hE rfl rfl rfl hg180) (Gives.idx hE (x164).toNat rfl rfl sl23 hi183 hlt184 (h0_1.aok hlt184)) rfl ?_; clear hE a; intro a hE
                                refine QL.v hE (runs_if hE rfl rfl rfl hg180) (Gives.fld hE rfl fl36_1) rfl ?_; clear hE a; intro a hE
                                refine QL.v hE (runs_if hE rfl rfl rfl hg180) (Gives.load1 hE rfl (fun w h => (hat189 w _ h).one rfl) ty3) rfl ?_; clear hE a; intro a hE
                                refine QL.v hE (runs_if hE rfl rfl rfl hg180) (Gives.fld hE rfl fl36_0) rfl ?_; clear hE a; intro a hE
                                refine QL.v hE (runs_if hE rfl rfl rfl hg180) (Gives.loadB hE 0 rfl rfl rfl ty3) rfl ?_; clear hE a; intro a hE
                                refine QL.v hE (runs_if hE rfl rfl rfl hg180) (Gives.p hE rfl) rfl ?_; clear hE a; intro a hE
                                refine QL.v hE (runs_plain rfl) (Gives.pickF hE rfl hg180 rfl) rfl ?_; clear hE a; intro a hE
                                refine QL.v hE (runs_plain rfl) (Gives.p hE rfl) rfl ?_; clear hE a; intro a hE
                                rcases Bool.eq_false_or_eq_true (x181.To != x152.From) with hg190 | hg190
                                · replace hq173 := iteT hg190 hq173
                                  refine QL.no hE (runs_not hE rfl rfl rfl (by rw [hg190]; decide)) rfl ?_; clear hE a; intro a hE
                                  refine QL.no hE (runs_not hE rfl rfl rfl (by rw [hg190]; decide)) rfl ?_; clear hE a; intro a hE
                                  refine QL.no hE (runs_not hE rfl rfl rfl (by rw [hg190]; decide)) rfl ?_; clear hE a; intro a hE
                                  refine QL.no hE (runs_not hE rfl rfl rfl (by rw [hg190]; decide)) rfl ?_; clear hE a; intro a hE
                                  refine QL.v hE (runs_plain rfl) (Gives.pickT hE rfl hg190 rfl) rfl ?_; clear hE a; intro a hE
                                  refine QL.nil ?_; clear hS w; intro w hS
                                  subst hK178
                                  exact ⟨true, Option.some.inj hq173, hE.pick _ ⟨rfl, rfl, rfl, rfl, rfl, rfl, rfl, rfl, rfl, rfl, rfl, rfl, trivial⟩, hS⟩
                                · replace hq173 := iteF hg190 hq173
                                  refine QL.v hE (runs_if hE rfl rfl rfl hg190) (Gives.p hE rfl) rfl ?_; clear hE a; intro a hE
                                  refine QL.v hE (runs_if hE rfl rfl rfl hg190) (Gives.fld hE rfl fl36_0) rfl ?_; clear hE a; intro a hE
                                  refine QL.v hE (runs_if hE rfl rfl rfl hg190) (Gives.loadB hE 0 rfl rfl rfl ty3) rfl ?_; clear hE a; intro a hE
                                  refine QL.fnq hE (fun w hS => let ⟨t0_, hl0_, hS0_, hs0_, bk0_⟩ := hS.lendV RI.mono 1 rfl h133 rfl; (SlicesContainsLint_ok hS0_ hs0_ rfl (r := SlicesContainsLint q130 x152.From)).mono fun _ _ ⟨he, hq⟩ => ⟨he, (St.unfront 1 rfl (bk0_ _ _ hq))⟩) (runs_if hE rfl rfl rfl hg190) bd18 rfl rfl rfl ?_; clear hE a; intro a hE
                                  refine QL.v hE (runs_plain rfl) (Gives.pickF hE rfl hg190 rfl) rfl ?_; clear hE a; intro a hE
                                  refine QL.nil ?_; clear hS w; intro w hS
                                  subst hK178
                                  exact ⟨(SlicesContainsLint q130 x152.From), Option.some.inj hq173, hE.pick _ ⟨rfl, rfl, rfl, rfl, rfl, rfl, rfl, rfl, rfl, rfl, rfl, rfl, trivial⟩, hS⟩
                          · clear hE hS a w; rintro a w ⟨q177, rfl, hE, hS⟩
                            refine W.cond hE rfl (fun hc191 => ?_) (fun hc191 => ?_)
                            · replace hq119 := iteT hc191 hq119
                              refine W.seq ?_
                              refine W.region ?_
                              refine WL.vS hS hE (runs_plain rfl) (Gives.p hE rfl) rfl ?_; clear hE a; intro a hE
                              refine WL.nil ?_
                              refine W.ret ?_
                              subst hK139
                              rw [← Option.some.inj hq119] at hr
                              dsimp only at hr
                              refine finG (fn := Try.f3) (rs := [.tmp 2]) (vs := [_]) hE rfl ⟨rfl, trivial⟩ ?_
                              obtain rfl := Option.some.inj hr
                              replace hS := hS.tail
                              replace hS := hS.tail
                              replace hS := hS.tail
                              exact ⟨rfl, (hS.down hle58)⟩
                            · replace hq119 := iteF hc191 hq119
                              refine W.skip ?_
                              refine W.seq ?_
                              refine W.region ?_
                              refine WL.vS hS hE (runs_plain rfl) (Gives.p hE rfl) rfl ?_; clear hE a; intro a hE
                              refine WL.vS hS hE (runs_plain rfl) (Gives.fld hE rfl fl36_0) rfl ?_; clear hE a; intro a hE
                              refine WL.vS hS hE (runs_plain rfl) (Gives.loadB hE 0 rfl rfl rfl ty3) rfl ?_; clear hE a; intro a hE
                              refine WL.lit hE hS (e := 3) (es := 1) (vs := [(0, .int .i64 x152.From)]) (cs := [.int .i64 x152.From]) (runs_plain rfl) rfl (by kernel_rfl) rfl ?_; clear hE hS a w; intro b192 a w hE hS
                              obtain ⟨x193, hx194, hq119⟩ := bindS hq119
                              refine WL.appD hE hS 1 (m := 1) (runs_plain rfl) rfl rfl rfl ap22 rfl h133 rfl (xs := [x152.From]) (Ev.cons (c1 := [.int .i64 x152.From]) rfl rfl (Ev.nil)) rfl rfl hx194 rfl ?_; clear hE hS a w; intro a195 c196 cs197 a w h198 hE hS
                              refine WL.vS hS hE (runs_plain rfl) (Gives.p hE rfl) rfl ?_; clear hE a; intro a hE
                              refine WL.nil ?_
                              refine W.regionQ (C := fun w => St w s57 (pt b161 (.cells (MendLink.cells x152).toArray 36 (0, 0)) :: vecC 3 1 a195 c196 x193.length cs197 :: pt b51 (.cells #[.int .i64 x0.Period, .slice a0_0 x0.Plan.length c0_0, .slice a0_1 x0.Links.length c0_1] 25 (0, 0)) :: R)) mixed (by kernel_rfl) hS.drew ?_
                              refine QL.v hE (runs_plain rfl) (Gives.p hE rfl) rfl ?_; clear hE a; intro a hE
                              refine QL.v hE (runs_plain rfl) (Gives.fld hE rfl fl36_2) rfl ?_; clear hE a; intro a hE
                              refine QL.v hE (runs_plain rfl) (Gives.loadB hE 0 rfl rfl rfl ty3) rfl ?_; clear hE a; intro a hE
                              refine QL.v hE (runs_plain rfl) (Gives.p hE rfl) rfl ?_; clear hE a; intro a hE
                              refine QL.v hE (runs_plain rfl) (Gives.p hE rfl) rfl ?_; clear hE a; intro a hE
                              refine QL.v hE (runs_plain rfl) (Gives.fld hE rfl fl36_3) rfl ?_; clear hE a; intro a hE
                              refine QL.v hE (runs_plain rfl) (Gives.loadB hE 0 rfl rfl rfl ty3) rfl ?_; clear hE a; intro a hE
                              refine QL.v hE (runs_plain rfl) (Gives.p hE rfl) rfl ?_; clear hE a; intro a hE
                              refine QL.v hE (runs_plain rfl) (Gives.p hE rfl) rfl ?_; clear hE a; intro a hE
                              refine QL.v hE (runs_plain rfl) (Gives.p hE rfl) rfl ?_; clear hE a; intro a hE
                              refine QL.nil ?_; clear hS w; intro w hS
                              refine W.region ?_
                              refine WL.vS hS hE (runs_plain rfl) (Gives.inc hE rfl (by have := h56.small; omega)) rfl ?_; clear hE a; intro a hE
                              refine WL.vS hS hE (runs_plain rfl) (Gives.p hE rfl) rfl ?_; clear hE a; intro a hE
                              refine WL.nil ?_
                              replace hS := hS.tail
                              subst hK139
                              exact ⟨rest123.length, Nat.lt_succ_self _, rest123, k121 + 1, x193, (w64 (q137 + x152.Len)), (w64 (q138 + x152.Back)), a195, c196, x193.length, cs197, rfl, hd124, hq119, h198, (rfl), hE.pick _ ⟨rfl, rfl, rfl, rfl, rfl, rfl, rfl, rfl, rfl, rfl, trivial⟩, hS⟩
                  · clear hE hS a w; rintro a w ⟨q130, q137, q138, a131, c132, n134, cs135, rfl, h133, rfl, hE, hS⟩
                    dsimp only at hr
                    refine W.seq ?_
                    refine W.region ?_
                    refine WL.vS hS hE (runs_plain rfl) (Gives.p hE rfl) rfl ?_; clear hE a; intro a hE
                    refine WL.vS hS hE (runs_plain rfl) (Gives.p hE rfl) rfl ?_; clear hE a; intro a hE
                    refine WL.vS hS hE (runs_plain rfl) (Gives.p hE rfl) rfl ?_; clear hE a; intro a hE
                    refine WL.vS hS hE (runs_plain rfl) (Gives.p hE rfl) rfl ?_; clear hE a; intro a hE
                    refine WL.vS hS hE (runs_plain rfl) (Gives.p hE rfl) rfl ?_; clear hE a; intro a hE
                    refine WL.vS hS hE (runs_plain rfl) (Gives.p hE rfl) rfl ?_; clear hE a; intro a hE
                    refine WL.vS hS hE (runs_plain rfl) (Gives.p hE rfl) rfl ?_; clear hE a; intro a hE
                    refine WL.vS hS hE (runs_plain rfl) (Gives.p hE rfl) rfl ?_; clear hE a; intro a hE
                    refine WL.nil ?_
                    refine W.ret ?_
                    refine finG (fn := Try.f3) (rs := [.tmp 2]) (vs := [_]) hE rfl ⟨rfl, trivial⟩ ?_
                    obtain rfl := Option.some.inj hr
                    replace hS := hS.tail
                    replace hS := hS.tail
                    exact ⟨rfl, (hS.down hle58)⟩
end Go.Proofs.Ytfioafdipipcaaa
