/- MendProducts: the mirror of the law is true of all tables. -/
import Derived.Test.YtfioafdipipcaaaMendProductsM
import Derived.Test.YtfioafdipipcaaaFpPlain
import Derived.KernelRfl
namespace Go.Fp
/-! times in lists -/
abbrev Tm := Nat → Int
def nd (i : Int) : Nat := i.toNat
def tm (t : List Int) : Tm := fun v => (t[v]?).getD 0
theorem tm_get {t : List Int} {v : Nat} (h : v < t.length) : tm t v = t[v] := by simp [tm, h]
theorem gx_tm {t : List Int} {i : Int} (h0 : 0 ≤ i) (h1 : i < t.length) : gx t i = some (tm t (nd i)) := by
  have h : i.toNat < t.length := by omega
  rw [gx_toNat h0 h]; simp [tm, nd, h]
theorem tm_set {t : List Int} {u v : Nat} {x : Int} (h : u < t.length) : tm (t.set u x) v = if v = u then x else tm t v := by
  unfold tm
  by_cases c : v = u
  · subst c; rw [if_pos rfl, List.getElem?_set_self h]; rfl
  · rw [if_neg c, List.getElem?_set_ne (fun e => c e.symm)]
def bt (w : List Bool) (v : Nat) : Bool := (w[v]?).getD false
theorem bt_get {t : List Bool} {v : Nat} (h : v < t.length) : bt t v = t[v] := by simp [bt, h]
theorem gx_bt {t : List Bool} {i : Int} (h0 : 0 ≤ i) (h1 : i < t.length) : gx t i = some (bt t (nd i)) := by
  have h : i.toNat < t.length := by omega
  rw [gx_toNat h0 h]; simp [bt, nd, h]
theorem bt_set {t : List Bool} {u v : Nat} {x : Bool} (h : u < t.length) : bt (t.set u x) v = if v = u then x else bt t v := by
  unfold bt
  by_cases c : v = u
  · subst c; rw [if_pos rfl, List.getElem?_set_self h]; rfl
  · rw [if_neg c, List.getElem?_set_ne (fun e => c e.symm)]
/-! tables -/
def row (g : List (List Int)) (k : Nat) : List Int := (g[k]?).getD []
def gv (g : List (List Int)) (k v : Nat) : Int := tm (row g k) v
theorem row_set {g : List (List Int)} {k j : Nat} {r : List Int} (h : k < g.length) : row (g.set k r) j = if j = k then r else row g j := by
  unfold row
  by_cases c : j = k
  · subst c; rw [if_pos rfl, List.getElem?_set_self h]; rfl
  · rw [if_neg c, List.getElem?_set_ne (fun e => c e.symm)]
theorem gx_row {g : List (List Int)} {i : Int} (h0 : 0 ≤ i) (h1 : i < g.length) : gx g i = some (row g (nd i)) := by
  have h : i.toNat < g.length := by omega
  rw [gx_toNat h0 h]; simp [row, nd, h]
theorem gx_rowN {g : List (List Int)} {k : Nat} (h : k < g.length) : gx g ((k : Nat) : Int) = some (row g k) := by
  rw [gx_at h]; simp [row, h]
theorem gv_set {g : List (List Int)} {k v : Nat} {a : Int} (h : k < g.length) (hv : v < (row g k).length) (j u : Nat) : gv (g.set k ((row g k).set v a)) j u = if j = k ∧ u = v then a else gv g j u := by
  unfold gv
  rw [row_set h]
  by_cases c : j = k
  · subst c
    rw [if_pos rfl, tm_set hv]
    by_cases e : u = v
    · rw [if_pos e, if_pos ⟨rfl, e⟩]
    · rw [if_neg e, if_neg (fun q => e q.2)]
  · rw [if_neg c, if_neg (fun q => c q.1)]
theorem set_tm {r : List Int} {v : Nat} : r.set v (tm r v) = r := by
  refine List.ext_getElem? fun i => ?_
  by_cases e : i = v
  · subst e
    rcases Nat.lt_or_ge i r.length with h | h
    · rw [List.getElem?_set_self h, tm_get h, List.getElem?_eq_getElem h]
    · rw [List.getElem?_eq_none (by simpa using h), List.getElem?_eq_none h]
  · rw [List.getElem?_set_ne (fun q => e q.symm)]
theorem set_row {g : List (List Int)} {k : Nat} : g.set k (row g k) = g := by
  refine List.ext_getElem? fun i => ?_
  by_cases e : i = k
  · subst e
    rcases Nat.lt_or_ge i g.length with h | h
    · rw [List.getElem?_set_self h, List.getElem?_eq_getElem h]; simp [row, h]
    · rw [List.getElem?_eq_none (by simpa using h), List.getElem?_eq_none h]
  · rw [List.getElem?_set_ne (fun q => e q.symm)]
theorem drop_row {b : List (List Int)} {k : Nat} (h : k < b.length) : b.drop k = row b k :: b.drop (k + 1) := by
  rw [List.drop_eq_getElem_cons h]; simp [row, h]
theorem list_tm {a b : List Int} (hl : a.length = b.length) (h : ∀ v, v < a.length → tm a v = tm b v) : a = b := by
  refine List.ext_getElem hl fun v h1 h2 => ?_
  rw [← tm_get h1, ← tm_get h2]; exact h v h1
/-! the product of two tables -/
local notation "NN" => (-4611686018427387904 : Int)
def EOk (x : Int) : Prop := x = NN ∨ (-1099511627776 ≤ x ∧ x ≤ 1099511627776)
def pe : List Int → List (List Int) → Nat → Int → Int
  | x :: r, y :: b, j, m => pe r b j (if x ≠ NN ∧ tm y j ≠ NN then mx m (x + tm y j) else m)
  | _, _, _, m => m
structure TOk (b : List (List Int)) (wide : Nat) : Prop where
  len : ∀ k, k < b.length → (row b k).length = wide
  el : ∀ k, k < b.length → ∀ v, v < wide → EOk (gv b k v)
theorem rep8 (m k : Nat) (h : k ≤ 8) : SlicesRepeatLint (m + 60) [NN] ((k : Nat) : Int) = some (List.replicate k NN) := by
  have h0 : SlicesRepeatLint (m + 60) [NN] 0 = some [] := by kernel_rfl
  have h1 : SlicesRepeatLint (m + 60) [NN] 1 = some (List.replicate 1 NN) := by kernel_rfl
  have h2 : SlicesRepeatLint (m + 60) [NN] 2 = some (List.replicate 2 NN) := by kernel_rfl
  have h3 : SlicesRepeatLint (m + 60) [NN] 3 = some (List.replicate 3 NN) := by kernel_rfl
  have h4 : SlicesRepeatLint (m + 60) [NN] 4 = some (List.replicate 4 NN) := by kernel_rfl
  have h5 : SlicesRepeatLint (m + 60) [NN] 5 = some (List.replicate 5 NN) := by kernel_rfl
  have h6 : SlicesRepeatLint (m + 60) [NN] 6 = some (List.replicate 6 NN) := by kernel_rfl
  have h7 : SlicesRepeatLint (m + 60) [NN] 7 = some (List.replicate 7 NN) := by kernel_rfl
  have h8 : SlicesRepeatLint (m + 60) [NN] 8 = some (List.replicate 8 NN) := by kernel_rfl
  have : k = 0 ∨ k = 1 ∨ k = 2 ∨ k = 3 ∨ k = 4 ∨ k = 5 ∨ k = 6 ∨ k = 7 ∨ k = 8 := by omega
  rcases this with rfl | rfl | rfl | rfl | rfl | rfl | rfl | rfl | rfl 
  · exact h0
  · exact h1
  · exact h2
  · exact h3
  · exact h4
  · exact h5
  · exact h6
  · exact h7
  · exact h8
section
variable {b : List (List Int)} {wide : Nat}
theorem prod_loop5 (hb : TOk b wide) {j : Nat} (hj : j < wide) {i : Nat} : ∀ (r : List Int) (k : Nat) (g : List (List Int)), k + r.length = b.length → (∀ x ∈ r, EOk x) → i < g.length → (row g i).length = wide →
    MendProduct.loop5 b i ((j : Nat) : Int) r k g = some (g.set i ((row g i).set j (pe r (b.drop k) j (tm (row g i) j))))
  | [], k, g, _, _, _, _ => by
    have : pe [] (b.drop k) j (tm (row g i) j) = tm (row g i) j := by
      cases b.drop k <;> rfl
    rw [this, set_tm, set_row]; rfl
  | x :: r, k, g, hk, hx, hi, hw => by
    simp only [List.length_cons] at hk
    have hkb : k < b.length := by omega
    have hrl := hb.len k hkb
    have hel := hb.el k hkb j hj
    have hxo := hx x (List.mem_cons_self ..)
    have ih := fun g => prod_loop5 (i := i) hb hj r (k + 1) g (by omega) (fun y hy => hx y (List.mem_cons_of_mem _ hy))
    rw [MendProduct.loop5, gx_rowN hkb, gx_rowN hi, drop_row hkb]
    simp only [Option.bind_some, pe]
    rw [gx_tm (t := row b k) (by omega) (by rw [hrl]; omega), gx_tm (t := row g i) (by omega) (by rw [hw]; omega)]
    simp only [Option.bind_some, show nd ((j : Nat) : Int) = j from rfl]
    have hgb : gv b k j = tm (row b k) j := rfl
    rw [hgb] at hel
    by_cases c : x ≠ NN ∧ tm (row b k) j ≠ NN
    · have c1 : (x != NN) = true := by simpa using c.1
      have c2 : (tm (row b k) j != NN) = true := by simpa using c.2
      have e1 : -1099511627776 ≤ x ∧ x ≤ 1099511627776 := hxo.resolve_left c.1
      have e2 : -1099511627776 ≤ tm (row b k) j ∧ tm (row b k) j ≤ 1099511627776 := hel.resolve_left c.2
      simp only [c1, c2, if_true, Option.bind_some]
      rw [w64_id (by omega), ix_in (by omega) (by rw [hw]; omega), sx_in (by omega) (by rw [hw]; omega)]
      simp only [Option.bind_some, Int.toNat_natCast]
      rw [ih _ (by simpa using hi) (by rw [row_set hi, if_pos rfl]; simpa using hw), row_set hi, if_pos rfl, if_pos c, tm_set (by rw [hw]; exact hj), if_pos rfl]
      simp
    · have c2 : (if (x != NN) = true then some (tm (row b k) j != NN) else some false) = some false := by
        by_cases d : x = NN
        · rw [if_neg (by simpa using d)]
        · rw [if_pos (by simpa using d)]
          have : tm (row b k) j = NN := Classical.byContradiction fun q => c ⟨d, q⟩
          rw [this]; rfl
      rw [c2]
      simp only [Option.bind_some, Bool.false_eq_true, if_false]
      rw [ih g hi hw, if_neg c]
theorem prod_loop4 (hb : TOk b wide) (h8 : wide ≤ 8) {r : List Int} (hr : r.length = b.length) (hx : ∀ x ∈ r, EOk x) {i : Nat} : ∀ (m j fu : Nat) (g : List (List Int)), m + j = wide → m + 1 ≤ fu → i < g.length → (row g i).length = wide →
    ∃ a R, MendProduct.loop4 b ((wide : Nat) : Int) r i fu ((j : Nat) : Int) g = some (a, g.set i R) ∧ R.length = wide ∧ ∀ v, v < wide → tm R v = if v < j then tm (row g i) v else pe r b v (tm (row g i) v) := by
  intro m
  induction m with
  | zero =>
    intro j fu g hm hf hi hw
    obtain ⟨fu, rfl⟩ : ∃ f, fu = f + 1 := ⟨fu - 1, by omega⟩
    rw [MendProduct.loop4, if_neg (by simp; omega)]
    exact ⟨_, row g i, by rw [set_row], hw, fun v hv => by rw [if_pos (by omega)]⟩
  | succ m ih =>
    intro j fu g hm hf hi hw
    obtain ⟨fu, rfl⟩ : ∃ f, fu = f + 1 := ⟨fu - 1, by omega⟩
    have hj : j < wide := by omega
    rw [MendProduct.loop4, if_pos (by simp; omega), prod_loop5 hb hj r 0 g (by omega) hx hi hw]
    simp only [Option.bind_some, List.drop_zero]
    rw [w64_id (by omega)]
    obtain ⟨a, R, e, hR, hv⟩ := ih (j + 1) fu (g.set i ((row g i).set j (pe r b j (tm (row g i) j)))) (by omega) (by omega) (by simpa using hi) (by rw [row_set hi, if_pos rfl]; simpa using hw)
    refine ⟨a, R, ?_, hR, fun v hv' => ?_⟩
    · have e' := e
      simp only [List.set_set, Int.natCast_add, Int.natCast_one] at e'
      exact e'
    · rw [hv v hv', row_set hi, if_pos rfl, tm_set (by rw [hw]; exact hj)]
      by_cases c : v = j
      · subst c; rw [if_pos (by omega), if_pos rfl, if_neg (by omega)]
      · rw [if_neg c]
        by_cases d : v < j
        · rw [if_pos (by omega), if_pos d]
        · rw [if_neg (by omega), if_neg d]
def prow (r : List Int) (b : List (List Int)) (wide : Nat) : List Int := (List.range wide).map fun j => pe r b j NN
theorem prow_len {r : List Int} : (prow r b wide).length = wide := by simp [prow]
theorem prow_tm {r : List Int} {v : Nat} (h : v < wide) : tm (prow r b wide) v = pe r b v NN := by simp [prow, tm, h]
theorem prod_loop2 (hb : TOk b wide) (h8 : wide ≤ 8) {fu : Nat} : ∀ (rs : List (List Int)) (done : List (List Int)), (∀ r ∈ rs, r.length = b.length ∧ ∀ x ∈ r, EOk x) →
    MendProduct.loop2 b (fu + 60) ((wide : Nat) : Int) rs done.length (done ++ List.replicate rs.length []) = some (done ++ rs.map fun r => prow r b wide)
  | [], done, _ => by simp [MendProduct.loop2]
  | r :: rs, done, h => by
    obtain ⟨h1, h2⟩ := h r (List.mem_cons_self ..)
    have hset : ∀ q : List Int, (done ++ List.replicate (rs.length + 1) []).set done.length q = (done ++ [q]) ++ List.replicate rs.length [] := by
      intro q
      rw [List.replicate_succ, List.set_append_right _ _ (by omega), show done.length - done.length = 0 by omega]
      simp
    have hlen : done.length < (done ++ List.replicate (rs.length + 1) ([] : List Int)).length := by simp
    rw [MendProduct.loop2, rep8 fu wide h8]
    simp only [Option.bind_some, List.length_cons]
    rw [ix_in (by omega) (by omega), sx_in (by omega) (by omega)]
    simp only [Option.bind_some, Int.toNat_natCast]
    have hrow : row (((done ++ List.replicate (rs.length + 1) []).set done.length (List.replicate wide NN))) done.length = List.replicate wide NN := by rw [row_set hlen, if_pos rfl]
    obtain ⟨a, R, e, hR, hv⟩ := prod_loop4 hb h8 h1 h2 (i := done.length) wide 0 (fu + 60) _ (by omega) (by omega) (show done.length < ((done ++ List.replicate (rs.length + 1) []).set done.length (List.replicate wide NN)).length by simp) (by rw [hrow]; simp)
    have e' : MendProduct.loop4 b ((wide : Nat) : Int) r done.length (fu + 60) 0 ((done ++ List.replicate (rs.length + 1) []).set done.length (List.replicate wide NN)) = _ := e
    rw [e']
    simp only [Option.bind_some, List.set_set]
    have hRe : R = prow r b wide := by
      refine list_tm (by rw [hR, prow_len]) fun v hv' => ?_
      rw [hR] at hv'
      rw [hv v hv', prow_tm hv', hrow, if_neg (by omega)]
      have : tm (List.replicate wide NN) v = NN := by unfold tm; rw [List.getElem?_replicate, if_pos hv']; rfl
      rw [this]
    rw [hset, hRe]
    have := prod_loop2 hb h8 (fu := fu) rs (done ++ [prow r b wide]) (fun q hq => h q (List.mem_cons_of_mem _ hq))
    simp only [List.length_append, List.length_singleton] at this
    rw [this]
    simp
/-- the reference goes along the rows -/
theorem pref_loop6 (x : Int) (hx : EOk x) : ∀ (y : List Int) (k : Nat) (line : List Int), (∀ v, v < y.length → EOk (tm y v)) → k + y.length = line.length →
    ∃ line', Fishref2ProductOf.loop6 x y k line = some line' ∧ line'.length = line.length ∧ ∀ v, tm line' v = if k ≤ v ∧ v < line.length ∧ x ≠ NN ∧ tm y (v - k) ≠ NN then mx (tm line v) (x + tm y (v - k)) else tm line v
  | [], k, line, _, hk => ⟨line, rfl, rfl, fun v => by rw [if_neg]; rintro ⟨h1, h2, _⟩; simp at hk; omega⟩
  | a :: y, k, line, hy, hk => by
    simp only [List.length_cons] at hk
    have hkl : k < line.length := by omega
    have ha := hy 0 (by simp)
    have ha0 : tm (a :: y) 0 = a := by simp [tm]
    have hs : ∀ v, tm (a :: y) (v + 1) = tm y v := fun v => by simp [tm]
    rw [ha0] at ha
    have hy' : ∀ v, v < y.length → EOk (tm y v) := fun v hv => by have := hy (v + 1) (by simpa using hv); rwa [hs] at this
    rw [Fishref2ProductOf.loop6, gx_tm (by omega) (by omega)]
    simp only [Option.bind_some, bnd, show nd ((k : Nat) : Int) = k from rfl]
    by_cases c : x ≠ NN ∧ a ≠ NN
    · have c1 : (x != NN) = true := by simpa using c.1
      have c2 : (a != NN) = true := by simpa using c.2
      have e1 : -1099511627776 ≤ x ∧ x ≤ 1099511627776 := hx.resolve_left c.1
      have e2 : -1099511627776 ≤ a ∧ a ≤ 1099511627776 := ha.resolve_left c.2
      simp only [c1, c2, if_true]
      rw [w64_id (by omega), ix_in (by omega) (by omega), sx_in (by omega) (by omega)]
      simp only [Option.bind_some, Int.toNat_natCast]
      obtain ⟨line', q1, q2, q3⟩ := pref_loop6 x hx y (k + 1) (line.set k (mx (tm line k) (x + a))) hy' (by simp; omega)
      refine ⟨line', q1, by simpa using q2, fun v => ?_⟩
      rw [q3 v, tm_set hkl]
      by_cases e : v = k
      · subst e
        rw [if_neg (by rintro ⟨h, _⟩; omega), if_pos rfl, Nat.sub_self, ha0, if_pos ⟨Nat.le_refl _, hkl, c.1, c.2⟩]
      · rw [if_neg e, List.length_set]
        by_cases d : k + 1 ≤ v
        · have : v - k = (v - (k + 1)) + 1 := by omega
          rw [this, hs]
          by_cases f : v < line.length ∧ x ≠ NN ∧ tm y (v - (k + 1)) ≠ NN
          · rw [if_pos ⟨d, f⟩, if_pos ⟨by omega, f⟩]
          · rw [if_neg (fun h => f h.2), if_neg (fun h => f h.2)]
        · rw [if_neg (fun h => d h.1), if_neg (fun h => by have := h.1; omega)]
    · have c1 : (if (x != NN) = true then (a != NN) else false) = false := by
        by_cases d : x = NN
        · rw [if_neg (by simpa using d)]
        · rw [if_pos (by simpa using d)]
          have : a = NN := Classical.byContradiction fun q => c ⟨d, q⟩
          rw [this]; rfl
      rw [c1]
      simp only [Bool.false_eq_true, if_false, Option.bind_some]
      obtain ⟨line', q1, q2, q3⟩ := pref_loop6 x hx y (k + 1) line hy' (by omega)
      refine ⟨line', q1, q2, fun v => ?_⟩
      rw [q3 v]
      by_cases e : v = k
      · subst e
        rw [if_neg (by rintro ⟨h, _⟩; omega), if_neg]
        rintro ⟨_, _, h1, h2⟩
        rw [Nat.sub_self, ha0] at h2
        exact c ⟨h1, h2⟩
      · by_cases d : k + 1 ≤ v
        · have : v - k = (v - (k + 1)) + 1 := by omega
          rw [this, hs]
          by_cases f : v < line.length ∧ x ≠ NN ∧ tm y (v - (k + 1)) ≠ NN
          · rw [if_pos ⟨d, f⟩, if_pos ⟨by omega, f⟩]
          · rw [if_neg (fun h => f h.2), if_neg (fun h => f h.2)]
        · rw [if_neg (fun h => d h.1), if_neg (fun h => by have := h.1; omega)]
theorem pref_loop5 (hb : TOk b wide) : ∀ (r : List Int) (k : Nat) (line : List Int), k + r.length = b.length → (∀ x ∈ r, EOk x) → line.length = wide →
    ∃ line', Fishref2ProductOf.loop5 b r k line = some line' ∧ line'.length = wide ∧ ∀ v, v < wide → tm line' v = pe r (b.drop k) v (tm line v)
  | [], k, line, _, _, hl => ⟨line, rfl, hl, fun v _ => by cases b.drop k <;> rfl⟩
  | x :: r, k, line, hk, hx, hl => by
    simp only [List.length_cons] at hk
    have hkb : k < b.length := by omega
    have hrl := hb.len k hkb
    obtain ⟨l1, q1, q2, q3⟩ := pref_loop6 x (hx x (List.mem_cons_self ..)) (row b k) 0 line (fun v hv => hb.el k hkb v (by rw [← hrl]; exact hv)) (by rw [hrl, hl, Nat.zero_add])
    obtain ⟨l2, p1, p2, p3⟩ := pref_loop5 hb r (k + 1) l1 (by omega) (fun y hy => hx y (List.mem_cons_of_mem _ hy)) (by rw [q2, hl])
    rw [Fishref2ProductOf.loop5, gx_rowN hkb, Option.bind_some, q1, Option.bind_some, p1]
    refine ⟨l2, rfl, p2, fun v hv => ?_⟩
    rw [p3 v hv, drop_row hkb, pe, q3 v, Nat.sub_zero]
    congr 1
    by_cases c : x ≠ NN ∧ tm (row b k) v ≠ NN
    · rw [if_pos ⟨Nat.zero_le _, by omega, c⟩, if_pos c]
    · rw [if_neg (fun h => c h.2.2), if_neg c]
theorem pref_loop4 (hb : TOk b wide) (h8 : wide ≤ 8) {fu : Nat} : ∀ (rs : List (List Int)) (done : List (List Int)), done.length + rs.length ≤ 100 → (∀ r ∈ rs, r.length = b.length ∧ ∀ x ∈ r, EOk x) →
    Fishref2ProductOf.loop4 b (fu + 60) ((wide : Nat) : Int) rs done = some (done ++ rs.map fun r => prow r b wide)
  | [], done, _, _ => by simp [Fishref2ProductOf.loop4]
  | r :: rs, done, hd, h => by
    simp only [List.length_cons] at hd
    obtain ⟨h1, h2⟩ := h r (List.mem_cons_self ..)
    obtain ⟨l1, q1, q2, q3⟩ := pref_loop5 hb r 0 (List.replicate wide NN) (by omega) h2 (by simp)
    have hl : l1 = prow r b wide := by
      refine list_tm (by rw [q2, prow_len]) fun v hv' => ?_
      rw [q2] at hv'
      rw [q3 v hv', prow_tm hv', List.drop_zero]
      have : tm (List.replicate wide NN) v = NN := by unfold tm; rw [List.getElem?_replicate, if_pos hv']; rfl
      rw [this]
    rw [Fishref2ProductOf.loop4, rep8 fu wide h8, Option.bind_some, q1, Option.bind_some, apd_lt (by simp; omega), Option.bind_some, hl,
      pref_loop4 hb h8 rs (done ++ [prow r b wide]) (by simp; omega) (fun q hq => h q (List.mem_cons_of_mem _ hq))]
    simp
end
/-- how many of the first m nodes have a property -/
noncomputable def count (P : Nat → Prop) : Nat → Nat
  | 0 => 0
  | m + 1 => open Classical in count P m + (if P m then 1 else 0)
theorem count_mono {P Q : Nat → Prop} : ∀ m, (∀ v, v < m → P v → Q v) → count P m ≤ count Q m
  | 0, _ => Nat.le_refl _
  | m + 1, h => by
    have h1 := count_mono m (fun v hv => h v (by omega))
    have h2 := h m (by omega)
    simp only [count]
    by_cases c : P m
    · rw [if_pos c, if_pos (h2 c)]; omega
    · rw [if_neg c]; split <;> omega
theorem count_lt {P Q : Nat → Prop} {u : Nat} (hp : ¬ P u) (hq : Q u) : ∀ m, u < m → (∀ v, v < m → P v → Q v) → count P m < count Q m
  | 0, h, _ => absurd h (Nat.not_lt_zero _)
  | m + 1, hu, h => by
    have h2 := h m (by omega)
    simp only [count]
    by_cases e : u = m
    · subst e
      have := count_mono u (fun v hv => h v (by omega))
      rw [if_neg hp, if_pos hq]; omega
    · have := count_lt hp hq m (by omega) (fun v hv => h v (by omega))
      by_cases c : P m
      · rw [if_pos c, if_pos (h2 c)]; omega
      · rw [if_neg c]; split <;> omega
theorem count_le (P : Nat → Prop) : ∀ m, count P m ≤ m
  | 0 => Nat.le_refl _
  | m + 1 => by have := count_le P m; simp only [count]; split <;> omega
theorem count_all {P : Nat → Prop} : ∀ m, count P m = m → ∀ v, v < m → P v
  | 0, _, v, hv => absurd hv (Nat.not_lt_zero _)
  | m + 1, h, v, hv => by
    have h1 := count_le P m
    simp only [count] at h
    by_cases c : P m
    · rw [if_pos c] at h
      by_cases e : v = m
      · subst e; exact c
      · exact count_all m (by omega) v (by omega)
    · rw [if_neg c] at h; omega
/-! walks, and two ways to find the greatest sums along them -/
section
variable {n : Nat} {A : Nat → Nat → Option Int}
/-- a walk whose inner nodes are below k -/
inductive Wb (n : Nat) (A : Nat → Nat → Option Int) (k : Nat) : Nat → Nat → Int → Prop
  | one {i j : Nat} {w : Int} : i < n → j < n → A i j = some w → Wb n A k i j w
  | cons {i m j : Nat} {w v : Int} : i < n → m < n → m < k → A i m = some w → Wb n A k m j v → Wb n A k i j (w + v)
theorem Wb.ends {k i j : Nat} {w : Int} (h : Wb n A k i j w) : i < n ∧ j < n := by
  induction h with
  | one h1 h2 _ => exact ⟨h1, h2⟩
  | cons h1 _ _ _ _ ih => exact ⟨h1, ih.2⟩
theorem Wb.up {k l i j : Nat} {w : Int} (h : Wb n A k i j w) (hl : k ≤ l) : Wb n A l i j w := by
  induction h with
  | one h1 h2 h3 => exact .one h1 h2 h3
  | cons h1 h2 h3 h4 _ ih => exact .cons h1 h2 (by omega) h4 ih
theorem Wb.all {k i j : Nat} {w : Int} (h : Wb n A k i j w) : Wb n A n i j w := by
  induction h with
  | one h1 h2 h3 => exact .one h1 h2 h3
  | cons h1 h2 _ h4 _ ih => exact .cons h1 h2 h2 h4 ih
theorem Wb.app {i m j : Nat} {w v : Int} (h : Wb n A n i m w) (h2 : Wb n A n m j v) : Wb n A n i j (w + v) := by
  induction h with
  | one h1 hm h3 => exact .cons h1 hm hm h3 h2
  | cons h1 hm h3 h4 _ ih => rw [Int.add_assoc]; exact .cons h1 hm h3 h4 (ih h2)
/-- what the k-th phase surely has: each inner node is passed once -/
def Ph (n : Nat) (A : Nat → Nat → Option Int) : Nat → Nat → Nat → Int → Prop
  | 0, i, j, w => i < n ∧ j < n ∧ A i j = some w
  | k + 1, i, j, w => Ph n A k i j w ∨ ∃ u v, Ph n A k i k u ∧ Ph n A k k j v ∧ w = u + v
theorem Ph.up {k l i j : Nat} {w : Int} (h : Ph n A k i j w) (hl : k ≤ l) : Ph n A l i j w := by
  induction hl with
  | refl => exact h
  | step _ ih => exact .inl ih
theorem Wb.split {k : Nat} (hloop : ∀ u, Wb n A k k k u → u ≤ 0) {i j : Nat} {v : Int} (h : Wb n A (k + 1) i j v) : Wb n A k i j v ∨ ∃ a b, Wb n A k i k a ∧ Wb n A k k j b ∧ v ≤ a + b := by
  induction h with
  | one h1 h2 h3 => exact .inl (.one h1 h2 h3)
  | cons h1 h2 h3 h4 _ ih =>
    rename_i i m j w v _
    by_cases c : m = k
    · subst c
      rcases ih with ih | ⟨a, b, ha, hb, hv⟩
      · exact .inr ⟨w, v, .one h1 h2 h4, ih, Int.le_refl _⟩
      · exact .inr ⟨w, b, .one h1 h2 h4, hb, by have := hloop a ha; omega⟩
    · rcases ih with ih | ⟨a, b, ha, hb, hv⟩
      · exact .inl (.cons h1 h2 (by omega) h4 ih)
      · exact .inr ⟨w + a, b, .cons h1 h2 (by omega) h4 ha, hb, by omega⟩
/-- without loops above nothing, the phases have the greatest -/
theorem Wb.ph (H : ∀ i w, Ph n A n i i w → w ≤ 0) : ∀ (k : Nat), k ≤ n → ∀ {i j : Nat} {v : Int}, Wb n A k i j v → ∃ w, v ≤ w ∧ Ph n A k i j w
  | 0, _, i, j, v, h => by
    cases h with
    | one h1 h2 h3 => exact ⟨v, Int.le_refl _, h1, h2, h3⟩
    | cons _ _ h3 _ _ => omega
  | k + 1, hk, i, j, v, h => by
    have ih := @Wb.ph H k (by omega)
    have hloop : ∀ u, Wb n A k k k u → u ≤ 0 := fun u hu => by
      obtain ⟨w, h1, h2⟩ := ih hu
      have := H k w (h2.up (by omega))
      omega
    rcases h.split hloop with h | ⟨a, b, ha, hb, hv⟩
    · obtain ⟨w, h1, h2⟩ := ih h
      exact ⟨w, h1, .inl h2⟩
    · obtain ⟨u, u1, u2⟩ := ih ha
      obtain ⟨t, t1, t2⟩ := ih hb
      exact ⟨u + t, by omega, .inr ⟨u, t, u2, t2, rfl⟩⟩
/-- no closed walk is above nothing -/
def Tame (n : Nat) (A : Nat → Nat → Option Int) : Prop := ∀ i w, Wb n A n i i w → w ≤ 0
/-- the greatest sums: d has walks' sums, and at least what the phases have -/
structure Full (n : Nat) (A : Nat → Nat → Option Int) (d : Nat → Nat → Option Int) : Prop where
  walk : ∀ i j w, i < n → j < n → d i j = some w → Wb n A n i j w
  ph : ∀ i j w, Ph n A n i j w → ∃ v, d i j = some v ∧ w ≤ v
theorem Ph.lt {k i j : Nat} {w : Int} (hk : k ≤ n) (h : Ph n A k i j w) : i < n ∧ j < n := by
  induction k generalizing i j w with
  | zero => exact ⟨h.1, h.2.1⟩
  | succ k ih =>
    rcases h with h | ⟨u, v, h1, h2, _⟩
    · exact ih (by omega) h
    · exact ⟨(ih (by omega) h1).1, (ih (by omega) h2).2⟩
theorem Full.tame {d : Nat → Nat → Option Int} (h : Full n A d) : (∀ i w, i < n → d i i = some w → w ≤ 0) ↔ Tame n A := by
  constructor
  · intro hd i w hw
    have H : ∀ i w, Ph n A n i i w → w ≤ 0 := fun i w hp => by
      obtain ⟨v, h1, h2⟩ := h.ph i i w hp
      have := hd i v (hp.lt (Nat.le_refl _)).1 h1
      omega
    obtain ⟨v, h1, h2⟩ := hw.ph H n (Nat.le_refl _)
    have := H i v h2
    omega
  · intro ht i w hi hw
    exact ht i w (h.walk i i w hi hi hw)
theorem Full.best {d : Nat → Nat → Option Int} (h : Full n A d) (ht : Tame n A) {i j : Nat} {w : Int} (hw : Wb n A n i j w) : ∃ v, d i j = some v ∧ w ≤ v := by
  have H : ∀ i w, Ph n A n i i w → w ≤ 0 := fun i w hp => by
    obtain ⟨v, h1, h2⟩ := h.ph i i w hp
    obtain ⟨hi, _⟩ := hp.lt (Nat.le_refl _)
    have := ht i v (h.walk i i v hi hi h1)
    omega
  obtain ⟨u, h1, h2⟩ := hw.ph H n (Nat.le_refl _)
  obtain ⟨v, h3, h4⟩ := h.ph i j u h2
  exact ⟨v, h3, by omega⟩
/-- what rounds from one node have: walks of few steps -/
def Rw (n : Nat) (A : Nat → Nat → Option Int) (i : Nat) : Nat → Nat → Int → Prop
  | 0, j, w => j = i ∧ w = 0
  | r + 1, j, w => Rw n A i r j w ∨ ∃ m u v, m < n ∧ Rw n A i r m u ∧ A m j = some v ∧ j < n ∧ w = u + v
theorem Rw.walk {i r j : Nat} {w : Int} (hi : i < n) (h : Rw n A i r j w) : (j = i ∧ w = 0) ∨ Wb n A n i j w := by
  induction r generalizing j w with
  | zero => exact .inl h
  | succ r ih =>
    rcases h with h | ⟨m, u, v, hm, h1, h2, hj, rfl⟩
    · exact ih h
    · rcases ih h1 with ⟨rfl, rfl⟩ | h1
      · right; rw [Int.zero_add]; exact .one hm hj h2
      · exact .inr (h1.app (.one hm hj h2))
theorem Rw.up {i r s j : Nat} {w : Int} (h : Rw n A i r j w) (hs : r ≤ s) : Rw n A i s j w := by
  induction hs with
  | refl => exact h
  | step _ ih => exact .inl ih
theorem Rw.then {i r m j : Nat} {u w : Int} (h : Rw n A i r m u) (hm : m < n) (hw : Wb n A n m j w) : ∃ s, Rw n A i s j (u + w) := by
  induction hw generalizing r u with
  | one h1 h2 h3 => exact ⟨r + 1, .inr ⟨_, _, _, h1, h, h3, h2, rfl⟩⟩
  | cons h1 h2 _ h4 _ ih =>
    obtain ⟨s, hs⟩ := ih (r := r + 1) (.inr ⟨_, _, _, h1, h, h4, h2, rfl⟩) h2
    exact ⟨s, by rw [← Int.add_assoc]; exact hs⟩
/-- the best from one node -/
def bs (d : Nat → Nat → Option Int) (i j : Nat) : Option Int := if j = i then some 0 else d i j
theorem bs_has {d : Nat → Nat → Option Int} (h : Full n A d) {i j : Nat} {w : Int} (hi : i < n) (hj : j < n) (hw : bs d i j = some w) : ∃ r, Rw n A i r j w := by
  unfold bs at hw
  split at hw
  · rename_i e
    injection hw with hw
    exact ⟨0, e, hw.symm⟩
  · have h1 := h.walk i j w hi hj hw
    have h0 : Rw n A i 0 i 0 := ⟨rfl, rfl⟩
    obtain ⟨s, hs⟩ := h0.then hi h1
    exact ⟨s, by rwa [Int.zero_add] at hs⟩
theorem bs_best {d : Nat → Nat → Option Int} (h : Full n A d) (ht : Tame n A) {i r j : Nat} {w : Int} (hi : i < n) (hw : Rw n A i r j w) : ∃ v, bs d i j = some v ∧ w ≤ v := by
  unfold bs
  rcases hw.walk hi with ⟨rfl, rfl⟩ | hw
  · exact ⟨0, by rw [if_pos rfl], Int.le_refl _⟩
  · by_cases e : j = i
    · subst e
      exact ⟨0, by rw [if_pos rfl], ht j w hw⟩
    · rw [if_neg e]; exact h.best ht hw
theorem rounds_all {d : Nat → Nat → Option Int} (h : Full n A d) (ht : Tame n A) {i : Nat} (hi : i < n) : ∀ j w, j < n → bs d i j = some w → Rw n A i n j w := by
  classical
  let Lay := fun r j => ∀ w, bs d i j = some w → Rw n A i r j w
  have up : ∀ r j, Lay r j → Lay (r + 1) j := fun r j hl w hw => (hl w hw).up (by omega)
  have stuck : ∀ r, (∀ j, j < n → Lay (r + 1) j → Lay r j) → ∀ j, j < n → Lay r j := by
    intro r hc
    have key : ∀ s j w, j < n → bs d i j = some w → Rw n A i s j w → Lay r j := by
      intro s
      induction s with
      | zero =>
        intro j w hj hw hr v hv
        rw [hw] at hv
        injection hv with hv
        rw [← hv]
        exact hr.up (Nat.zero_le _)
      | succ s ih =>
        intro j w hj hw hr
        rcases hr with hr | ⟨m, u, v, hm, h1, h2, _, e⟩
        · exact ih j w hj hw hr
        · obtain ⟨u', q1, q2⟩ := bs_best h ht hi h1
          obtain ⟨s', q3⟩ := bs_has h hi hm q1
          obtain ⟨w', q4, q5⟩ := bs_best h ht hi (show Rw n A i (s' + 1) j (u' + v) from .inr ⟨m, u', v, hm, q3, h2, hj, rfl⟩)
          rw [hw] at q4
          injection q4 with q4
          have hu : u' = u := by omega
          rw [hu] at q1
          have hm' := ih m u hm q1 h1 u q1
          refine hc j hj fun x hx => ?_
          rw [hw] at hx
          injection hx with hx
          rw [← hx]
          exact .inr ⟨m, u, v, hm, hm', h2, hj, e⟩
    intro j hj w hw
    obtain ⟨s, hs⟩ := bs_has h hi hj hw
    exact key s j w hj hw hs w hw
  have grow : ∀ r, r ≤ count (Lay r) n ∨ ∀ j, j < n → Lay r j := by
    intro r
    induction r with
    | zero => exact .inl (Nat.zero_le _)
    | succ r ih =>
      by_cases c : ∀ j, j < n → Lay (r + 1) j → Lay r j
      · exact .inr fun j hj => up r j (stuck r c j hj)
      · rcases ih with ih | ih
        · left
          have : ∃ v, v < n ∧ Lay (r + 1) v ∧ ¬ Lay r v := by
            refine Classical.byContradiction fun q => c fun v hv hp => Classical.byContradiction fun q2 => q ⟨v, hv, hp, q2⟩
          obtain ⟨v, hv, h1, h2⟩ := this
          have := count_lt (P := Lay r) (Q := Lay (r + 1)) h2 h1 n hv (fun v _ => up r v)
          omega
        · exact .inr fun j hj => up r j (ih j hj)
  have all : ∀ j, j < n → Lay n j := by
    rcases grow n with c | c
    · have := count_le (Lay n) n
      exact count_all n (by omega)
    · exact c
  intro j w hj hw
  exact all j hj w hw
end
/-! greatest sums: the program's three loops -/
def dG (g : List (List Int)) (i j : Nat) : Option Int := if gv g i j = NN then none else some (gv g i j)
theorem dG_some {g : List (List Int)} {i j : Nat} {w : Int} : dG g i j = some w ↔ gv g i j ≠ NN ∧ gv g i j = w := by
  unfold dG
  by_cases c : gv g i j = NN
  · rw [if_pos c]; exact ⟨fun h => (by cases h), fun h => absurd c h.1⟩
  · rw [if_neg c]; exact ⟨fun h => ⟨c, Option.some.inj h⟩, fun h => congrArg some h.2⟩
def ok (e C : Int) : Prop := e = NN ∨ (-C ≤ e ∧ e ≤ C)
def dn (i j i' j' : Nat) : Prop := i' < i ∨ (i' = i ∧ j' < j)
structure Pos (n : Nat) (A : Nat → Nat → Option Int) (k i j : Nat) (B : Int) (g : List (List Int)) : Prop where
  len : g.length = n
  rows : ∀ i', i' < n → (row g i').length = n
  bnd : ∀ i' j', i' < n → j' < n → (¬ dn i j i' j' → ok (gv g i' j') B) ∧ ok (gv g i' j') (6 * B) ∧ (j' = k → ok (gv g i' j') (3 * B)) ∧ (i' = k → ok (gv g i' j') (3 * B)) ∧ (i' = k → j' = k → ok (gv g i' j') (2 * B))
  walk : ∀ i' j', i' < n → j' < n → gv g i' j' ≠ NN → Wb n A n i' j' (gv g i' j')
  ph : ∀ i' j' w, Ph n A k i' j' w → gv g i' j' ≠ NN ∧ w ≤ gv g i' j'
  done : ∀ i' j', i' < n → j' < n → dn i j i' j' → ∀ u v, Ph n A k i' k u → Ph n A k k j' v → gv g i' j' ≠ NN ∧ u + v ≤ gv g i' j'
def upd (g : List (List Int)) (k i j : Nat) : List (List Int) :=
  if gv g i k ≠ NN ∧ gv g k j ≠ NN then g.set i ((row g i).set j (mx (gv g i j) (gv g i k + gv g k j))) else g
section
variable {n : Nat} {A : Nat → Nat → Option Int}
theorem pos_step {k i j : Nat} {B : Int} {g : List (List Int)} (h : Pos n A k i j B g) (hk : k < n) (hi : i < n) (hj : j < n) (b0 : 0 ≤ B) (b1 : 6 * B ≤ 2000000000000000000) : Pos n A k i (j + 1) B (upd g k i j) := by
  have hil : i < g.length := by rw [h.len]; exact hi
  have hjl : j < (row g i).length := by rw [h.rows i hi]; exact hj
  have und : ¬ dn i j i j := by unfold dn; omega
  obtain ⟨bij, _, _, _, _⟩ := h.bnd i j hi hj
  have bij := bij und
  obtain ⟨k1, _, k3, k4, k5⟩ := h.bnd i k hi hk
  obtain ⟨l1, _, l3, l4, l5⟩ := h.bnd k j hk hj
  unfold upd
  by_cases c : gv g i k ≠ NN ∧ gv g k j ≠ NN
  · rw [if_pos c]
    have hset := gv_set (a := mx (gv g i j) (gv g i k + gv g k j)) hil hjl
    -- what is written
    have ki := (k3 rfl).resolve_left c.1
    have lk := (l4 rfl).resolve_left c.2
    have hmx : (gv g i j = NN → mx (gv g i j) (gv g i k + gv g k j) = gv g i k + gv g k j) ∧ gv g i k + gv g k j ≤ mx (gv g i j) (gv g i k + gv g k j) ∧ gv g i j ≤ mx (gv g i j) (gv g i k + gv g k j) ∧ (mx (gv g i j) (gv g i k + gv g k j) = gv g i j ∨ mx (gv g i j) (gv g i k + gv g k j) = gv g i k + gv g k j) := by
      unfold mx
      refine ⟨fun e => ?_, ?_, ?_, ?_⟩
      · rw [if_pos (by rw [e]; omega)]
      · split <;> omega
      · split <;> omega
      · split
        · exact .inr rfl
        · exact .inl rfl
    obtain ⟨m0, m1, m2, m3⟩ := hmx
    have hnn : mx (gv g i j) (gv g i k + gv g k j) ≠ NN := by omega
    have old : ∀ i' j', gv g i' j' ≠ NN → gv (g.set i ((row g i).set j (mx (gv g i j) (gv g i k + gv g k j)))) i' j' ≠ NN ∧ gv g i' j' ≤ gv (g.set i ((row g i).set j (mx (gv g i j) (gv g i k + gv g k j)))) i' j' := by
      intro i' j' hv
      rw [hset]
      split
      · rename_i e; rw [e.1, e.2]; exact ⟨hnn, m2⟩
      · exact ⟨hv, Int.le_refl _⟩
    have sumb : ∀ C, ok (gv g i k) (C - 0) → True := fun _ _ => trivial
    refine ⟨by simpa using h.len, fun i' hi' => ?_, fun i' j' hi' hj' => ?_, fun i' j' hi' hj' hv => ?_, fun i' j' w hw => ?_, fun i' j' hi' hj' hd u v hu hv => ?_⟩
    · rw [row_set hil]
      split
      · simpa using h.rows i hi
      · exact h.rows i' hi'
    · rw [hset]
      obtain ⟨o1, o2, o3, o4, o5⟩ := h.bnd i' j' hi' hj'
      by_cases e : i' = i ∧ j' = j
      · rw [if_pos e]
        obtain ⟨rfl, rfl⟩ := e
        have bval : gv g i' j' ≠ NN → -B ≤ gv g i' j' ∧ gv g i' j' ≤ B := fun q => bij.resolve_left q
        by_cases q : gv g i' j' = NN
        · have e0 := m0 q
          rw [e0]
          refine ⟨fun q2 => absurd (by unfold dn; omega) q2, .inr (by omega), fun e => ?_, fun e => ?_, fun e1 e2 => ?_⟩
          · subst e
            have a1 := (k1 (by unfold dn; omega)).resolve_left c.1
            have a2 := (l5 rfl rfl).resolve_left c.2
            exact .inr (by omega)
          · subst e
            have a1 := (l1 (by unfold dn; omega)).resolve_left c.2
            have a2 := (k5 rfl rfl).resolve_left c.1
            exact .inr (by omega)
          · subst e1; subst e2
            have a1 := (l1 (by unfold dn; omega)).resolve_left c.2
            exact .inr (by omega)
        · have bv := bval q
          refine ⟨fun q2 => absurd (by unfold dn; omega) q2, .inr (by omega), fun e => ?_, fun e => ?_, fun e1 e2 => ?_⟩
          · subst e
            have a1 := (k1 (by unfold dn; omega)).resolve_left c.1
            have a2 := (l5 rfl rfl).resolve_left c.2
            exact .inr (by omega)
          · subst e
            have a1 := (l1 (by unfold dn; omega)).resolve_left c.2
            have a2 := (k5 rfl rfl).resolve_left c.1
            exact .inr (by omega)
          · subst e1; subst e2
            have a1 := (l1 (by unfold dn; omega)).resolve_left c.2
            exact .inr (by omega)
      · rw [if_neg e]
        exact ⟨fun q => o1 (fun q2 => q (by unfold dn at *; omega)), o2, o3, o4, o5⟩
    · rw [hset] at hv ⊢
      split
      · rename_i e
        obtain ⟨rfl, rfl⟩ := e
        by_cases q : gv g i' j' = NN
        · rw [m0 q]
          exact (h.walk i' k hi hk c.1).app (h.walk k j' hk hj c.2)
        · rcases m3 with m3 | m3
          · rw [m3]; exact h.walk i' j' hi hj q
          · rw [m3]; exact (h.walk i' k hi hk c.1).app (h.walk k j' hk hj c.2)
      · rename_i e
        rw [if_neg e] at hv
        exact h.walk i' j' hi' hj' hv
    · obtain ⟨h1, h2⟩ := h.ph i' j' w hw
      obtain ⟨o1, o2⟩ := old i' j' h1
      exact ⟨o1, Int.le_trans h2 o2⟩
    · by_cases e : i' = i ∧ j' = j
      · obtain ⟨rfl, rfl⟩ := e
        rw [hset, if_pos ⟨rfl, rfl⟩]
        have := (h.ph i' k u hu).2
        have := (h.ph k j' v hv).2
        exact ⟨hnn, by omega⟩
      · obtain ⟨h1, h2⟩ := h.done i' j' hi' hj' (by unfold dn at *; omega) u v hu hv
        obtain ⟨o1, o2⟩ := old i' j' h1
        exact ⟨o1, Int.le_trans h2 o2⟩
  · rw [if_neg c]
    refine ⟨h.len, h.rows, fun i' j' hi' hj' => ?_, h.walk, h.ph, fun i' j' hi' hj' hd u v hu hv => ?_⟩
    · obtain ⟨o1, o2, o3, o4, o5⟩ := h.bnd i' j' hi' hj'
      exact ⟨fun q => o1 (fun q2 => q (by unfold dn at *; omega)), o2, o3, o4, o5⟩
    · by_cases e : i' = i ∧ j' = j
      · obtain ⟨rfl, rfl⟩ := e
        exact absurd ⟨(h.ph i' k u hu).1, (h.ph k j' v hv).1⟩ c
      · exact h.done i' j' hi' hj' (by unfold dn at *; omega) u v hu hv
theorem clo_loop4 {k i : Nat} {B : Int} (hk : k < n) (hi : i < n) (b0 : 0 ≤ B) (b1 : 6 * B ≤ 2000000000000000000) : ∀ (m j : Nat) (g : List (List Int)), m + j = n → Pos n A k i j B g → ∃ g', MendClosure.loop4 k i m j g = some g' ∧ Pos n A k i n B g'
  | 0, j, g, hm, h => by
    have : j = n := by omega
    subst this
    exact ⟨g, rfl, h⟩
  | m + 1, j, g, hm, h => by
    have hj : j < n := by omega
    obtain ⟨g', e, q⟩ := clo_loop4 hk hi b0 b1 m (j + 1) (upd g k i j) (by omega) (pos_step h hk hi hj b0 b1)
    refine ⟨g', ?_, q⟩
    have hl := h.len
    have hri := h.rows i hi
    have hrk := h.rows k hk
    rw [MendClosure.loop4, gx_rowN (show i < g.length by omega), gx_rowN (show k < g.length by omega)]
    simp only [Option.bind_some]
    rw [gx_tm (t := row g i) (i := ((k : Nat) : Int)) (by omega) (by omega), gx_tm (t := row g k) (i := ((j : Nat) : Int)) (by omega) (by omega), gx_tm (t := row g i) (i := ((j : Nat) : Int)) (by omega) (by omega)]
    simp only [Option.bind_some, show nd ((k : Nat) : Int) = k from rfl, show nd ((j : Nat) : Int) = j from rfl]
    have e1 : tm (row g i) k = gv g i k := rfl
    have e2 : tm (row g k) j = gv g k j := rfl
    have e3 : tm (row g i) j = gv g i j := rfl
    rw [e1, e2, e3]
    unfold upd at e
    by_cases c : gv g i k ≠ NN ∧ gv g k j ≠ NN
    · have c1 : (gv g i k != NN) = true := by simpa using c.1
      have c2 : (gv g k j != NN) = true := by simpa using c.2
      obtain ⟨_, _, k3, _, _⟩ := h.bnd i k hi hk
      obtain ⟨_, _, _, l4, _⟩ := h.bnd k j hk hj
      have ki := (k3 rfl).resolve_left c.1
      have lk := (l4 rfl).resolve_left c.2
      simp only [c1, c2, if_true, Option.bind_some]
      rw [w64_id (by omega), ix_in (by omega) (by omega), sx_in (by omega) (by omega)]
      simp only [Option.bind_some, Int.toNat_natCast]
      rw [if_pos c] at e
      exact e
    · have c1 : (if (gv g i k != NN) = true then some (gv g k j != NN) else some false) = some false := by
        by_cases d : gv g i k = NN
        · rw [if_neg (by simpa using d)]
        · rw [if_pos (by simpa using d)]
          have : gv g k j = NN := Classical.byContradiction fun q => c ⟨d, q⟩
          rw [this]; rfl
      rw [c1]
      simp only [Option.bind_some, Bool.false_eq_true, if_false]
      rw [if_neg c] at e
      exact e
theorem clo_loop3 {k : Nat} {B : Int} (hk : k < n) (b0 : 0 ≤ B) (b1 : 6 * B ≤ 2000000000000000000) {w : List (List Int)} (hw : w.length = n) : ∀ (m i : Nat) (g : List (List Int)), m + i = n → Pos n A k i 0 B g → ∃ g', MendClosure.loop3 w k m i g = some g' ∧ Pos n A k n 0 B g'
  | 0, i, g, hm, h => by
    have : i = n := by omega
    subst this
    exact ⟨g, rfl, h⟩
  | m + 1, i, g, hm, h => by
    have hi : i < n := by omega
    obtain ⟨g1, e1, h1⟩ := clo_loop4 hk hi b0 b1 n 0 g rfl h
    have h2 : Pos n A k (i + 1) 0 B g1 := ⟨h1.len, h1.rows, fun i' j' hi' hj' => by
      obtain ⟨o1, o2⟩ := h1.bnd i' j' hi' hj'
      exact ⟨fun q => o1 (fun q2 => q (by unfold dn at *; omega)), o2⟩, h1.walk, h1.ph, fun i' j' hi' hj' hd => h1.done i' j' hi' hj' (by unfold dn at *; omega)⟩
    obtain ⟨g', e, q⟩ := clo_loop3 hk b0 b1 hw m (i + 1) g1 (by omega) h2
    refine ⟨g', ?_, q⟩
    rw [MendClosure.loop3, hw, e1]
    exact e
def Bd : Int → Nat → Prop
  | _, 0 => True
  | B, m + 1 => 6 * B ≤ 2000000000000000000 ∧ Bd (6 * B) m
theorem bd8 (m : Nat) (h : m ≤ 8) : Bd 1099511627776 m := by
  have : m = 0 ∨ m = 1 ∨ m = 2 ∨ m = 3 ∨ m = 4 ∨ m = 5 ∨ m = 6 ∨ m = 7 ∨ m = 8 := by omega
  rcases this with rfl | rfl | rfl | rfl | rfl | rfl | rfl | rfl | rfl <;> simp [Bd]
theorem ok.up {e C D : Int} (h : ok e C) (hc : C ≤ D) : ok e D := h.imp id fun q => by omega
/-- from phase to phase -/
theorem clo_loop2 {w : List (List Int)} (hw : w.length = n) : ∀ (m k : Nat) (g : List (List Int)) (B : Int), m + k = n → 0 ≤ B → Bd B m → Pos n A k 0 0 B g → ∃ g' B', MendClosure.loop2 w m k g = some g' ∧ Pos n A n 0 0 B' g'
  | 0, k, g, B, hm, _, _, h => by
    have : k = n := by omega
    subst this
    exact ⟨g, B, rfl, h⟩
  | m + 1, k, g, B, hm, b0, b1, h => by
    have hk : k < n := by omega
    obtain ⟨g1, e1, h1⟩ := clo_loop3 hk b0 b1.1 hw n 0 g rfl h
    have h2 : Pos n A (k + 1) 0 0 (6 * B) g1 := ⟨h1.len, h1.rows, fun i' j' hi' hj' => by
      obtain ⟨_, o2, _⟩ := h1.bnd i' j' hi' hj'
      exact ⟨fun _ => o2, o2.up (by omega), fun _ => o2.up (by omega), fun _ => o2.up (by omega), fun _ _ => o2.up (by omega)⟩, h1.walk, fun i' j' w hw => by
        rcases hw with hw | ⟨u, v, hu, hv, rfl⟩
        · exact h1.ph i' j' w hw
        · exact h1.done i' j' (hu.lt (by omega)).1 (hv.lt (by omega)).2 (by have := (hu.lt (by omega)).1; unfold dn; omega) u v hu hv, fun i' j' _ _ hd => by unfold dn at hd; omega⟩
    obtain ⟨g', B', e, q⟩ := clo_loop2 hw m (k + 1) g1 (6 * B) (by omega) (by omega) b1.2 h2
    refine ⟨g', B', ?_, q⟩
    rw [MendClosure.loop2, hw, e1]
    exact e
/-- the rows cloned -/
theorem clo_loop1 : ∀ (rs done : List (List Int)), (∀ r ∈ rs, r.length < 4294967296) → MendClosure.loop1 rs done.length (done ++ List.replicate rs.length []) = some (done ++ rs)
  | [], done, _ => by simp [MendClosure.loop1]
  | r :: rs, done, h => by
    have hset : ∀ q : List Int, (done ++ List.replicate (rs.length + 1) []).set done.length q = (done ++ [q]) ++ List.replicate rs.length [] := by
      intro q
      rw [List.replicate_succ, List.set_append_right _ _ (by omega), show done.length - done.length = 0 by omega]
      simp
    have hlen : done.length < (done ++ List.replicate (rs.length + 1) ([] : List Int)).length := by simp
    have hcl : SlicesCloneLint r = some r := by
      unfold SlicesCloneLint
      rw [apd_lt (a := []) (b := r) (by simpa using h r (List.mem_cons_self ..))]
      simp
    rw [MendClosure.loop1, hcl]
    simp only [Option.bind_some, List.length_cons]
    rw [ix_in (by omega) (by omega), sx_in (by omega) (by omega)]
    simp only [Option.bind_some, Int.toNat_natCast]
    rw [hset]
    have := clo_loop1 rs (done ++ [r]) (fun q hq => h q (List.mem_cons_of_mem _ hq))
    simp only [List.length_append, List.length_singleton] at this
    rw [this]
    simp
/-- the diagonal at the end -/
theorem clo_loop5 : ∀ (m k : Nat) (g : List (List Int)), m + k = n → g.length = n → (∀ i, i < n → (row g i).length = n) →
    ((∀ i, k ≤ i → i < n → gv g i i ≤ 0) ∧ ∃ g', MendClosure.loop5 m k g = some (.next g') ∧ g'.length = n ∧ (∀ i, i < n → (row g' i).length = n) ∧ ∀ i j, i < n → j < n → gv g' i j = if i = j ∧ k ≤ i then 0 else gv g i j) ∨
    ((∃ i, k ≤ i ∧ i < n ∧ gv g i i > 0) ∧ MendClosure.loop5 m k g = some (.ret ([], 5)))
  | 0, k, g, hm, hl, hr => .inl ⟨fun i h1 h2 => by omega, g, rfl, hl, hr, fun i j hi hj => by rw [if_neg]; omega⟩
  | m + 1, k, g, hm, hl, hr => by
    have hk : k < n := by omega
    have hkl : k < g.length := by omega
    have hkr := hr k hk
    rw [MendClosure.loop5, gx_rowN hkl]
    simp only [Option.bind_some]
    rw [gx_tm (by omega) (by omega)]
    simp only [Option.bind_some, show nd ((k : Nat) : Int) = k from rfl]
    have e1 : tm (row g k) k = gv g k k := rfl
    rw [e1]
    by_cases c : gv g k k > 0
    · rw [if_pos (by simpa using c)]
      exact .inr ⟨⟨k, Nat.le_refl _, hk, c⟩, rfl⟩
    · rw [if_neg (by simpa using c), ix_in (by omega) (by omega), sx_in (by omega) (by omega)]
      simp only [Option.bind_some, Int.toNat_natCast]
      have hset := gv_set (a := 0) hkl (show k < (row g k).length by omega)
      rcases clo_loop5 m (k + 1) (g.set k ((row g k).set k 0)) (by omega) (by simpa using hl) (fun i hi => by
        rw [row_set hkl]
        split
        · simpa using hkr
        · exact hr i hi) with ⟨h1, g', e, h2, h3, h4⟩ | ⟨⟨i, h1, h2, h3⟩, e⟩
      · refine .inl ⟨fun i hi hi2 => ?_, g', e, h2, h3, fun i j hi hj => ?_⟩
        · by_cases q : i = k
          · subst q; omega
          · have := h1 i (by omega) hi2
            rw [hset, if_neg (fun u => q u.1)] at this
            exact this
        · rw [h4 i j hi hj, hset]
          by_cases q : i = k ∧ j = k
          · rw [if_pos q, if_neg (by omega), if_pos (by omega)]
          · rw [if_neg q]
            by_cases u : i = j ∧ k + 1 ≤ i
            · rw [if_pos u, if_pos (by omega)]
            · rw [if_neg u, if_neg (by omega)]
      · refine .inr ⟨⟨i, by omega, h2, ?_⟩, e⟩
        rw [hset, if_neg (by omega)] at h3
        exact h3
end
/-- the program's answer -/
theorem clo_run {a : List (List Int)} {n : Nat} (hn : n ≤ 8) (hl : a.length = n) (ha : TOk a n) : ∃ d : List (List Int), Full n (dG a) (dG d) ∧ d.length = n ∧ (∀ i, i < n → (row d i).length = n) ∧
    ((Tame n (dG a) ∧ ∃ g', ((mks ((n : Nat) : Int) ([] : List Int)).bind fun x55 => ((MendClosure.loop1 a 0 x55).bind fun q72 => ((MendClosure.loop2 x55 x55.length 0 q72).bind fun q117 => MendClosure.loop5 x55.length 0 q117))) = some (.next g') ∧ g'.length = n ∧ (∀ i, i < n → (row g' i).length = n) ∧ ∀ i j, i < n → j < n → gv g' i j = if i = j then 0 else gv d i j) ∨
     (¬ Tame n (dG a) ∧ ((mks ((n : Nat) : Int) ([] : List Int)).bind fun x55 => ((MendClosure.loop1 a 0 x55).bind fun q72 => ((MendClosure.loop2 x55 x55.length 0 q72).bind fun q117 => MendClosure.loop5 x55.length 0 q117))) = some (.ret ([], 5)))) := by
  have hrows : ∀ i, i < n → (row a i).length = n := fun i hi => ha.len i (by omega)
  have h0 : Pos n (dG a) 0 0 0 1099511627776 a := by
    refine ⟨hl, hrows, fun i j hi hj => ?_, fun i j hi hj hv => .one hi hj (dG_some.2 ⟨hv, rfl⟩), fun i j w hw => ?_, fun i j _ _ hd => by unfold dn at hd; omega⟩
    · have o : ok (gv a i j) 1099511627776 := ha.el i (by omega) j hj
      exact ⟨fun _ => o, o.up (by omega), fun _ => o.up (by omega), fun _ => o.up (by omega), fun _ _ => o.up (by omega)⟩
    · obtain ⟨h1, h2⟩ := dG_some.1 hw.2.2
      exact ⟨h1, by omega⟩
  rw [mks_in (by omega), Option.bind_some]
  have e1 : MendClosure.loop1 a 0 (List.replicate n []) = some a := by
    have := clo_loop1 a [] (fun r hr => by
      obtain ⟨k, hk, rfl⟩ := List.getElem_of_mem hr
      have := hrows k (by omega)
      have e : row a k = a[k] := by simp [row, hk]
      rw [e] at this; omega)
    rw [hl] at this
    exact this
  obtain ⟨d, B', e2, hp⟩ := clo_loop2 (A := dG a) (w := List.replicate n ([] : List Int)) (n := n) (by simp) n 0 a 1099511627776 rfl (by omega) (bd8 n hn) h0
  have full : Full n (dG a) (dG d) := ⟨fun i j w hi hj hw => by
    obtain ⟨h1, h2⟩ := dG_some.1 hw
    rw [← h2]; exact hp.walk i j hi hj h1, fun i j w hw => by
    obtain ⟨h1, h2⟩ := hp.ph i j w hw
    exact ⟨gv d i j, dG_some.2 ⟨h1, rfl⟩, h2⟩⟩
  refine ⟨d, full, hp.len, hp.rows, ?_⟩
  rw [e1, Option.bind_some, List.length_replicate, e2, Option.bind_some]
  rcases clo_loop5 n 0 d rfl hp.len hp.rows with ⟨h1, g', e3, h2, h3, h4⟩ | ⟨⟨i, _, h2, h3⟩, e3⟩
  · refine .inl ⟨full.tame.1 fun i w hi hw => ?_, g', e3, h2, h3, fun i j hi hj => by rw [h4 i j hi hj]; simp⟩
    obtain ⟨_, q⟩ := dG_some.1 hw
    have := h1 i (Nat.zero_le _) hi
    omega
  · refine .inr ⟨fun ht => ?_, e3⟩
    have := full.tame.2 ht i (gv d i i) h2 (dG_some.2 ⟨by omega, rfl⟩)
    omega
/-! greatest sums: the reference's rounds -/
structure Rr (n : Nat) (a : List (List Int)) (i r k j : Nat) (g0 g : List (List Int)) : Prop where
  len : g.length = n
  row : (row g i).length = n
  diag : gv g i i = 0
  walk : ∀ j', j' < n → gv g i j' ≠ NN → ∃ r', Rw n (dG a) i r' j' (gv g i j')
  bnd : ∀ j', j' < n → ok (gv g i j') (1099511627776 * (64 * r + 8 * k + j))
  lay : ∀ j' w, Rw n (dG a) i r j' w → gv g i j' ≠ NN ∧ w ≤ gv g i j'
  done : ∀ k' j', k' < n → j' < n → dn k j k' j' → ∀ u v, Rw n (dG a) i r k' u → dG a k' j' = some v → gv g i j' ≠ NN ∧ u + v ≤ gv g i j'
  fix : r = n → ∀ k' j', k' < n → j' < n → dn k j k' j' → ∀ v, gv g i k' ≠ NN → dG a k' j' = some v → gv g i j' ≠ NN ∧ gv g i k' + v ≤ gv g i j'
  others : ∀ i', i' ≠ i → Go.Fp.row g i' = Go.Fp.row g0 i'
section
variable {n : Nat} {a : List (List Int)}
theorem bf_loop6 (hn : n ≤ 8) (hl : a.length = n) (ha : TOk a n) {d : List (List Int)} (hf : Full n (dG a) (dG d)) {i r k : Nat} (hi : i < n) (hr : r ≤ n) (hk : k < n) {g0 : List (List Int)} : ∀ (rest : List (List Int)) (j : Nat) (g : List (List Int)), j + rest.length = n → Rr n a i r k j g0 g →
    (Fishref2ClosureOf.loop6 a i ((r : Nat) : Int) (row a k) k rest j g = some (.ret ([], 5)) ∧ ¬ Tame n (dG a)) ∨ ∃ g', Fishref2ClosureOf.loop6 a i ((r : Nat) : Int) (row a k) k rest j g = some (.next g') ∧ Rr n a i r k n g0 g'
  | [], j, g, hj, h => by
    have : j = n := by simpa using hj
    subst this
    exact .inr ⟨g, rfl, h⟩
  | q :: rest, j, g, hj, h => by
    simp only [List.length_cons] at hj
    have hjn : j < n := by omega
    have hil : i < g.length := by rw [h.len]; exact hi
    have hrl := h.row
    have hak := ha.len k (by omega)
    have hael := ha.el k (by omega) j hjn
    rw [Fishref2ClosureOf.loop6, gx_rowN hil]
    simp only [Option.bind_some]
    rw [gx_tm (t := row g i) (i := ((k : Nat) : Int)) (by omega) (by omega), gx_tm (t := row a k) (i := ((j : Nat) : Int)) (by omega) (by omega), gx_tm (t := row g i) (i := ((j : Nat) : Int)) (by omega) (by omega)]
    simp only [Option.bind_some, show nd ((k : Nat) : Int) = k from rfl, show nd ((j : Nat) : Int) = j from rfl]
    have e1 : tm (row g i) k = gv g i k := rfl
    have e2 : tm (row a k) j = gv a k j := rfl
    have e3 : tm (row g i) j = gv g i j := rfl
    rw [e1, e2, e3]
    have b8 : (1099511627776 : Int) * (64 * r + 8 * k + j) ≤ 1099511627776 * 1000 := by omega
    -- nothing is written
    have keep : (∀ v, gv g i k ≠ NN → dG a k j = some v → gv g i j ≠ NN ∧ gv g i k + v ≤ gv g i j) → Rr n a i r k (j + 1) g0 g := by
      intro hv
      refine ⟨h.len, h.row, h.diag, h.walk, fun j' hj' => (h.bnd j' hj').up (by omega), h.lay, fun k' j' hk' hj' hd u v hu hav => ?_, fun hrn k' j' hk' hj' hd v hu hav => ?_, h.others⟩
      · by_cases e : k' = k ∧ j' = j
        · obtain ⟨rfl, rfl⟩ := e
          obtain ⟨p1, p2⟩ := h.lay k' u hu
          obtain ⟨p3, p4⟩ := hv v p1 hav
          exact ⟨p3, by omega⟩
        · exact h.done k' j' hk' hj' (by unfold dn at *; omega) u v hu hav
      · by_cases e : k' = k ∧ j' = j
        · obtain ⟨rfl, rfl⟩ := e; exact hv v hu hav
        · exact h.fix hrn k' j' hk' hj' (by unfold dn at *; omega) v hu hav
    by_cases c : gv g i k ≠ NN ∧ gv a k j ≠ NN
    · have c1 : (gv g i k == NN) = false := by simpa using c.1
      have c2 : (gv a k j == NN) = false := by simpa using c.2
      have bk := (h.bnd k hk).resolve_left c.1
      have ba : -1099511627776 ≤ gv a k j ∧ gv a k j ≤ 1099511627776 := hael.resolve_left c.2
      have hav : dG a k j = some (gv a k j) := dG_some.2 ⟨c.2, rfl⟩
      obtain ⟨r', hrw⟩ := h.walk k hk c.1
      have hrw2 : Rw n (dG a) i (r' + 1) j (gv g i k + gv a k j) := .inr ⟨k, _, _, hk, hrw, hav, hjn, rfl⟩
      simp only [c1, c2, Bool.false_eq_true, if_false, Option.bind_some]
      rw [w64_id (by omega)]
      by_cases s : gv g i k + gv a k j > gv g i j
      · have hs : decide (gv g i k + gv a k j > gv g i j) = true := decide_eq_true s
        simp only [hs, if_true, bnd]
        -- an improvement in the last round, or of the node itself
        have bad : (r = n ∨ (j = i ∧ gv g i k + gv a k j > 0)) → ¬ Tame n (dG a) := by
          rintro (e | ⟨e, p⟩) ht
          · obtain ⟨v, q1, q2⟩ := bs_best hf ht hi hrw2
            have := rounds_all hf ht hi j v hjn q1
            have h2 : Rw n (dG a) i r j v := by rw [e]; exact this
            have := (h.lay j v h2).2
            omega
          · rcases hrw2.walk hi with ⟨_, q⟩ | q
            · omega
            · subst e; have := ht j _ q; omega
        by_cases t : r = n ∨ (j = i ∧ gv g i k + gv a k j > 0)
        · have ht : (if (((r : Nat) : Int) == ((a.length : Nat) : Int)) = true then true else if (((j : Nat) : Int) == ((i : Nat) : Int)) = true then decide (gv g i k + gv a k j > 0) else false) = true := by
            by_cases u : r = n
            · rw [if_pos (by simp; omega)]
            · rw [if_neg (by simp; omega)]
              obtain ⟨e, p⟩ := t.resolve_left u
              rw [if_pos (by simp; omega), decide_eq_true p]
          rw [ht]
          exact .inl ⟨rfl, bad t⟩
        · have ht : (if (((r : Nat) : Int) == ((a.length : Nat) : Int)) = true then true else if (((j : Nat) : Int) == ((i : Nat) : Int)) = true then decide (gv g i k + gv a k j > 0) else false) = false := by
            rw [if_neg (by simp; omega)]
            by_cases u : j = i
            · rw [if_pos (by simp; omega), decide_eq_false (fun p => t (.inr ⟨u, p⟩))]
            · rw [if_neg (by simp; omega)]
          rw [ht]
          simp only [Bool.false_eq_true, if_false]
          rw [ix_in (by omega) (by omega), sx_in (by omega) (by omega)]
          simp only [Option.bind_some, Int.toNat_natCast]
          have hset := gv_set (a := gv g i k + gv a k j) hil (show j < (row g i).length by omega)
          have hji : j ≠ i := by
            intro e
            rw [e, h.diag] at s
            exact t (.inr ⟨e, by rw [e]; exact s⟩)
          have hnn : gv g i k + gv a k j ≠ NN := by omega
          have old : ∀ j', gv g i j' ≠ NN → gv (g.set i ((row g i).set j (gv g i k + gv a k j))) i j' ≠ NN ∧ gv g i j' ≤ gv (g.set i ((row g i).set j (gv g i k + gv a k j))) i j' := by
            intro j' hv
            rw [hset]
            split
            · rename_i e; rw [e.2]; exact ⟨hnn, by omega⟩
            · exact ⟨hv, Int.le_refl _⟩
          refine bf_loop6 hn hl ha hf hi hr hk rest (j + 1) _ (by omega) ⟨by simpa using h.len, ?_, ?_, fun j' hj' hv => ?_, fun j' hj' => ?_, fun j' w hw => ?_, fun k' j' hk' hj' hd u v hu hav' => ?_, fun e => absurd (.inl e) t, fun i' hi' => ?_⟩
          · rw [row_set hil, if_pos rfl]; simpa using hrl
          · rw [hset, if_neg (fun e => hji e.2.symm)]; exact h.diag
          · rw [hset] at hv ⊢
            by_cases e : i = i ∧ j' = j
            · rw [if_pos e, e.2]; exact ⟨r' + 1, hrw2⟩
            · rw [if_neg e] at hv ⊢; exact h.walk j' hj' hv
          · rw [hset]
            split
            · exact .inr (by omega)
            · exact (h.bnd j' hj').up (by omega)
          · obtain ⟨p1, p2⟩ := h.lay j' w hw
            obtain ⟨o1, o2⟩ := old j' p1
            exact ⟨o1, Int.le_trans p2 o2⟩
          · by_cases e : k' = k ∧ j' = j
            · obtain ⟨rfl, rfl⟩ := e
              rw [hset, if_pos ⟨rfl, rfl⟩]
              have := (h.lay k' u hu).2
              rw [hav] at hav'
              injection hav' with hav'
              exact ⟨hnn, by omega⟩
            · obtain ⟨p1, p2⟩ := h.done k' j' hk' hj' (by unfold dn at *; omega) u v hu hav'
              obtain ⟨o1, o2⟩ := old j' p1
              exact ⟨o1, Int.le_trans p2 o2⟩
          · rw [row_set hil, if_neg hi']; exact h.others i' hi'
      · have hs : decide (gv g i k + gv a k j > gv g i j) = false := decide_eq_false s
        simp only [hs, Bool.false_eq_true, if_false, Option.bind_some]
        refine bf_loop6 hn hl ha hf hi hr hk rest (j + 1) g (by omega) (keep fun v _ hv => ?_)
        rw [hav] at hv
        injection hv with hv
        refine ⟨fun e => ?_, by omega⟩
        omega
    · have c1 : (if (gv g i k == NN) = true then some true else some (gv a k j == NN)) = some true := by
        by_cases e : gv g i k = NN
        · rw [if_pos (by simpa using e)]
        · rw [if_neg (by simpa using e)]
          have : gv a k j = NN := Classical.byContradiction fun q => c ⟨e, q⟩
          rw [this]; rfl
      rw [c1]
      simp only [Option.bind_some, if_true]
      exact bf_loop6 hn hl ha hf hi hr hk rest (j + 1) g (by omega) (keep fun v h1 h2 => absurd ⟨h1, (dG_some.1 h2).1⟩ c)
theorem bf_loop5 (hn : n ≤ 8) (hl : a.length = n) (ha : TOk a n) {d : List (List Int)} (hf : Full n (dG a) (dG d)) {i r : Nat} (hi : i < n) (hr : r ≤ n) {g0 : List (List Int)} : ∀ (rest : List (List Int)) (k : Nat) (g : List (List Int)), a.drop k = rest → k ≤ n → Rr n a i r k 0 g0 g →
    (Fishref2ClosureOf.loop5 a i ((r : Nat) : Int) rest k g = some (.ret ([], 5)) ∧ ¬ Tame n (dG a)) ∨ ∃ g', Fishref2ClosureOf.loop5 a i ((r : Nat) : Int) rest k g = some (.next g') ∧ Rr n a i r n 0 g0 g'
  | [], k, g, hd, hkn, h => by
    have : k = n := by
      rcases Nat.lt_or_ge k a.length with e | e
      · rw [drop_row e] at hd; cases hd
      · omega
    subst this
    exact .inr ⟨g, rfl, h⟩
  | q :: rest, k, g, hd, hkn, h => by
    have hk : k < a.length := by
      rcases Nat.lt_or_ge k a.length with e | e
      · exact e
      · rw [List.drop_eq_nil_of_le e] at hd; cases hd
    rw [drop_row hk] at hd
    injection hd with hd1 hd2
    rw [Fishref2ClosureOf.loop5, ← hd1]
    rcases bf_loop6 hn hl ha hf hi hr (show k < n by omega) a 0 g (by omega) h with ⟨e, q⟩ | ⟨g1, e, h1⟩
    · rw [e]; exact .inl ⟨rfl, q⟩
    · rw [e, Option.bind_some]
      dsimp only
      exact bf_loop5 hn hl ha hf hi hr rest (k + 1) g1 hd2 (by omega) ⟨h1.len, h1.row, h1.diag, h1.walk, fun j' hj' => (h1.bnd j' hj').up (by omega), h1.lay, fun k' j' hk' hj' hdn => h1.done k' j' hk' hj' (by unfold dn at *; omega), fun e k' j' hk' hj' hdn => h1.fix e k' j' hk' hj' (by unfold dn at *; omega), h1.others⟩
/-- after all rounds -/
structure Re (n : Nat) (a : List (List Int)) (i : Nat) (g0 g : List (List Int)) : Prop where
  len : g.length = n
  row : (row g i).length = n
  diag : gv g i i = 0
  walk : ∀ j', j' < n → gv g i j' ≠ NN → ∃ r', Rw n (dG a) i r' j' (gv g i j')
  lay : ∀ j' w, Rw n (dG a) i n j' w → gv g i j' ≠ NN ∧ w ≤ gv g i j'
  fix : ∀ k' j', k' < n → j' < n → ∀ v, gv g i k' ≠ NN → dG a k' j' = some v → gv g i j' ≠ NN ∧ gv g i k' + v ≤ gv g i j'
  others : ∀ i', i' ≠ i → Go.Fp.row g i' = Go.Fp.row g0 i'
theorem bf_loop4 (hn : n ≤ 8) (hl : a.length = n) (ha : TOk a n) {d : List (List Int)} (hf : Full n (dG a) (dG d)) {i : Nat} (hi : i < n) {g0 : List (List Int)} : ∀ (m r fu : Nat) (g : List (List Int)), m + r = n → m + 2 ≤ fu → Rr n a i r 0 0 g0 g →
    (Fishref2ClosureOf.loop4 a i fu ((r : Nat) : Int) g = some (.ret ([], 5)) ∧ ¬ Tame n (dG a)) ∨ ∃ b g', Fishref2ClosureOf.loop4 a i fu ((r : Nat) : Int) g = some (.next (b, g')) ∧ Re n a i g0 g' := by
  intro m
  induction m with
  | zero =>
    intro r fu g hm hfu h
    obtain ⟨fu, rfl⟩ : ∃ f, fu = f + 2 := ⟨fu - 2, by omega⟩
    rw [Fishref2ClosureOf.loop4, w64_id (by omega), if_pos (by simp; omega)]
    rcases bf_loop5 hn hl ha hf hi (show r ≤ n by omega) a 0 g rfl (by omega) h with ⟨e, q⟩ | ⟨g1, e, h1⟩
    · rw [e]; exact .inl ⟨rfl, q⟩
    · rw [e, Option.bind_some]
      dsimp only
      rw [w64_id (by omega), Fishref2ClosureOf.loop4, w64_id (by omega), if_neg (by simp; omega)]
      have hrn : r = n := by omega
      subst hrn
      exact .inr ⟨_, g1, rfl, h1.len, h1.row, h1.diag, h1.walk, h1.lay, fun k' j' hk' hj' => h1.fix rfl k' j' hk' hj' (by unfold dn; omega), h1.others⟩
  | succ m ih =>
    intro r fu g hm hfu h
    obtain ⟨fu, rfl⟩ : ∃ f, fu = f + 1 := ⟨fu - 1, by omega⟩
    rw [Fishref2ClosureOf.loop4, w64_id (by omega), if_pos (by simp; omega)]
    rcases bf_loop5 hn hl ha hf hi (show r ≤ n by omega) a 0 g rfl (by omega) h with ⟨e, q⟩ | ⟨g1, e, h1⟩
    · rw [e]; exact .inl ⟨rfl, q⟩
    · rw [e, Option.bind_some]
      dsimp only
      rw [w64_id (by omega)]
      have := ih (r + 1) fu g1 (by omega) (by omega) ⟨h1.len, h1.row, h1.diag, h1.walk, fun j' hj' => (h1.bnd j' hj').up (by simp only [Int.natCast_add, Int.natCast_one]; omega), fun j' w hw => by
        rcases hw with hw | ⟨k', u, v, hk', hu, hav, hj', rfl⟩
        · exact h1.lay j' w hw
        · exact h1.done k' j' hk' hj' (by unfold dn; omega) u v hu hav, fun k' j' _ _ hd => by unfold dn at hd; omega, fun _ k' j' _ _ hd => by unfold dn at hd; omega, h1.others⟩
      simpa only [Int.natCast_add, Int.natCast_one] using this
theorem walk_fix {g : List (List Int)} {i : Nat} (hfx : ∀ k' j', k' < n → j' < n → ∀ v, gv g i k' ≠ NN → dG a k' j' = some v → gv g i j' ≠ NN ∧ gv g i k' + v ≤ gv g i j') {m j : Nat} {w : Int} (h : Wb n (dG a) n m j w) (hm : gv g i m ≠ NN) : gv g i j ≠ NN ∧ gv g i m + w ≤ gv g i j := by
  induction h with
  | one h1 h2 h3 => exact hfx _ _ h1 h2 _ hm h3
  | cons h1 h2 _ h4 _ ih =>
    obtain ⟨p1, p2⟩ := hfx _ _ h1 h2 _ hm h4
    obtain ⟨q1, q2⟩ := ih p1
    exact ⟨q1, by omega⟩
theorem bf_loop2 (hn : n ≤ 8) (hl : a.length = n) (ha : TOk a n) {d : List (List Int)} (hf : Full n (dG a) (dG d)) {fu : Nat} : ∀ (m i : Nat) (g : List (List Int)), m + i = n → g.length = n → (∀ i', i' < i → (row g i').length = n ∧ (∀ w, Wb n (dG a) n i' i' w → w ≤ 0) ∧ ∀ j, j < n → (Tame n (dG a) → gv g i' j = if i' = j then 0 else gv d i' j)) →
    (Fishref2ClosureOf.loop2 a (fu + 60) m i g = some (.ret ([], 5)) ∧ ¬ Tame n (dG a)) ∨ ∃ g', Fishref2ClosureOf.loop2 a (fu + 60) m i g = some (.next g') ∧ g'.length = n ∧ (∀ i', i' < n → (row g' i').length = n ∧ (∀ w, Wb n (dG a) n i' i' w → w ≤ 0) ∧ ∀ j, j < n → (Tame n (dG a) → gv g' i' j = if i' = j then 0 else gv d i' j))
  | 0, i, g, hm, hg, h => by
    have : i = n := by omega
    subst this
    exact .inr ⟨g, rfl, hg, h⟩
  | m + 1, i, g, hm, hg, h => by
    have hi : i < n := by omega
    have hil : i < g.length := by omega
    rw [Fishref2ClosureOf.loop2, hl, rep8 fu n hn]
    simp only [Option.bind_some]
    rw [ix_in (by omega) (by omega), sx_in (by omega) (by omega)]
    simp only [Option.bind_some, Int.toNat_natCast]
    have hr1 : row (g.set i (List.replicate n NN)) i = List.replicate n NN := by rw [row_set hil, if_pos rfl]
    rw [gx_rowN (show i < (g.set i (List.replicate n NN)).length by simpa using hil), hr1]
    simp only [Option.bind_some]
    rw [ix_in (by omega) (by simp; omega), sx_in (by omega) (by simp; omega)]
    simp only [Option.bind_some, Int.toNat_natCast, List.set_set]
    have hrow : row (g.set i ((List.replicate n NN).set i 0)) i = (List.replicate n NN).set i 0 := by rw [row_set hil, if_pos rfl]
    have hgv : ∀ j, j < n → gv (g.set i ((List.replicate n NN).set i 0)) i j = if j = i then 0 else NN := by
      intro j hj
      unfold gv
      rw [hrow, tm_set (by simpa using hi)]
      split
      · rfl
      · unfold tm; rw [List.getElem?_replicate, if_pos hj]; rfl
    have r0 : Rr n a i 0 0 0 g (g.set i ((List.replicate n NN).set i 0)) := by
      refine ⟨by simpa using hg, by rw [hrow]; simp, by rw [hgv i hi, if_pos rfl], fun j' hj' hv => ?_, fun j' hj' => ?_, fun j' w hw => ?_, fun k' j' _ _ hd => by unfold dn at hd; omega, fun _ k' j' _ _ hd => by unfold dn at hd; omega, fun i' hi' => ?_⟩
      · rw [hgv j' hj'] at hv ⊢
        by_cases e : j' = i
        · rw [if_pos e]; exact ⟨0, e, rfl⟩
        · rw [if_neg e] at hv; exact absurd rfl hv
      · rw [hgv j' hj']
        split
        · exact .inr (by omega)
        · exact .inl rfl
      · obtain ⟨rfl, rfl⟩ := hw
        rw [hgv j' hi, if_pos rfl]
        exact ⟨by omega, Int.le_refl _⟩
      · rw [row_set hil, if_neg hi']
    have b4 := bf_loop4 hn hl ha hf hi n 0 (fu + 60) _ rfl (by omega) r0
    have b4' : (Fishref2ClosureOf.loop4 a i (fu + 60) 0 (g.set i ((List.replicate n NN).set i 0)) = some (.ret ([], 5)) ∧ ¬ Tame n (dG a)) ∨ ∃ b g', Fishref2ClosureOf.loop4 a i (fu + 60) 0 (g.set i ((List.replicate n NN).set i 0)) = some (.next (b, g')) ∧ Re n a i g g' := b4
    rcases b4' with ⟨e, q⟩ | ⟨b, g1, e, h1⟩
    · rw [e]; exact .inl ⟨rfl, q⟩
    · rw [e, Option.bind_some]
      dsimp only
      refine bf_loop2 hn hl ha hf (fu := fu) m (i + 1) g1 (by omega) h1.len fun i' hi' => ?_
      by_cases c : i' = i
      · subst c
        refine ⟨h1.row, fun w hw => ?_, fun j hj ht => ?_⟩
        · have := (walk_fix h1.fix hw (by rw [h1.diag]; omega)).2
          rw [h1.diag] at this
          omega
        · by_cases e2 : i' = j
          · subst e2; rw [if_pos rfl]; exact h1.diag
          · rw [if_neg e2]
            -- both are the best
            have hbs : bs (dG d) i' j = dG d i' j := by unfold bs; rw [if_neg (fun q => e2 q.symm)]
            by_cases hv : gv g1 i' j = NN
            · rw [hv]
              refine Classical.byContradiction fun q => ?_
              have hd : bs (dG d) i' j = some (gv d i' j) := by rw [hbs]; exact dG_some.2 ⟨fun u => q u.symm, rfl⟩
              exact (h1.lay j _ (rounds_all hf ht hi j _ hj hd)).1 hv
            · obtain ⟨r', hr'⟩ := h1.walk j hj hv
              obtain ⟨v, v1, v2⟩ := bs_best hf ht hi hr'
              have v3 := (h1.lay j v (rounds_all hf ht hi j v hj v1)).2
              rw [hbs] at v1
              have := (dG_some.1 v1).2
              omega
      · obtain ⟨p1, p2, p3⟩ := h i' (by omega)
        have ho := h1.others i' c
        refine ⟨by rw [ho]; exact p1, p2, fun j hj ht => ?_⟩
        have := p3 j hj ht
        unfold gv at this ⊢
        rw [ho]; exact this
end
theorem seq_self (l : List Int) : SlicesEqualLint l l = some true := by
  unfold SlicesEqualLint
  have key : ∀ (m : List Int) (k : Nat), l.drop k = m → SlicesEqualLint.loop1 l m k = some (.next ()) := by
    intro m
    induction m with
    | nil => intro k _; rfl
    | cons a m ih =>
      intro k h
      have hk : k < l.length := by
        rcases Nat.lt_or_ge k l.length with e | e
        · exact e
        · rw [List.drop_eq_nil_of_le e] at h; cases h
      rw [List.drop_eq_getElem_cons hk] at h
      injection h with h1 h2
      rw [SlicesEqualLint.loop1, gx_at hk, h1]
      simp only [Option.bind_some, bne_self_eq_false, Bool.false_eq_true, if_false]
      exact ih _ h2
  rw [key l 0 rfl]
  simp
theorem lists_self (g : List (List Int)) : Fishlaw2lists g g = some true := by
  unfold Fishlaw2lists SlicesEqualFuncLLint_v1
  have key : ∀ (m : List (List Int)) (k : Nat), g.drop k = m → SlicesEqualFuncLLint_v1.loop1 g m k = some (.next ()) := by
    intro m
    induction m with
    | nil => intro k _; rfl
    | cons a m ih =>
      intro k h
      have hk : k < g.length := by
        rcases Nat.lt_or_ge k g.length with e | e
        · exact e
        · rw [List.drop_eq_nil_of_le e] at h; cases h
      rw [List.drop_eq_getElem_cons hk] at h
      injection h with h1 h2
      rw [SlicesEqualFuncLLint_v1.loop1, gx_at hk, h1]
      simp only [Option.bind_some, seq_self, Bool.not_true, Bool.false_eq_true, if_false]
      exact ih _ h2
  rw [key g 0 rfl]
  simp
theorem rounds_true (n : Nat) : Fishlaw2rounds (n + 60) = some true := by kernel_rfl

theorem mwithin (x a b : Int) : Mendwithin x a b = decide (a ≤ x ∧ x ≤ b) := by
  unfold Mendwithin bnd
  by_cases h : a ≤ x <;> simp [h]
theorem rw_eq : Fishref2within = Mendwithin := rfl
/-- rows that are not as wide as asked -/
theorem form_a (b : List (List Int)) : ∀ (l : List (List Int)) (k : Nat), ((∃ j : Nat, SlicesIndexFuncLLint_v1.loop1 b l k = .ret (j : Int)) ∧ Fishref2ProductOf.loop1 b l = .ret ([], 1)) ∨ (SlicesIndexFuncLLint_v1.loop1 b l k = .next () ∧ Fishref2ProductOf.loop1 b l = .next () ∧ ∀ r ∈ l, r.length = b.length)
  | [], _ => .inr ⟨rfl, rfl, fun r hr => by cases hr⟩
  | r :: l, k => by
    rw [SlicesIndexFuncLLint_v1.loop1, Fishref2ProductOf.loop1]
    unfold MendProduct_1_v1
    by_cases c : (r.length : Int) = (b.length : Int)
    · have : ((r.length : Int) != (b.length : Int)) = false := by simp; omega
      simp only [this, Bool.false_eq_true, if_false]
      rcases form_a b l (k + 1) with h | ⟨h1, h2, h3⟩
      · exact .inl h
      · refine .inr ⟨h1, h2, fun q hq => ?_⟩
        rcases List.mem_cons.1 hq with rfl | hq
        · omega
        · exact h3 q hq
    · have : ((r.length : Int) != (b.length : Int)) = true := by simp; omega
      simp only [this, if_true]
      exact .inl ⟨⟨k, rfl⟩, trivial⟩
theorem form_c (b : List (List Int)) : ∀ (l : List (List Int)) (k : Nat), ((∃ j : Nat, SlicesIndexFuncLLint_v3.loop1 b l k = .ret (j : Int)) ∧ Fishref2ClosureOf.loop1 b l = .ret ([], 1)) ∨ (SlicesIndexFuncLLint_v3.loop1 b l k = .next () ∧ Fishref2ClosureOf.loop1 b l = .next () ∧ ∀ r ∈ l, r.length = b.length)
  | [], _ => .inr ⟨rfl, rfl, fun r hr => by cases hr⟩
  | r :: l, k => by
    rw [SlicesIndexFuncLLint_v3.loop1, Fishref2ClosureOf.loop1]
    unfold MendClosure_1_v1
    by_cases c : (r.length : Int) = (b.length : Int)
    · have : ((r.length : Int) != (b.length : Int)) = false := by simp; omega
      simp only [this, Bool.false_eq_true, if_false]
      rcases form_c b l (k + 1) with h | ⟨h1, h2, h3⟩
      · exact .inl h
      · refine .inr ⟨h1, h2, fun q hq => ?_⟩
        rcases List.mem_cons.1 hq with rfl | hq
        · omega
        · exact h3 q hq
    · have : ((r.length : Int) != (b.length : Int)) = true := by simp; omega
      simp only [this, if_true]
      exact .inl ⟨⟨k, rfl⟩, trivial⟩
theorem form_b (b : List (List Int)) (b0 : List Int) (h0 : gx b 0 = some b0) : ∀ (l : List (List Int)) (k : Nat), ((∃ j : Nat, SlicesIndexFuncLLint_v2.loop1 b l k = some (.ret (j : Int))) ∧ (0 < k → Fishref2ProductOf.loop2 l k (b0.length : Int) = .ret ([], 1))) ∨ (SlicesIndexFuncLLint_v2.loop1 b l k = some (.next ()) ∧ (0 < k → Fishref2ProductOf.loop2 l k (b0.length : Int) = .next (b0.length : Int)) ∧ ∀ r ∈ l, r.length = b0.length)
  | [], _ => .inr ⟨rfl, fun _ => rfl, fun r hr => by cases hr⟩
  | r :: l, k => by
    rw [SlicesIndexFuncLLint_v2.loop1, Fishref2ProductOf.loop2]
    unfold MendProduct_2_v1
    rw [h0]
    simp only [Option.bind_some, bnd]
    by_cases c : (r.length : Int) = (b0.length : Int)
    · have : ((r.length : Int) != (b0.length : Int)) = false := by simp; omega
      rw [this]
      simp only [Bool.false_eq_true, if_false]
      rcases form_b b b0 h0 l (k + 1) with ⟨h1, h2⟩ | ⟨h1, h2, h3⟩
      · refine .inl ⟨h1, fun hk => ?_⟩
        rw [ite_self, if_neg (by simp), c]
        exact h2 (by omega)
      · refine .inr ⟨h1, fun hk => ?_, fun q hq => ?_⟩
        · rw [ite_self, if_neg (by simp), c]
          exact h2 (by omega)
        · rcases List.mem_cons.1 hq with rfl | hq
          · omega
          · exact h3 q hq
    · have : ((r.length : Int) != (b0.length : Int)) = true := by simp; omega
      rw [this]
      simp only [if_true]
      refine .inl ⟨⟨k, rfl⟩, fun hk => ?_⟩
      rw [if_pos (by simp; omega)]
theorem tab_row : ∀ (l : List Int) (k : Nat), ((∃ j : Nat, SlicesIndexFuncLint_v1.loop1 l k = .ret (j : Int)) ∧ Fishref2numbersFault.loop2 l = .ret 2) ∨ (SlicesIndexFuncLint_v1.loop1 l k = .next () ∧ Fishref2numbersFault.loop2 l = .next () ∧ ∀ x ∈ l, EOk x)
  | [], _ => .inr ⟨rfl, rfl, fun r hr => by cases hr⟩
  | x :: l, k => by
    rw [SlicesIndexFuncLint_v1.loop1, Fishref2numbersFault.loop2]
    unfold MendcheckTable_1
    rw [rw_eq, mwithin]
    simp only [bnd]
    by_cases c : EOk x
    · have : (if (x != -4611686018427387904) = true then !decide (-1099511627776 ≤ x ∧ x ≤ 1099511627776) else false) = false := by
        rcases c with c | c
        · rw [if_neg (by simpa using c)]
        · rw [decide_eq_true c]; simp
      rw [this]
      simp only [Bool.false_eq_true, if_false]
      rcases tab_row l (k + 1) with h | ⟨h1, h2, h3⟩
      · exact .inl h
      · refine .inr ⟨h1, h2, fun q hq => ?_⟩
        rcases List.mem_cons.1 hq with rfl | hq
        · exact c
        · exact h3 q hq
    · have : (if (x != -4611686018427387904) = true then !decide (-1099511627776 ≤ x ∧ x ≤ 1099511627776) else false) = true := by
        rw [if_pos (by simpa using fun e => c (.inl e)), decide_eq_false (fun e => c (.inr e))]; rfl
      rw [this]
      simp only [if_true]
      exact .inl ⟨⟨k, rfl⟩, trivial⟩
theorem tab_has (l : List Int) : (SlicesContainsFuncLint_v1 l = true ∧ Fishref2numbersFault.loop2 l = .ret 2) ∨ (SlicesContainsFuncLint_v1 l = false ∧ Fishref2numbersFault.loop2 l = .next () ∧ ∀ x ∈ l, EOk x) := by
  unfold SlicesContainsFuncLint_v1 SlicesIndexFuncLint_v1 bnd
  rcases tab_row l 0 with ⟨⟨j, e⟩, h⟩ | ⟨e, h⟩
  · rw [e]; exact .inl ⟨decide_eq_true (by show ((j : Nat) : Int) ≥ 0; omega), h⟩
  · rw [e]; exact .inr ⟨rfl, h⟩
theorem tab_loop : ∀ (b : List (List Int)), (MendcheckTable.loop1 b = .ret 2 ∧ Fishref2numbersFault.loop1 b = .ret 2) ∨ (MendcheckTable.loop1 b = .next () ∧ Fishref2numbersFault.loop1 b = .next () ∧ ∀ r ∈ b, ∀ x ∈ r, EOk x)
  | [] => .inr ⟨rfl, rfl, fun r hr => by cases hr⟩
  | r :: b => by
    rw [MendcheckTable.loop1, Fishref2numbersFault.loop1]
    simp only [bnd]
    rcases tab_has r with ⟨e1, e2⟩ | ⟨e1, e2, e3⟩
    · rw [e1, e2]; exact .inl ⟨rfl, rfl⟩
    · rw [e1, e2]
      simp only [Bool.false_eq_true, if_false]
      rcases tab_loop b with h | ⟨h1, h2, h3⟩
      · exact .inl h
      · refine .inr ⟨h1, h2, fun q hq => ?_⟩
        rcases List.mem_cons.1 hq with rfl | hq
        · exact e3
        · exact h3 q hq
theorem tab_ok (b : List (List Int)) : (MendcheckTable b = 2 ∧ Fishref2numbersFault b = 2) ∨ (MendcheckTable b = 0 ∧ Fishref2numbersFault b = 0 ∧ ∀ r ∈ b, ∀ x ∈ r, EOk x) := by
  unfold MendcheckTable Fishref2numbersFault bnd
  rcases tab_loop b with ⟨h1, h2⟩ | ⟨h1, h2, h3⟩
  · rw [h1, h2]; exact .inl ⟨rfl, rfl⟩
  · rw [h1, h2]; exact .inr ⟨rfl, rfl, h3⟩
theorem tok_of {b : List (List Int)} {wide : Nat} (h1 : ∀ r ∈ b, r.length = wide) (h2 : ∀ r ∈ b, ∀ x ∈ r, EOk x) : TOk b wide := by
  have hm : ∀ k, k < b.length → row b k ∈ b := fun k hk => by
    have : row b k = b[k] := by simp [row, hk]
    rw [this]; exact List.getElem_mem hk
  refine ⟨fun k hk => h1 _ (hm k hk), fun k hk v hv => ?_⟩
  have hl := h1 _ (hm k hk)
  unfold gv
  rw [tm_get (by omega)]
  exact h2 _ (hm k hk) _ (List.getElem_mem _)
theorem prod_tail (fu : Nat) (a b : List (List Int)) (wide : Nat) (h8 : a.length ≤ 8) (ha : ∀ r ∈ a, r.length = b.length) (hb : ∀ r ∈ b, r.length = wide) :
    (if decide (((wide : Nat) : Int) > 8) = true then some (([] : List (List Int)), (4 : Int)) else ((MendProduct.loop1 a b [a, b] 0).bind fun q91 => match q91 with | .ret r => some r | .next () => ((mks ((a).length : Int) ([] : List Int)).bind fun x112 => ((MendProduct.loop2 b (fu + 60) ((wide : Nat) : Int) a 0 x112).bind fun q129 => some (q129, 0)))))
    = (if decide (((wide : Nat) : Int) > 8) = true then some ([], 4) else (bnd (Fishref2ProductOf.loop3 [a, b]) fun q119 => match q119 with | .ret r => some r | .next () => ((Fishref2ProductOf.loop4 b (fu + 60) ((wide : Nat) : Int) a []).bind fun q151 => some (q151, 0)))) ∧
    ∃ z, (if decide (((wide : Nat) : Int) > 8) = true then some (([] : List (List Int)), (4 : Int)) else (bnd (Fishref2ProductOf.loop3 [a, b]) fun q119 => match q119 with | .ret r => some r | .next () => ((Fishref2ProductOf.loop4 b (fu + 60) ((wide : Nat) : Int) a []).bind fun q151 => some (q151, 0)))) = some z := by
  by_cases c : ((wide : Nat) : Int) > 8
  · rw [if_pos (decide_eq_true c), if_pos (decide_eq_true c)]; exact ⟨rfl, _, rfl⟩
  · rw [if_neg (by simpa using c), if_neg (by simpa using c)]
    have m1 : MendProduct.loop1 a b [a, b] 0 = (if MendcheckTable a != 0 then some (.ret ([], MendcheckTable a)) else if MendcheckTable b != 0 then some (.ret ([], MendcheckTable b)) else some (.next ())) := by
      simp only [MendProduct.loop1, gx_nat, List.getElem?_cons_zero, List.getElem?_cons_succ, Option.bind_some]
    have m2 : Fishref2ProductOf.loop3 [a, b] = (if Fishref2numbersFault a != 0 then .ret ([], Fishref2numbersFault a) else if Fishref2numbersFault b != 0 then .ret ([], Fishref2numbersFault b) else .next ()) := by
      simp only [Fishref2ProductOf.loop3]
    rw [m1, m2, mks_in (by omega)]
    unfold bnd
    rcases tab_ok a with ⟨e1, e2⟩ | ⟨e1, e2, ea⟩
    · rw [e1, e2]
      simp only [show ((2 : Int) != 0) = true from rfl, if_true, Option.bind_some]
      exact ⟨trivial, _, rfl⟩
    · rw [e1, e2]
      rcases tab_ok b with ⟨f1, f2⟩ | ⟨f1, f2, eb⟩
      · rw [f1, f2]
        simp only [show ((0 : Int) != 0) = false from rfl, show ((2 : Int) != 0) = true from rfl, Bool.false_eq_true, if_false, if_true, Option.bind_some]
        exact ⟨trivial, _, rfl⟩
      · rw [f1, f2]
        have tb := tok_of hb eb
        have hr : ∀ r ∈ a, r.length = b.length ∧ ∀ x ∈ r, EOk x := fun r hr => ⟨ha r hr, ea r hr⟩
        have p1 := prod_loop2 tb (by omega) (fu := fu) a [] hr
        have p2 := pref_loop4 tb (by omega) (fu := fu) a [] (by simp; omega) hr
        simp only [List.length_nil, List.nil_append] at p1 p2
        simp only [show ((0 : Int) != 0) = false from rfl, Bool.false_eq_true, if_false, Option.bind_some]
        rw [p1, p2]
        exact ⟨rfl, _, rfl⟩
theorem prod_eq (fu : Nat) (a b : List (List Int)) : MendProduct (fu + 60) a b = Fishref2ProductOf (fu + 60) a b ∧ ∃ z, Fishref2ProductOf (fu + 60) a b = some z := by
  unfold MendProduct Fishref2ProductOf
  simp only [bnd]
  by_cases c : (if decide ((a.length : Int) > 8) = true then true else decide ((b.length : Int) > 8)) = true
  · rw [if_pos c, if_pos c]; exact ⟨rfl, _, rfl⟩
  · rw [if_neg c, if_neg c]
    have h8 : a.length ≤ 8 := by
      refine Classical.byContradiction fun q => c ?_
      rw [if_pos (by simp; omega)]
    unfold SlicesContainsFuncLLint_v1 SlicesIndexFuncLLint_v1 bnd
    rcases form_a b a 0 with ⟨⟨j, e1⟩, e2⟩ | ⟨e1, e2, ha⟩
    · rw [e1, e2]
      have hj : decide (((j : Nat) : Int) ≥ 0) = true := decide_eq_true (by omega)
      simp only [hj, if_true, Option.bind_some]
      exact ⟨trivial, _, rfl⟩
    · rw [e1, e2]
      simp only [show decide ((-1 : Int) ≥ 0) = false from rfl, Bool.false_eq_true, if_false]
      unfold SlicesContainsFuncLLint_v2 SlicesIndexFuncLLint_v2
      cases b with
      | nil =>
        have := prod_tail fu a [] 0 h8 ha (fun r hr => by cases hr)
        exact this
      | cons b0 bs =>
        have g0 : gx (b0 :: bs) 0 = some b0 := by rw [gx_zero]; rfl
        have hcnt : ((b0 :: bs).length : Int) > 0 := by simp only [List.length_cons]; omega
        have first : SlicesIndexFuncLLint_v2.loop1 (b0 :: bs) (b0 :: bs) 0 = SlicesIndexFuncLLint_v2.loop1 (b0 :: bs) bs 1 := by
          rw [SlicesIndexFuncLLint_v2.loop1]
          unfold MendProduct_2_v1
          rw [g0]
          simp
        have first2 : Fishref2ProductOf.loop2 (b0 :: bs) 0 0 = Fishref2ProductOf.loop2 bs 1 (b0.length : Int) := by
          rw [Fishref2ProductOf.loop2]
          simp [bnd]
        rw [first, first2, g0]
        rcases form_b (b0 :: bs) b0 g0 bs 1 with ⟨⟨j, e3⟩, e4⟩ | ⟨e3, e4, hb⟩
        · rw [e3, e4 (by omega)]
          have hj : decide (((j : Nat) : Int) ≥ 0) = true := decide_eq_true (by omega)
          simp only [hj, if_true, Option.bind_some]
          exact ⟨trivial, _, rfl⟩
        · rw [e3, e4 (by omega)]
          simp only [Option.bind_some, show decide ((-1 : Int) ≥ 0) = false from rfl, Bool.false_eq_true, if_false, decide_eq_true hcnt, if_true]
          exact prod_tail fu a (b0 :: bs) b0.length h8 ha (fun r hr => by
            rcases List.mem_cons.1 hr with rfl | hr
            · rfl
            · exact hb r hr)
theorem tri {α β γ δ : Type} (x : Option α) (f : α → Option β) (g : β → Option γ) (h : γ → Option δ) : (x.bind fun a => (f a).bind fun b => (g b).bind h) = (x.bind fun a => (f a).bind g).bind h := by
  cases x with
  | none => rfl
  | some a => simp only [Option.bind_some, Option.bind_assoc]
theorem clo_eq (fu : Nat) (a : List (List Int)) : MendClosure a = Fishref2ClosureOf (fu + 60) a ∧ ∃ z, Fishref2ClosureOf (fu + 60) a = some z := by
  unfold MendClosure Fishref2ClosureOf
  by_cases c : (a.length : Int) > 8
  · rw [if_pos (decide_eq_true c), if_pos (decide_eq_true c)]; exact ⟨rfl, _, rfl⟩
  · rw [decide_eq_false c]
    simp only [Bool.false_eq_true, if_false]
    unfold SlicesContainsFuncLLint_v3 SlicesIndexFuncLLint_v3 bnd
    rcases form_c a a 0 with ⟨⟨j, e1⟩, e2⟩ | ⟨e1, e2, ha⟩
    · rw [e1, e2]
      have hj : decide (((j : Nat) : Int) ≥ 0) = true := decide_eq_true (by omega)
      simp only [hj, if_true]
      exact ⟨trivial, _, rfl⟩
    · rw [e1, e2]
      simp only [show decide ((-1 : Int) ≥ 0) = false from rfl, Bool.false_eq_true, if_false]
      rcases tab_ok a with ⟨f1, f2⟩ | ⟨f1, f2, ea⟩
      · rw [f1, f2]
        simp only [show ((2 : Int) != 0) = true from rfl, if_true]
        exact ⟨trivial, _, rfl⟩
      · rw [f1, f2]
        simp only [show ((0 : Int) != 0) = false from rfl, Bool.false_eq_true, if_false]
        have ta := tok_of ha ea
        obtain ⟨d, full, dl, dr, res⟩ := clo_run (show a.length ≤ 8 by omega) rfl ta
        have hmk : mks ((a.length : Nat) : Int) ([] : List Int) = some (List.replicate a.length []) := mks_in (by omega) _
        have bf := bf_loop2 (show a.length ≤ 8 by omega) rfl ta full (fu := fu) a.length 0 (List.replicate a.length []) (by omega) (by simp) (fun i' h => absurd h (Nat.not_lt_zero _))
        rw [hmk] at res ⊢
        simp only [Option.bind_some, List.length_replicate] at res ⊢
        rw [tri]
        rcases res with ⟨ht, g', e3, h1, h2, h3⟩ | ⟨ht, e3⟩
        · rcases bf with ⟨_, q⟩ | ⟨g2, e4, k1, k2⟩
          · exact absurd ht q
          · rw [e3, e4]
            have : g' = g2 := by
              refine List.ext_getElem (by omega) fun i i1 i2 => ?_
              have hi : i < a.length := by omega
              have r1 : row g' i = g'[i] := by simp [row, i1]
              have r2 : row g2 i = g2[i] := by simp [row, i2]
              rw [← r1, ← r2]
              obtain ⟨l1, _, l3⟩ := k2 i hi
              refine list_tm (by rw [h2 i hi, l1]) fun v hv => ?_
              rw [h2 i hi] at hv
              have p1 := h3 i v hi hv
              have p2 := l3 v hv ht
              show gv g' i v = gv g2 i v
              rw [p1, p2]
            subst this
            exact ⟨rfl, _, rfl⟩
        · rcases bf with ⟨e4, _⟩ | ⟨g2, e4, k1, k2⟩
          · rw [e3, e4]
            exact ⟨rfl, _, rfl⟩
          · exact absurd (fun i w hw => (k2 i hw.ends.1).2.1 w hw) ht
theorem MendProducts_law (a b : List (List Int)) (_ : a.length ≤ 9223372036854775807) (_ : ∀ x ∈ a, x.length ≤ 9223372036854775807) (_ : b.length ≤ 9223372036854775807) (_ : ∀ x ∈ b, x.length ≤ 9223372036854775807) : ∃ fu, Fishlaw2MendProducts fu a b = some true := by
  refine ⟨0 + 60, ?_⟩
  have hg := rounds_true 0
  obtain ⟨p1, ⟨z1, z2⟩, pz⟩ := prod_eq 0 a b
  obtain ⟨q1, ⟨y1, y2⟩, qz⟩ := clo_eq 0 a
  unfold Fishlaw2MendProducts
  rw [p1, q1, pz, qz]
  simp [hg, lists_self]
end Go.Fp
