/- The bytes of a string as a slice that stays. No condition. -/
import Derived.Test.YtpcebngchmgckaaGreatDoorFpStr
import Derived.Lib.ConvBytes
import Derived.Laws.AppendOwn
namespace Go.Fp
open Go
def sby (s : ByteArray) : List Int := s.data.toList.map fun b => (b.toNat : Int)
theorem sby_len (s : ByteArray) : (sby s).length = s.size := by simp [sby]
section
variable {P : Program} {K : Kt} {a : Act} {w : World} {n : Nat} {E : Env} {ops : Array Oper} {rest : List Oper} {d : Option Tmp} {ty : TypeId} {pos : String} {aft : Array Edge} {g : Option (Nat × Bool)} {s : Sg} {R : List HP}
theorem WL.toBytes (hE : Rep a n E) (hS : St w s R) {t t' e : TypeId} {x : Operand} {str : ByteArray} (hg : Region.wanted ⟨d, .convert t t' x, ty, pos, aft, g⟩ (yielded ops a.tmps) = true) (hd : dstOk d n = true)
    (hx : E.ev x = some (.string str)) (hs : stOk P t = true) (ht : P.underlying t' = some (.slice e)) (he : P.underlying e = some (.int .u8)) {u : Unit} (hz : szok str = some u)
    (q : ∀ (a' : Option Addr) (c : Nat) (s' : Sg) a w, s.Le s' → Sl 1 (RI .u8) s' a' c (sby str) → Rep a n (E.put d (.slice a' (sby str).length c)) → St w s' R → WL P ops K rest a w) : WL P ops K (⟨d, .convert t t' x, ty, pos, aft, g⟩ :: rest) a w := by
  have hsz := szok_some hz
  have hs := stOk.und hs
  have h1 : St (w.drew.alloc (.cells (Lib.bytesCells w e str) e)) s (pt w.heap.size (.cells (Lib.bytesCells w e str) e) :: R) := hS.drew.alloc _
  have h2 : St (Lib.bytesWorld w e str) s (pt w.heap.size (.cells (Lib.bytesCells w e str) e ((Lib.bytesCells w e str).size, (Lib.bytesCells w e str).size + 1)) :: R) := by
    refine h1.put (Lib.bytesWorld_at_new w e str) ?_ ?_ ?_
    · intro k hk
      rcases Nat.lt_trichotomy k w.heap.size with h | h | h
      · rw [Lib.bytesWorld_at_old w e str k h]
        simp [World.alloc, World.drew, -World.alloc_eq, -World.drew_eq, Array.getElem?_push, Nat.ne_of_lt h]
      · exact absurd h hk
      · rw [Array.getElem?_eq_none (by rw [Lib.bytesWorld_size]; omega)]
        rw [Array.getElem?_eq_none]
        simp only [World.alloc, World.drew, Array.size_push]
        omega
    · simp [Lib.bytesWorld, World.freeze, World.alloc, World.drew, -World.alloc_eq, -World.drew_eq]
    · simp [Lib.bytesWorld, World.freeze, World.alloc, World.drew, -World.alloc_eq, -World.drew_eq]
  obtain ⟨h3, hle⟩ := h2.fix
  refine WL.step (w' := Lib.bytesWorld w e str) (v := .slice (some ⟨w.heap.size, 0, none⟩) str.size (grownCap w str.size 0 e)) hg ?_ (q (some ⟨w.heap.size, 0, none⟩) (grownCap w str.size 0 e) _ _ _ hle ?_ ?_ h3)
  · simp [execOp, hE.ev hx, Lib.run_convert_string_bytes w t t' e str hs ht he]
  · refine ⟨by rw [sby_len]; exact grownCap_ge _ _ _ _, grownCap_le_maxLen _ _ _ _ (by unfold maxLen; omega), .inl ⟨_, _, rfl⟩, ?_⟩
    intro k x hk
    unfold sby at hk
    rw [List.getElem?_map, Option.map_eq_some_iff] at hk
    obtain ⟨b, hb, rfl⟩ := hk
    refine ⟨[.int .u8 (b.toNat : Int)], rfl, ⟨_, _, _, if_pos rfl, ?_⟩, rfl⟩
    intro j v hj
    have hj0 : j = 0 := by
      cases j with
      | zero => rfl
      | succ j => simp at hj
    subst hj0
    simp at hj
    subst hj
    obtain ⟨hlt, hb⟩ := List.getElem?_eq_some_iff.1 hb
    have hlt' : k < str.data.size := by simpa using hlt
    simp only [ao, Nat.mul_one, Nat.add_zero, Lib.bytesCells]
    rw [Array.getElem?_append_left (by simpa using hlt')]
    have hb' : str.data[k] = b := by simpa using hb
    simp [Array.getElem?_eq_getElem hlt', hb']
  · rw [sby_len]; exact hE.puts hd _
end
end Go.Fp
