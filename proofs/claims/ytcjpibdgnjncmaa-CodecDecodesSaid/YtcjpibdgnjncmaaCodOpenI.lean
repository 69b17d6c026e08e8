/- Arguments opened: rows of numbers; a prefix of an owned row. -/
import Derived.Test.YtcjpibdgnjncmaaOpenS
import Derived.Test.YtcjpibdgnjncmaaCodUse
import Derived.Laws.BitsAllLaws
namespace Go.Proofs.Ytcjpibdgnjncmaa
open Go.ChangeShapes Go.WideShapes Go.ChangeAt Go.RowKit Go.Deep
set_option linter.unusedVariables false
set_option linter.unusedSimpArgs false

theorem own_take {w : World} {base : Nat} {e : TypeId} {A : Option Addr} {n c k : Nat} {xs : List Value} (h : w.ownsRow base e 1 (.slice A n c) n xs) (hk : k ≤ n) : w.ownsRow base e 1 (.slice A k c) k (xs.take k) := by
  by_cases h0 : n = 0
  · subst h0
    obtain rfl : k = 0 := by omega
    have hx : xs = [] := List.eq_nil_of_length_eq_zero (by have := h.1; omega)
    subst hx
    exact h
  · obtain ⟨g, cap, rest, e', hb, hlt, hnc, hcm, hr, hxl, hblk⟩ := own_blk h (by omega)
    injection e' with e1 _ e3
    subst e1 e3
    have h2 := hblk.own (size := 1) (n := k) (cap := c) hb (by omega) hcm (by rw [List.length_append]; omega)
    rw [Nat.mul_one, List.take_append_of_le_length (by omega)] at h2
    exact h2
/-- one byte of an owned row is turned -/
theorem own_byte {w : World} {base g n c j : Nat} {bs : List UInt8} (h : w.ownsRow base 5 1 (.slice (some ⟨g, 0, none⟩) n c) n (bytesV bs)) (hj : j < n) (b : UInt8) :
    (w.setCell ⟨g, j, none⟩ (.int .u8 (b.toNat : Int))).ownsRow base 5 1 (.slice (some ⟨g, 0, none⟩) n c) n (bytesV (bs.set j b)) := by
  obtain ⟨g', cap, rest, e', hb, hlt, hnc, hcm, hr, hxl, hblk⟩ := own_blk h (by omega)
  injection e' with e1 _ e3
  injection e1 with e1
  injection e1 with e1
  subst e1 e3
  have h2 := hblk.put j (.int .u8 (b.toNat : Int))
  rw [List.set_append_left _ _ (by omega)] at h2
  have e : (bytesV bs).set j (.int .u8 (b.toNat : Int)) = bytesV (bs.set j b) := by unfold bytesV; rw [List.map_set]
  rw [e] at h2
  exact h2.ownFit hb hnc hcm (by rw [length_bytesV, List.length_set, ← length_bytesV]; exact hxl) hr
theorem byte_at {w : World} {base g n c j : Nat} {bs : List UInt8} (h : w.ownsRow base 5 1 (.slice (some ⟨g, 0, none⟩) n c) n (bytesV bs)) (hj : j < n) :
    (∃ b : UInt8, w.cell? ⟨g, j, none⟩ = some (.int .u8 (b.toNat : Int))) ∧ w.frozen? ⟨g, j, none⟩ = false ∧ g < w.heap.size ∧ base ≤ g := by
  obtain ⟨g', cap, rest, e', hb, hlt, hnc, hcm, hr, hxl, hblk⟩ := own_blk h (by omega)
  injection e' with e1 _ e3
  injection e1 with e1
  injection e1 with e1
  subst e1 e3
  rw [length_bytesV] at hxl
  refine ⟨⟨bs[j], ?_⟩, hblk.free _, hlt, hb⟩
  rw [hblk.cell, List.getElem?_append_left (by rw [length_bytesV]; omega), bytesV_at bs j (by omega)]
theorem xor_byte (a b : UInt8) : bits .xor .u8 (a.toNat : Int) (b.toNat : Int) = ((a ^^^ b).toNat : Int) := by
  rw [u8_xor_nat _ _ a.toNat_lt b.toNat_lt]
  simp
theorem byte_of {x : Int} (w : (Lit.int .u8 x).wf = true) : ∃ b : UInt8, x = (b.toNat : Int) := by
  have h : 0 ≤ x ∧ x ≤ 255 := by simpa [Lit.wf, IntKind.min, IntKind.max, IntKind.signed, IntKind.bits] using w
  exact ⟨UInt8.ofNat x.toNat, by simp; omega⟩
theorem mod_lt2 (a m : Int) (h0 : 0 < m) (h1 : m ≤ 1000000000) : ∃ j : Nat, wrap64 ((IntKind.u64.wrap a).tmod m) = j ∧ (j : Int) < m := by
  have hu : 0 ≤ IntKind.u64.wrap a := by rw [IntKind.wrap_u64]; omega
  have ht : (IntKind.u64.wrap a).tmod m = (IntKind.u64.wrap a) % m := Int.tmod_eq_emod_of_nonneg hu
  have h2 := Int.emod_nonneg (IntKind.u64.wrap a) (show m ≠ 0 by omega)
  have h3 := Int.emod_lt_of_pos (IntKind.u64.wrap a) h0
  rw [ht]
  generalize (IntKind.u64.wrap a) % m = x at h2 h3
  refine ⟨x.toNat, ?_, by omega⟩
  unfold wrap64
  omega
end Go.Proofs.Ytcjpibdgnjncmaa
