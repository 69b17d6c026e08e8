/- The walk of SectorSizes. -/
import Derived.Test.YtcgmgogkfhlgpaaAwake5
import Derived.Test.YtcgmgogkfhlgpaaOpen5
import Derived.Test.YtcgmgogkfhlgpaaSecNil
namespace Go.Proofs.Ytcgmgogkfhlgpaa
open Go.RowKit
set_option linter.unusedVariables false
attribute [local go_sem high] run_min_int run_max_int

set_option maxHeartbeats 3200000 in
set_option maxRecDepth 100000 in
theorem sectorSizes_walk (a0 : Int) (v1 : Value) (a1 : CallV) (w : World) (w0 : (Lit.int .i64 a0).wf = true) (o1 : CallOf w v1 a1) :
    Calls Try.prog 9 #[.int .i64 a0, v1] w fun en w' => en = .returned (.bool true) ∧ Below w.heap.size w w' := by
  obtain ⟨dd, i, bv, raw, x, odd⟩ := a1
  obtain ⟨rfl, _, _, hr, _⟩ := o1
  simp only at hr
  obtain ⟨A, c, rfl, _, _⟩ := hr.form
  rw [length_bytesV] at hr ⊢
  obtain ⟨m, hm, hm4⟩ := run_min_max a0
  have HM := Lib.hid hm
  have hD0 := (DS.start w).more (g := w.heap.size) (t := 39) (cs := [.int .i64 dd, .int .i64 i, .slice A raw.length c, .int .u8 (x.toNat : Int), .bool odd]) ((Below.refl _ w).alloc (Nat.le_refl _) _) (Nat.le_refl _) (Blk.fresh w _ _)
  have D0 := Lib.hid hD0
  have HNL : Hid ((Dk.new m).now.length = m) := Lib.hid (by simp [Dk.new])
  clear hr hm hD0 w0
  go_enter Try.func9, Try.ntmps9
  go_wp2_with fail
  refine (ds_new D0.out a0 m HM.out).mono ?_
  rintro en w1 ⟨d, rfl, h⟩
  have D1 := Lib.hid h
  have HLEN : Hid (∀ W, DS w W [(d, Dk.new m)] [(w.heap.size, 39, [.int .i64 dd, .int .i64 i, .slice A raw.length c, .int .u8 (x.toNat : Int), .bool odd])] → Calls Try.prog 26 #[.pointer (some ⟨d, 0, none⟩)] W fun en w' => en = .returned (.int .i64 (m : Int)) ∧ W = w') := Lib.hid (fun W hW => by
    have := ds_len hW
    rwa [HNL.out] at this)
  have k1 : w1.cell? ⟨w.heap.size, 1, none⟩ = some (.int .i64 i) := (h.blk (.head _)).cell 1
  have k2 : w1.cell? ⟨w.heap.size, 2, none⟩ = some (.slice A raw.length c) := (h.blk (.head _)).cell 2
  clear h
  go_wp2_with fail
  refine (nil_fuse _).mono ?_
  rintro en w' ⟨rfl, rfl⟩
  go_wp2_with fail
  refine (nil_crash _ _ _).mono ?_
  rintro en w' ⟨rfl, rfl⟩
  go_wp2_with fail
  refine (nil_read _).mono ?_
  rintro en w' ⟨rfl, rfl⟩
  dsimp only
  go_wp2_with fail
  refine (nil_len).mono ?_
  rintro en w' ⟨rfl, rfl⟩
  go_wp2_with fail
  refine (nil_write _ _ _ _).mono ?_
  rintro en w' ⟨rfl, rfl⟩
  go_wp2_with fail
  refine (nil_flush).mono ?_
  rintro en w' ⟨rfl, rfl⟩
  go_wp2_with fail
  refine (nil_down).mono ?_
  rintro en w' ⟨rfl, rfl⟩
  go_wp2_with fail
  refine (nil_ops).mono ?_
  rintro en w' ⟨rfl, rfl⟩
  go_wp2_with fail
  refine (nil_copy).mono ?_
  rintro en w' ⟨rfl, rfl⟩
  go_wp2_with fail
  refine (HLEN.out _ D1.out).mono ?_
  rintro en w' ⟨rfl, rfl⟩
  have hm := HM.out
  have tm : ((m : Int) == (m : Int)) = true := by simp
  go_wp2_with fail
  refine (awake5_any _).mono ?_
  rintro en w2 ⟨rfl, hb2⟩
  have D2 := Lib.hid (D1.out.below hb2)
  go_wp2
  go_ret
  exact ⟨rfl, D2.out.bel⟩
end Go.Proofs.Ytcgmgogkfhlgpaa
