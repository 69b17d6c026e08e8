/- Two tensors that every program must know to add. -/
import Derived.Test.YthdahnjghpiheaaAdd
import Derived.Test.YthdahnjghpiheaaAddPlain
import Derived.Test.YthdahnjghpiheaaAwake13
import Derived.Test.YthdahnjghpiheaaRefShape
namespace Go.Proofs.Ythdahnjghpiheaa
open Go.RowKit
set_option linter.unusedVariables false

theorem four_alloc0 (w : World) (o o' o'' o3 : Obj) : Below w.heap.size w ((((w.alloc o).alloc o').alloc o'').alloc o3) := ((((Below.refl _ _).alloc (Nat.le_refl _) _).alloc (by simp) _).alloc (by simp; omega) _).alloc (by simp; omega) _
set_option maxHeartbeats 1600000 in
set_option maxRecDepth 100000 in
theorem awake14_any (w : World) : Calls Try.prog 20 #[] w fun en w' => en = .returned (.bool true) ∧ Below w.heap.size w w' := by
  have hb0 := four_alloc0 w (.cells #[.int .i64 1] 3) (.cells #[.int .i8 3] 34) (.cells #[.int .i64 1] 3) (.cells #[.int .i8 1] 34)
  have k1 := (((Blk.fresh w 3 [.int .i64 1]).alloc (.cells #[.int .i8 3] 34)).alloc (.cells #[.int .i64 1] 3)).alloc (.cells #[.int .i8 1] 34)
  have k2 := ((Blk.fresh (w.alloc (.cells #[.int .i64 1] 3)) 34 [.int .i8 3]).alloc (.cells #[.int .i64 1] 3)).alloc (.cells #[.int .i8 1] 34)
  have k3 := (Blk.fresh ((w.alloc (.cells #[.int .i64 1] 3)).alloc (.cells #[.int .i8 3] 34)) 3 [.int .i64 1]).alloc (.cells #[.int .i8 1] 34)
  have k4 := Blk.fresh (((w.alloc (.cells #[.int .i64 1] 3)).alloc (.cells #[.int .i8 3] 34)).alloc (.cells #[.int .i64 1] 3)) 34 [.int .i8 1]
  simp only [World.size_alloc, Nat.add_assoc, Nat.reduceAdd] at k2 k3 k4
  have hm : (1 : Nat) ≤ maxLen := by unfold maxLen; omega
  have r1 := Blk.isInts (k := .i64) [1] k1 hm
  have r2 := Blk.isInts (k := .i8) [3] k2 hm
  have r3 := Blk.isInts (k := .i64) [1] k3 hm
  have r4 := Blk.isInts (k := .i8) [1] k4 hm
  have hR := add_any [1] 1 [3] [1] 0 [1] _ _ _ _ _ _ (Nat.le_refl _) ⟨r1, r2, Lib.hid (by simp), Lib.hid (by simp), by omega, by omega⟩ ⟨r3, r4, Lib.hid (by simp), Lib.hid (by simp), by omega, by omega⟩ [1] 0 [7] 0 (by decide) (by decide) (by decide) (by decide)
  have HR := Lib.hid hR
  have HB := Lib.hid hb0
  clear k1 k2 k3 k4 hb0 r1 r2 r3 r4 hR hm
  go_enter Try.func20, Try.ntmps20
  go_wp2_with fail
  refine HR.out.mono ?_
  rintro en w3 ⟨A, c, A', c', rfl, hT, hb⟩
  have hx := hT.x
  obtain ⟨A2, n2, c2, hv, hn2, hc2, hm2, ha⟩ := hx
  injection hv with q1 q2 q3
  subst q1 q2 q3
  obtain ⟨g, o, rfl, hg3, hx⟩ := ha.out (by decide)
  have z0 : w3.cell? ⟨g, o + 0, none⟩ = some (.int .i32 7) := hx 0 (.int .i32 7) rfl
  rw [Nat.add_zero] at z0
  have e1 : ([7] : List Int).length = 1 := by decide
  have e2 : ([1] : List Int).length = 1 := by decide
  have HB3 := Lib.hid (HB.out.trans (hb.mono HB.out.size))
  rw [e1, e2]
  clear hT ha hx hn2 hc2 hm2 HR e1 e2 hb
  go_wp2
  go_ret
  exact ⟨rfl, HB3.out.alloc (by have := HB3.out.size; omega) _⟩
end Go.Proofs.Ythdahnjghpiheaa
