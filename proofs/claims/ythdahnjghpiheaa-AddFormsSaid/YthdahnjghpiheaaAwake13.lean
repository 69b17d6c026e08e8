/- A tensor that every program must know. -/
import Derived.Test.YthdahnjghpiheaaUnitPlain
namespace Go.Proofs.Ythdahnjghpiheaa
open Go.RowKit
set_option linter.unusedVariables false

theorem Blk.isInts {w : World} {g : Nat} {t : TypeId} {k : IntKind} (xs : List Int) (h : Blk w g t (ints k xs)) (hm : xs.length ≤ maxLen) : Reads w w.heap.size (.slice (some ⟨g, 0, none⟩) xs.length xs.length) (ints k xs) :=
  h.reads (length_ints k xs) hm

set_option maxHeartbeats 1600000 in
set_option maxRecDepth 100000 in
theorem awake13_any (w : World) : Calls Try.prog 13 #[] w fun en w' => en = .returned (.bool true) ∧ Below w.heap.size w w' := by
  have k1 : Blk ((w.alloc (.cells #[.int .i64 3] 3)).alloc (.cells #[.int .i8 (-1), .int .i8 0, .int .i8 2] 34)) w.heap.size 3 (ints .i64 [3]) := (Blk.fresh w 3 [.int .i64 3]).alloc _
  have k2 : Blk ((w.alloc (.cells #[.int .i64 3] 3)).alloc (.cells #[.int .i8 (-1), .int .i8 0, .int .i8 2] 34)) (w.heap.size + 1) 34 (ints .i8 [-1, 0, 2]) := by
    have h := Blk.fresh (w.alloc (.cells #[.int .i64 3] 3)) 34 [.int .i8 (-1), .int .i8 0, .int .i8 2]
    rw [World.size_alloc] at h
    exact h
  have hb0 := two_alloc0 w (.cells #[.int .i64 3] 3) (.cells #[.int .i8 (-1), .int .i8 0, .int .i8 2] 34)
  have hT : IsT ((w.alloc (.cells #[.int .i64 3] 3)).alloc (.cells #[.int .i8 (-1), .int .i8 0, .int .i8 2] 34)) ((w.alloc (.cells #[.int .i64 3] 3)).alloc (.cells #[.int .i8 (-1), .int .i8 0, .int .i8 2] 34)).heap.size (.slice (some ⟨w.heap.size, 0, none⟩) 1 1) (.slice (some ⟨w.heap.size + 1, 0, none⟩) 3 3) [3] 0 [-1, 0, 2] :=
    ⟨k1.isInts [3] (by unfold maxLen; simp), k2.isInts [-1, 0, 2] (by unfold maxLen; simp), Lib.hid (by simp), Lib.hid (by simp), by omega, by omega⟩
  have hR := relu_any [3] 0 [-1, 0, 2] _ _ _ _ (Nat.le_refl _) hT (by simp) (by simp)
  have HR := Lib.hid hR
  have HB := Lib.hid hb0
  clear k1 k2 hb0 hT hR
  go_enter Try.func13, Try.ntmps13
  go_wp2_with fail
  refine HR.out.mono ?_
  intro en w3 hg
  unfold ReluGives at hg
  rw [if_pos (by decide)] at hg
  obtain ⟨A, c, A', c', rfl, hT, hb⟩ := hg.form
  have hx := hT.x
  obtain ⟨A2, n2, c2, hv, hn2, hc2, hm2, ha⟩ := hx
  injection hv with q1 q2 q3
  subst q1 q2 q3
  obtain ⟨g, o, rfl, hg3, hx⟩ := ha.out (by decide)
  have z0 : w3.cell? ⟨g, o + 0, none⟩ = some (.int .i8 0) := hx 0 (.int .i8 0) rfl
  have z2 : w3.cell? ⟨g, o + 2, none⟩ = some (.int .i8 2) := hx 2 (.int .i8 2) rfl
  have e3 : (reluI [-1, 0, 2]).length = 3 := by decide
  have e1 : ([3] : List Int).length = 1 := by decide
  have HB3 := Lib.hid (HB.out.trans (hb.mono HB.out.size))
  rw [e3, e1]
  rw [Nat.add_zero] at z0
  clear hT ha hx hn2 hc2 hm2 hg HR e3 e1 hb
  go_wp2
  go_ret
  exact ⟨rfl, HB3.out.alloc (by have := HB3.out.size; omega) _⟩
end Go.Proofs.Ythdahnjghpiheaa
