/- The walk of CheckWitness. -/
import Derived.Test.YtkileiikffomlaaNetAwake
import Derived.Test.YtkileiikffomlaaOpenM
import Derived.Test.YtkileiikffomlaaNetWit
namespace Go.Proofs.Ytkileiikffomlaa
open Go.RowKit
set_option linter.unusedVariables false

theorem conv_in (a k m : Int) (h0 : 0 < m) (h1 : m ≤ 100) (k0 : 0 ≤ k) (k1 : k ≤ 1000) : k ≤ wrap64 (k + wrap64 ((IntKind.u64.wrap a).tmod m)) ∧ wrap64 (k + wrap64 ((IntKind.u64.wrap a).tmod m)) ≤ k + (m - 1) := by
  have hu : 0 ≤ IntKind.u64.wrap a := by rw [IntKind.wrap_u64]; omega
  have ht : (IntKind.u64.wrap a).tmod m = (IntKind.u64.wrap a) % m := Int.tmod_eq_emod_of_nonneg hu
  have h2 := Int.emod_nonneg (IntKind.u64.wrap a) (show m ≠ 0 by omega)
  have h3 := Int.emod_lt_of_pos (IntKind.u64.wrap a) h0
  rw [ht]
  generalize (IntKind.u64.wrap a) % m = x at h2 h3
  unfold wrap64
  omega
theorem lenetI_lays {cl : Int} (hcl : inW cl) : ∀ l ∈ lenetI cl, l.ok := by
  intro l hl
  unfold lenetI at hl
  unfold inW at *
  simp only [List.mem_cons, List.not_mem_nil, or_false] at hl
  rcases hl with rfl | rfl | rfl | rfl | rfl | rfl | rfl | rfl | rfl | rfl
  all_goals (unfold LayV.ok inW; simp only; omega)
theorem vggI_lays {cl : Int} (hcl : inW cl) : ∀ l ∈ vggI cl, l.ok := by
  intro l hl
  unfold vggI at hl
  unfold inW at *
  simp only [List.mem_cons, List.not_mem_nil, or_false] at hl
  rcases hl with rfl | rfl | rfl | rfl | rfl | rfl | rfl | rfl
  all_goals (unfold LayV.ok inW; simp only; omega)
theorem longI_lays {wd cl : Int} (hwd : inW wd) (hcl : inW cl) : ∀ l ∈ longI wd cl, l.ok := by
  intro l hl
  unfold longI at hl
  unfold inW at *
  simp only [List.mem_cons, List.not_mem_nil, or_false] at hl
  rcases hl with rfl | rfl | rfl
  all_goals (unfold LayV.ok inW; simp only; omega)
set_option maxHeartbeats 3200000 in
set_option maxRecDepth 100000 in
theorem checkWitness_walk (a0 a1 a2 : Int) (w0 : (Lit.int .i64 a0).wf = true) (w1 : (Lit.int .i64 a1).wf = true) (w2 : (Lit.int .i64 a2).wf = true) (w : World) :
    Calls Try.prog 5 #[.int .i64 a0, .int .i64 a1, .int .i64 a2] w fun en w' => en = .returned (.bool true) ∧ Below w.heap.size w w' := by
  go_enter Try.func5, Try.ntmps5
  go_upto_region 2 with fail
  have hc := conv_in a0 2 9 (by omega) (by omega) (by omega) (by omega)
  have hb := conv_in a1 1 2 (by omega) (by omega) (by omega) (by omega)
  have hw := conv_in a2 960 60 (by omega) (by omega) (by omega) (by omega)
  generalize wrap64 (2 + wrap64 ((IntKind.u64.wrap a0).tmod 9)) = cl at hc ⊢
  generalize wrap64 (1 + wrap64 ((IntKind.u64.wrap a1).tmod 2)) = bt at hb ⊢
  generalize wrap64 (960 + wrap64 ((IntKind.u64.wrap a2).tmod 60)) = wd at hw ⊢
  obtain ⟨c0, c1⟩ := hc
  obtain ⟨b0, b1⟩ := hb
  obtain ⟨d0, d1⟩ := hw
  clear w0 w1 w2
  have icl : Hid (inW cl) := Lib.hid (by unfold inW; omega)
  have ibt : Hid (inW bt) := Lib.hid (by unfold inW; omega)
  have iwd : Hid (inW wd) := Lib.hid (by unfold inW; omega)
  have F1 := Lib.hid (lenet_ok (cl := cl) (bt := bt) (by omega) (by omega) (by omega) (by omega))
  have F2 := Lib.hid (vgg_ok (cl := cl) (bt := bt) (by omega) (by omega) (by omega) (by omega))
  have F3 := Lib.hid (long_no (cl := cl) (bt := bt) (wd := wd) (by omega) (by omega) (by omega) (by omega) (by omega) (by omega))
  have k0 := ((((((Blk.fresh w 43 [.int .i64 2, .int .i64 4, .int .i64 5, .int .i64 1, .int .i64 0, .int .i64 0, .bool false, .int .i64 5, .int .i64 0, .int .i64 0, .int .i64 0, .int .i64 0, .int .i64 0, .bool false, .int .i64 3, .int .i64 0, .int .i64 2, .int .i64 2, .int .i64 0, .int .i64 0, .bool false, .int .i64 2, .int .i64 8, .int .i64 3, .int .i64 1, .int .i64 0, .int .i64 0, .bool false, .int .i64 5, .int .i64 0, .int .i64 0, .int .i64 0, .int .i64 0, .int .i64 0, .bool false, .int .i64 3, .int .i64 0, .int .i64 2, .int .i64 2, .int .i64 0, .int .i64 0, .bool false, .int .i64 6, .int .i64 0, .int .i64 0, .int .i64 0, .int .i64 0, .int .i64 0, .bool false, .int .i64 1, .int .i64 20, .int .i64 0, .int .i64 0, .int .i64 0, .int .i64 0, .bool false, .int .i64 5, .int .i64 0, .int .i64 0, .int .i64 0, .int .i64 0, .int .i64 0, .bool false, .int .i64 1, .int .i64 cl, .int .i64 0, .int .i64 0, .int .i64 0, .int .i64 0, .bool false]).alloc (.cells #[.int .i64 1, .int .i64 16, .int .i64 16, .slice (some ⟨w.heap.size, 0, none⟩) 10 10] 25)).alloc (.cells #[.int .i64 2, .int .i64 8, .int .i64 3, .int .i64 1, .int .i64 1, .int .i64 0, .bool false, .int .i64 5, .int .i64 0, .int .i64 0, .int .i64 0, .int .i64 0, .int .i64 0, .bool false, .int .i64 2, .int .i64 8, .int .i64 3, .int .i64 1, .int .i64 1, .int .i64 0, .bool false, .int .i64 7, .int .i64 0, .int .i64 0, .int .i64 0, .int .i64 0, .int .i64 1, .bool false, .int .i64 3, .int .i64 0, .int .i64 2, .int .i64 2, .int .i64 0, .int .i64 0, .bool false, .int .i64 4, .int .i64 0, .int .i64 2, .int .i64 2, .int .i64 0, .int .i64 0, .bool false, .int .i64 6, .int .i64 0, .int .i64 0, .int .i64 0, .int .i64 0, .int .i64 0, .bool false, .int .i64 1, .int .i64 cl, .int .i64 0, .int .i64 0, .int .i64 0, .int .i64 0, .bool false] 43)).alloc (.cells #[.int .i64 3, .int .i64 8, .int .i64 8, .slice (some ⟨w.heap.size + 1 + 1, 0, none⟩) 8 8] 25)).alloc (.cells #[.int .i64 6, .int .i64 0, .int .i64 0, .int .i64 0, .int .i64 0, .int .i64 0, .bool false, .int .i64 1, .int .i64 wd, .int .i64 0, .int .i64 0, .int .i64 0, .int .i64 0, .bool false, .int .i64 1, .int .i64 cl, .int .i64 0, .int .i64 0, .int .i64 0, .int .i64 0, .bool false] 43)).alloc (.cells #[.int .i64 1, .int .i64 1, .int .i64 2, .slice (some ⟨w.heap.size + 1 + 1 + 1 + 1, 0, none⟩) 3 3] 25))
  have k1 := (((((Blk.fresh (w.alloc (.cells #[.int .i64 2, .int .i64 4, .int .i64 5, .int .i64 1, .int .i64 0, .int .i64 0, .bool false, .int .i64 5, .int .i64 0, .int .i64 0, .int .i64 0, .int .i64 0, .int .i64 0, .bool false, .int .i64 3, .int .i64 0, .int .i64 2, .int .i64 2, .int .i64 0, .int .i64 0, .bool false, .int .i64 2, .int .i64 8, .int .i64 3, .int .i64 1, .int .i64 0, .int .i64 0, .bool false, .int .i64 5, .int .i64 0, .int .i64 0, .int .i64 0, .int .i64 0, .int .i64 0, .bool false, .int .i64 3, .int .i64 0, .int .i64 2, .int .i64 2, .int .i64 0, .int .i64 0, .bool false, .int .i64 6, .int .i64 0, .int .i64 0, .int .i64 0, .int .i64 0, .int .i64 0, .bool false, .int .i64 1, .int .i64 20, .int .i64 0, .int .i64 0, .int .i64 0, .int .i64 0, .bool false, .int .i64 5, .int .i64 0, .int .i64 0, .int .i64 0, .int .i64 0, .int .i64 0, .bool false, .int .i64 1, .int .i64 cl, .int .i64 0, .int .i64 0, .int .i64 0, .int .i64 0, .bool false] 43)) 25 [.int .i64 1, .int .i64 16, .int .i64 16, .slice (some ⟨w.heap.size, 0, none⟩) 10 10]).alloc (.cells #[.int .i64 2, .int .i64 8, .int .i64 3, .int .i64 1, .int .i64 1, .int .i64 0, .bool false, .int .i64 5, .int .i64 0, .int .i64 0, .int .i64 0, .int .i64 0, .int .i64 0, .bool false, .int .i64 2, .int .i64 8, .int .i64 3, .int .i64 1, .int .i64 1, .int .i64 0, .bool false, .int .i64 7, .int .i64 0, .int .i64 0, .int .i64 0, .int .i64 0, .int .i64 1, .bool false, .int .i64 3, .int .i64 0, .int .i64 2, .int .i64 2, .int .i64 0, .int .i64 0, .bool false, .int .i64 4, .int .i64 0, .int .i64 2, .int .i64 2, .int .i64 0, .int .i64 0, .bool false, .int .i64 6, .int .i64 0, .int .i64 0, .int .i64 0, .int .i64 0, .int .i64 0, .bool false, .int .i64 1, .int .i64 cl, .int .i64 0, .int .i64 0, .int .i64 0, .int .i64 0, .bool false] 43)).alloc (.cells #[.int .i64 3, .int .i64 8, .int .i64 8, .slice (some ⟨w.heap.size + 1 + 1, 0, none⟩) 8 8] 25)).alloc (.cells #[.int .i64 6, .int .i64 0, .int .i64 0, .int .i64 0, .int .i64 0, .int .i64 0, .bool false, .int .i64 1, .int .i64 wd, .int .i64 0, .int .i64 0, .int .i64 0, .int .i64 0, .bool false, .int .i64 1, .int .i64 cl, .int .i64 0, .int .i64 0, .int .i64 0, .int .i64 0, .bool false] 43)).alloc (.cells #[.int .i64 1, .int .i64 1, .int .i64 2, .slice (some ⟨w.heap.size + 1 + 1 + 1 + 1, 0, none⟩) 3 3] 25))
  have k2 := ((((Blk.fresh ((w.alloc (.cells #[.int .i64 2, .int .i64 4, .int .i64 5, .int .i64 1, .int .i64 0, .int .i64 0, .bool false, .int .i64 5, .int .i64 0, .int .i64 0, .int .i64 0, .int .i64 0, .int .i64 0, .bool false, .int .i64 3, .int .i64 0, .int .i64 2, .int .i64 2, .int .i64 0, .int .i64 0, .bool false, .int .i64 2, .int .i64 8, .int .i64 3, .int .i64 1, .int .i64 0, .int .i64 0, .bool false, .int .i64 5, .int .i64 0, .int .i64 0, .int .i64 0, .int .i64 0, .int .i64 0, .bool false, .int .i64 3, .int .i64 0, .int .i64 2, .int .i64 2, .int .i64 0, .int .i64 0, .bool false, .int .i64 6, .int .i64 0, .int .i64 0, .int .i64 0, .int .i64 0, .int .i64 0, .bool false, .int .i64 1, .int .i64 20, .int .i64 0, .int .i64 0, .int .i64 0, .int .i64 0, .bool false, .int .i64 5, .int .i64 0, .int .i64 0, .int .i64 0, .int .i64 0, .int .i64 0, .bool false, .int .i64 1, .int .i64 cl, .int .i64 0, .int .i64 0, .int .i64 0, .int .i64 0, .bool false] 43)).alloc (.cells #[.int .i64 1, .int .i64 16, .int .i64 16, .slice (some ⟨w.heap.size, 0, none⟩) 10 10] 25)) 43 [.int .i64 2, .int .i64 8, .int .i64 3, .int .i64 1, .int .i64 1, .int .i64 0, .bool false, .int .i64 5, .int .i64 0, .int .i64 0, .int .i64 0, .int .i64 0, .int .i64 0, .bool false, .int .i64 2, .int .i64 8, .int .i64 3, .int .i64 1, .int .i64 1, .int .i64 0, .bool false, .int .i64 7, .int .i64 0, .int .i64 0, .int .i64 0, .int .i64 0, .int .i64 1, .bool false, .int .i64 3, .int .i64 0, .int .i64 2, .int .i64 2, .int .i64 0, .int .i64 0, .bool false, .int .i64 4, .int .i64 0, .int .i64 2, .int .i64 2, .int .i64 0, .int .i64 0, .bool false, .int .i64 6, .int .i64 0, .int .i64 0, .int .i64 0, .int .i64 0, .int .i64 0, .bool false, .int .i64 1, .int .i64 cl, .int .i64 0, .int .i64 0, .int .i64 0, .int .i64 0, .bool false]).alloc (.cells #[.int .i64 3, .int .i64 8, .int .i64 8, .slice (some ⟨w.heap.size + 1 + 1, 0, none⟩) 8 8] 25)).alloc (.cells #[.int .i64 6, .int .i64 0, .int .i64 0, .int .i64 0, .int .i64 0, .int .i64 0, .bool false, .int .i64 1, .int .i64 wd, .int .i64 0, .int .i64 0, .int .i64 0, .int .i64 0, .bool false, .int .i64 1, .int .i64 cl, .int .i64 0, .int .i64 0, .int .i64 0, .int .i64 0, .bool false] 43)).alloc (.cells #[.int .i64 1, .int .i64 1, .int .i64 2, .slice (some ⟨w.heap.size + 1 + 1 + 1 + 1, 0, none⟩) 3 3] 25))
  have k3 := (((Blk.fresh (((w.alloc (.cells #[.int .i64 2, .int .i64 4, .int .i64 5, .int .i64 1, .int .i64 0, .int .i64 0, .bool false, .int .i64 5, .int .i64 0, .int .i64 0, .int .i64 0, .int .i64 0, .int .i64 0, .bool false, .int .i64 3, .int .i64 0, .int .i64 2, .int .i64 2, .int .i64 0, .int .i64 0, .bool false, .int .i64 2, .int .i64 8, .int .i64 3, .int .i64 1, .int .i64 0, .int .i64 0, .bool false, .int .i64 5, .int .i64 0, .int .i64 0, .int .i64 0, .int .i64 0, .int .i64 0, .bool false, .int .i64 3, .int .i64 0, .int .i64 2, .int .i64 2, .int .i64 0, .int .i64 0, .bool false, .int .i64 6, .int .i64 0, .int .i64 0, .int .i64 0, .int .i64 0, .int .i64 0, .bool false, .int .i64 1, .int .i64 20, .int .i64 0, .int .i64 0, .int .i64 0, .int .i64 0, .bool false, .int .i64 5, .int .i64 0, .int .i64 0, .int .i64 0, .int .i64 0, .int .i64 0, .bool false, .int .i64 1, .int .i64 cl, .int .i64 0, .int .i64 0, .int .i64 0, .int .i64 0, .bool false] 43)).alloc (.cells #[.int .i64 1, .int .i64 16, .int .i64 16, .slice (some ⟨w.heap.size, 0, none⟩) 10 10] 25)).alloc (.cells #[.int .i64 2, .int .i64 8, .int .i64 3, .int .i64 1, .int .i64 1, .int .i64 0, .bool false, .int .i64 5, .int .i64 0, .int .i64 0, .int .i64 0, .int .i64 0, .int .i64 0, .bool false, .int .i64 2, .int .i64 8, .int .i64 3, .int .i64 1, .int .i64 1, .int .i64 0, .bool false, .int .i64 7, .int .i64 0, .int .i64 0, .int .i64 0, .int .i64 0, .int .i64 1, .bool false, .int .i64 3, .int .i64 0, .int .i64 2, .int .i64 2, .int .i64 0, .int .i64 0, .bool false, .int .i64 4, .int .i64 0, .int .i64 2, .int .i64 2, .int .i64 0, .int .i64 0, .bool false, .int .i64 6, .int .i64 0, .int .i64 0, .int .i64 0, .int .i64 0, .int .i64 0, .bool false, .int .i64 1, .int .i64 cl, .int .i64 0, .int .i64 0, .int .i64 0, .int .i64 0, .bool false] 43)) 25 [.int .i64 3, .int .i64 8, .int .i64 8, .slice (some ⟨w.heap.size + 1 + 1, 0, none⟩) 8 8]).alloc (.cells #[.int .i64 6, .int .i64 0, .int .i64 0, .int .i64 0, .int .i64 0, .int .i64 0, .bool false, .int .i64 1, .int .i64 wd, .int .i64 0, .int .i64 0, .int .i64 0, .int .i64 0, .bool false, .int .i64 1, .int .i64 cl, .int .i64 0, .int .i64 0, .int .i64 0, .int .i64 0, .bool false] 43)).alloc (.cells #[.int .i64 1, .int .i64 1, .int .i64 2, .slice (some ⟨w.heap.size + 1 + 1 + 1 + 1, 0, none⟩) 3 3] 25))
  have k4 := ((Blk.fresh ((((w.alloc (.cells #[.int .i64 2, .int .i64 4, .int .i64 5, .int .i64 1, .int .i64 0, .int .i64 0, .bool false, .int .i64 5, .int .i64 0, .int .i64 0, .int .i64 0, .int .i64 0, .int .i64 0, .bool false, .int .i64 3, .int .i64 0, .int .i64 2, .int .i64 2, .int .i64 0, .int .i64 0, .bool false, .int .i64 2, .int .i64 8, .int .i64 3, .int .i64 1, .int .i64 0, .int .i64 0, .bool false, .int .i64 5, .int .i64 0, .int .i64 0, .int .i64 0, .int .i64 0, .int .i64 0, .bool false, .int .i64 3, .int .i64 0, .int .i64 2, .int .i64 2, .int .i64 0, .int .i64 0, .bool false, .int .i64 6, .int .i64 0, .int .i64 0, .int .i64 0, .int .i64 0, .int .i64 0, .bool false, .int .i64 1, .int .i64 20, .int .i64 0, .int .i64 0, .int .i64 0, .int .i64 0, .bool false, .int .i64 5, .int .i64 0, .int .i64 0, .int .i64 0, .int .i64 0, .int .i64 0, .bool false, .int .i64 1, .int .i64 cl, .int .i64 0, .int .i64 0, .int .i64 0, .int .i64 0, .bool false] 43)).alloc (.cells #[.int .i64 1, .int .i64 16, .int .i64 16, .slice (some ⟨w.heap.size, 0, none⟩) 10 10] 25)).alloc (.cells #[.int .i64 2, .int .i64 8, .int .i64 3, .int .i64 1, .int .i64 1, .int .i64 0, .bool false, .int .i64 5, .int .i64 0, .int .i64 0, .int .i64 0, .int .i64 0, .int .i64 0, .bool false, .int .i64 2, .int .i64 8, .int .i64 3, .int .i64 1, .int .i64 1, .int .i64 0, .bool false, .int .i64 7, .int .i64 0, .int .i64 0, .int .i64 0, .int .i64 0, .int .i64 1, .bool false, .int .i64 3, .int .i64 0, .int .i64 2, .int .i64 2, .int .i64 0, .int .i64 0, .bool false, .int .i64 4, .int .i64 0, .int .i64 2, .int .i64 2, .int .i64 0, .int .i64 0, .bool false, .int .i64 6, .int .i64 0, .int .i64 0, .int .i64 0, .int .i64 0, .int .i64 0, .bool false, .int .i64 1, .int .i64 cl, .int .i64 0, .int .i64 0, .int .i64 0, .int .i64 0, .bool false] 43)).alloc (.cells #[.int .i64 3, .int .i64 8, .int .i64 8, .slice (some ⟨w.heap.size + 1 + 1, 0, none⟩) 8 8] 25)) 43 [.int .i64 6, .int .i64 0, .int .i64 0, .int .i64 0, .int .i64 0, .int .i64 0, .bool false, .int .i64 1, .int .i64 wd, .int .i64 0, .int .i64 0, .int .i64 0, .int .i64 0, .bool false, .int .i64 1, .int .i64 cl, .int .i64 0, .int .i64 0, .int .i64 0, .int .i64 0, .bool false]).alloc (.cells #[.int .i64 1, .int .i64 1, .int .i64 2, .slice (some ⟨w.heap.size + 1 + 1 + 1 + 1, 0, none⟩) 3 3] 25))
  have k5 := (Blk.fresh (((((w.alloc (.cells #[.int .i64 2, .int .i64 4, .int .i64 5, .int .i64 1, .int .i64 0, .int .i64 0, .bool false, .int .i64 5, .int .i64 0, .int .i64 0, .int .i64 0, .int .i64 0, .int .i64 0, .bool false, .int .i64 3, .int .i64 0, .int .i64 2, .int .i64 2, .int .i64 0, .int .i64 0, .bool false, .int .i64 2, .int .i64 8, .int .i64 3, .int .i64 1, .int .i64 0, .int .i64 0, .bool false, .int .i64 5, .int .i64 0, .int .i64 0, .int .i64 0, .int .i64 0, .int .i64 0, .bool false, .int .i64 3, .int .i64 0, .int .i64 2, .int .i64 2, .int .i64 0, .int .i64 0, .bool false, .int .i64 6, .int .i64 0, .int .i64 0, .int .i64 0, .int .i64 0, .int .i64 0, .bool false, .int .i64 1, .int .i64 20, .int .i64 0, .int .i64 0, .int .i64 0, .int .i64 0, .bool false, .int .i64 5, .int .i64 0, .int .i64 0, .int .i64 0, .int .i64 0, .int .i64 0, .bool false, .int .i64 1, .int .i64 cl, .int .i64 0, .int .i64 0, .int .i64 0, .int .i64 0, .bool false] 43)).alloc (.cells #[.int .i64 1, .int .i64 16, .int .i64 16, .slice (some ⟨w.heap.size, 0, none⟩) 10 10] 25)).alloc (.cells #[.int .i64 2, .int .i64 8, .int .i64 3, .int .i64 1, .int .i64 1, .int .i64 0, .bool false, .int .i64 5, .int .i64 0, .int .i64 0, .int .i64 0, .int .i64 0, .int .i64 0, .bool false, .int .i64 2, .int .i64 8, .int .i64 3, .int .i64 1, .int .i64 1, .int .i64 0, .bool false, .int .i64 7, .int .i64 0, .int .i64 0, .int .i64 0, .int .i64 0, .int .i64 1, .bool false, .int .i64 3, .int .i64 0, .int .i64 2, .int .i64 2, .int .i64 0, .int .i64 0, .bool false, .int .i64 4, .int .i64 0, .int .i64 2, .int .i64 2, .int .i64 0, .int .i64 0, .bool false, .int .i64 6, .int .i64 0, .int .i64 0, .int .i64 0, .int .i64 0, .int .i64 0, .bool false, .int .i64 1, .int .i64 cl, .int .i64 0, .int .i64 0, .int .i64 0, .int .i64 0, .bool false] 43)).alloc (.cells #[.int .i64 3, .int .i64 8, .int .i64 8, .slice (some ⟨w.heap.size + 1 + 1, 0, none⟩) 8 8] 25)).alloc (.cells #[.int .i64 6, .int .i64 0, .int .i64 0, .int .i64 0, .int .i64 0, .int .i64 0, .bool false, .int .i64 1, .int .i64 wd, .int .i64 0, .int .i64 0, .int .i64 0, .int .i64 0, .bool false, .int .i64 1, .int .i64 cl, .int .i64 0, .int .i64 0, .int .i64 0, .int .i64 0, .bool false] 43)) 25 [.int .i64 1, .int .i64 1, .int .i64 2, .slice (some ⟨w.heap.size + 1 + 1 + 1 + 1, 0, none⟩) 3 3])
  simp only [World.size_alloc] at k1 k2 k3 k4 k5
  have hbl : Below w.heap.size w ((((((w.alloc (.cells #[.int .i64 2, .int .i64 4, .int .i64 5, .int .i64 1, .int .i64 0, .int .i64 0, .bool false, .int .i64 5, .int .i64 0, .int .i64 0, .int .i64 0, .int .i64 0, .int .i64 0, .bool false, .int .i64 3, .int .i64 0, .int .i64 2, .int .i64 2, .int .i64 0, .int .i64 0, .bool false, .int .i64 2, .int .i64 8, .int .i64 3, .int .i64 1, .int .i64 0, .int .i64 0, .bool false, .int .i64 5, .int .i64 0, .int .i64 0, .int .i64 0, .int .i64 0, .int .i64 0, .bool false, .int .i64 3, .int .i64 0, .int .i64 2, .int .i64 2, .int .i64 0, .int .i64 0, .bool false, .int .i64 6, .int .i64 0, .int .i64 0, .int .i64 0, .int .i64 0, .int .i64 0, .bool false, .int .i64 1, .int .i64 20, .int .i64 0, .int .i64 0, .int .i64 0, .int .i64 0, .bool false, .int .i64 5, .int .i64 0, .int .i64 0, .int .i64 0, .int .i64 0, .int .i64 0, .bool false, .int .i64 1, .int .i64 cl, .int .i64 0, .int .i64 0, .int .i64 0, .int .i64 0, .bool false] 43)).alloc (.cells #[.int .i64 1, .int .i64 16, .int .i64 16, .slice (some ⟨w.heap.size, 0, none⟩) 10 10] 25)).alloc (.cells #[.int .i64 2, .int .i64 8, .int .i64 3, .int .i64 1, .int .i64 1, .int .i64 0, .bool false, .int .i64 5, .int .i64 0, .int .i64 0, .int .i64 0, .int .i64 0, .int .i64 0, .bool false, .int .i64 2, .int .i64 8, .int .i64 3, .int .i64 1, .int .i64 1, .int .i64 0, .bool false, .int .i64 7, .int .i64 0, .int .i64 0, .int .i64 0, .int .i64 0, .int .i64 1, .bool false, .int .i64 3, .int .i64 0, .int .i64 2, .int .i64 2, .int .i64 0, .int .i64 0, .bool false, .int .i64 4, .int .i64 0, .int .i64 2, .int .i64 2, .int .i64 0, .int .i64 0, .bool false, .int .i64 6, .int .i64 0, .int .i64 0, .int .i64 0, .int .i64 0, .int .i64 0, .bool false, .int .i64 1, .int .i64 cl, .int .i64 0, .int .i64 0, .int .i64 0, .int .i64 0, .bool false] 43)).alloc (.cells #[.int .i64 3, .int .i64 8, .int .i64 8, .slice (some ⟨w.heap.size + 1 + 1, 0, none⟩) 8 8] 25)).alloc (.cells #[.int .i64 6, .int .i64 0, .int .i64 0, .int .i64 0, .int .i64 0, .int .i64 0, .bool false, .int .i64 1, .int .i64 wd, .int .i64 0, .int .i64 0, .int .i64 0, .int .i64 0, .bool false, .int .i64 1, .int .i64 cl, .int .i64 0, .int .i64 0, .int .i64 0, .int .i64 0, .bool false] 43)).alloc (.cells #[.int .i64 1, .int .i64 1, .int .i64 2, .slice (some ⟨w.heap.size + 1 + 1 + 1 + 1, 0, none⟩) 3 3] 25)) := ((((((Below.refl w.heap.size w).alloc (Nat.le_refl _) _).alloc (by simp) _).alloc (by simp; omega) _).alloc (by simp; omega) _).alloc (by simp; omega) _).alloc (by simp; omega) _
  have K0 := Lib.hid k0
  have K1 := Lib.hid k1
  have K2 := Lib.hid k2
  have K3 := Lib.hid k3
  have K4 := Lib.hid k4
  have K5 := Lib.hid k5
  have HB := Lib.hid hbl
  clear k0 k1 k2 k3 k4 k5 hbl
  go_wp2_with fail
  generalize ((((((w.alloc (.cells #[.int .i64 2, .int .i64 4, .int .i64 5, .int .i64 1, .int .i64 0, .int .i64 0, .bool false, .int .i64 5, .int .i64 0, .int .i64 0, .int .i64 0, .int .i64 0, .int .i64 0, .bool false, .int .i64 3, .int .i64 0, .int .i64 2, .int .i64 2, .int .i64 0, .int .i64 0, .bool false, .int .i64 2, .int .i64 8, .int .i64 3, .int .i64 1, .int .i64 0, .int .i64 0, .bool false, .int .i64 5, .int .i64 0, .int .i64 0, .int .i64 0, .int .i64 0, .int .i64 0, .bool false, .int .i64 3, .int .i64 0, .int .i64 2, .int .i64 2, .int .i64 0, .int .i64 0, .bool false, .int .i64 6, .int .i64 0, .int .i64 0, .int .i64 0, .int .i64 0, .int .i64 0, .bool false, .int .i64 1, .int .i64 20, .int .i64 0, .int .i64 0, .int .i64 0, .int .i64 0, .bool false, .int .i64 5, .int .i64 0, .int .i64 0, .int .i64 0, .int .i64 0, .int .i64 0, .bool false, .int .i64 1, .int .i64 cl, .int .i64 0, .int .i64 0, .int .i64 0, .int .i64 0, .bool false] 43)).alloc (.cells #[.int .i64 1, .int .i64 16, .int .i64 16, .slice (some ⟨w.heap.size, 0, none⟩) 10 10] 25)).alloc (.cells #[.int .i64 2, .int .i64 8, .int .i64 3, .int .i64 1, .int .i64 1, .int .i64 0, .bool false, .int .i64 5, .int .i64 0, .int .i64 0, .int .i64 0, .int .i64 0, .int .i64 0, .bool false, .int .i64 2, .int .i64 8, .int .i64 3, .int .i64 1, .int .i64 1, .int .i64 0, .bool false, .int .i64 7, .int .i64 0, .int .i64 0, .int .i64 0, .int .i64 0, .int .i64 1, .bool false, .int .i64 3, .int .i64 0, .int .i64 2, .int .i64 2, .int .i64 0, .int .i64 0, .bool false, .int .i64 4, .int .i64 0, .int .i64 2, .int .i64 2, .int .i64 0, .int .i64 0, .bool false, .int .i64 6, .int .i64 0, .int .i64 0, .int .i64 0, .int .i64 0, .int .i64 0, .bool false, .int .i64 1, .int .i64 cl, .int .i64 0, .int .i64 0, .int .i64 0, .int .i64 0, .bool false] 43)).alloc (.cells #[.int .i64 3, .int .i64 8, .int .i64 8, .slice (some ⟨w.heap.size + 1 + 1, 0, none⟩) 8 8] 25)).alloc (.cells #[.int .i64 6, .int .i64 0, .int .i64 0, .int .i64 0, .int .i64 0, .int .i64 0, .bool false, .int .i64 1, .int .i64 wd, .int .i64 0, .int .i64 0, .int .i64 0, .int .i64 0, .bool false, .int .i64 1, .int .i64 cl, .int .i64 0, .int .i64 0, .int .i64 0, .int .i64 0, .bool false] 43)).alloc (.cells #[.int .i64 1, .int .i64 1, .int .i64 2, .slice (some ⟨w.heap.size + 1 + 1 + 1 + 1, 0, none⟩) 3 3] 25)) = W at K0 K1 K2 K3 K4 K5 HB ⊢
  have hl0 : LaysOf W W.heap.size (.slice (some ⟨w.heap.size, 0, none⟩) 10 10) (lenetI cl) := lays_blk (ls := lenetI cl) K0.out rfl (by omega) (lenetI_lays icl.out)
  have HL0 := Lib.hid hl0
  clear hl0
  obtain ⟨q0, hq0⟩ : ∃ q, (walkI false 1 16 16 (lenetI cl) cl bt).2.1 = q := ⟨_, rfl⟩
  have HQ0 : Hid ((walkI false 1 16 16 (lenetI cl) cl bt).2 = (q0, 0)) := Lib.hid (by rw [← hq0]; have := F1.out; revert this; generalize (walkI false 1 16 16 (lenetI cl) cl bt).2 = p; intro this; obtain ⟨p1, p2⟩ := p; simp at this ⊢; exact this)
  clear hq0
  refine (net_any 1 16 16 _ (lenetI cl) cl bt W W.heap.size (Nat.le_refl _) HL0.out icl.out ibt.out (q0, 0) HQ0.out).mono ?_
  rintro en V0 ⟨rfl, hb0⟩
  have HB := Lib.hid (HB.out.trans (hb0.mono HB.out.size))
  have K2 := Lib.hid (K2.out.below hb0 K2.out.lt)
  have K3 := Lib.hid (K3.out.below hb0 K3.out.lt)
  have K4 := Lib.hid (K4.out.below hb0 K4.out.lt)
  have K5 := Lib.hid (K5.out.below hb0 K5.out.lt)
  have m00 := K3.out.cell 0
  have m01 := K3.out.cell 1
  have m02 := K3.out.cell 2
  have m03 := K3.out.cell 3
  simp only [List.getElem?_cons_zero, List.getElem?_cons_succ] at m00 m01 m02 m03
  clear hb0 HL0
  dsimp only
  go_wp2_with fail
  clear m00 m01 m02 m03
  have hl1 : LaysOf V0 V0.heap.size (.slice (some ⟨w.heap.size + 1 + 1, 0, none⟩) 8 8) (vggI cl) := lays_blk (ls := vggI cl) K2.out rfl (by omega) (vggI_lays icl.out)
  have HL1 := Lib.hid hl1
  clear hl1
  obtain ⟨q1, hq1⟩ : ∃ q, (walkI false 3 8 8 (vggI cl) cl bt).2.1 = q := ⟨_, rfl⟩
  have HQ1 : Hid ((walkI false 3 8 8 (vggI cl) cl bt).2 = (q1, 0)) := Lib.hid (by rw [← hq1]; have := F2.out; revert this; generalize (walkI false 3 8 8 (vggI cl) cl bt).2 = p; intro this; obtain ⟨p1, p2⟩ := p; simp at this ⊢; exact this)
  clear hq1
  refine (net_any 3 8 8 _ (vggI cl) cl bt V0 V0.heap.size (Nat.le_refl _) HL1.out icl.out ibt.out (q1, 0) HQ1.out).mono ?_
  rintro en V1 ⟨rfl, hb1⟩
  have HB := Lib.hid (HB.out.trans (hb1.mono HB.out.size))
  have K4 := Lib.hid (K4.out.below hb1 K4.out.lt)
  have K5 := Lib.hid (K5.out.below hb1 K5.out.lt)
  have m10 := K5.out.cell 0
  have m11 := K5.out.cell 1
  have m12 := K5.out.cell 2
  have m13 := K5.out.cell 3
  simp only [List.getElem?_cons_zero, List.getElem?_cons_succ] at m10 m11 m12 m13
  clear hb1 HL1
  dsimp only
  go_wp2_with fail
  clear m10 m11 m12 m13
  have hl2 : LaysOf V1 V1.heap.size (.slice (some ⟨w.heap.size + 1 + 1 + 1 + 1, 0, none⟩) 3 3) (longI wd cl) := lays_blk (ls := longI wd cl) K4.out rfl (by omega) (longI_lays iwd.out icl.out)
  have HL2 := Lib.hid hl2
  clear hl2
  refine (net_any 1 1 2 _ (longI wd cl) cl bt V1 V1.heap.size (Nat.le_refl _) HL2.out icl.out ibt.out (2, 3) F3.out).mono ?_
  rintro en V2 ⟨rfl, hb2⟩
  have HB := Lib.hid (HB.out.trans (hb2.mono HB.out.size))
  clear hb2 HL2
  dsimp only
  go_wp2_with (go_at_call 11; refine (awake16_any _).mono ?_; rintro en wz ⟨rfl, hbz⟩)
  go_ret
  exact ⟨rfl, HB.out.trans (hbz.mono HB.out.size)⟩
end Go.Proofs.Ytkileiikffomlaa
