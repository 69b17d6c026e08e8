/- Contract of the reference's acc. -/
import Derived.Test.YthdahnjghpiheaaRefBack
import Derived.Test.YthdahnjghpiheaaRefAlign
namespace Go.Proofs.Ythdahnjghpiheaa
open Go.RowKit
set_option linter.unusedVariables false

/-- noughts, a row of lengths handed on -/
def FormZ (w : World) (v : Value) (exp : Int) (N : Nat) (en : Ending) (w' : World) : Prop :=
  ∃ g0, en = .returned (.tuple #[.agg #[v, .int .i64 exp, .slice (some ⟨g0, 0, none⟩) N N], .int .i64 0]) ∧ Blk w' g0 21 (List.replicate N (.int .i32 0)) ∧ w.heap.size ≤ g0 ∧ Below w.heap.size w w'
set_option maxHeartbeats 1600000 in
set_option maxRecDepth 100000 in
theorem racc_any (d : List Int) (exp : Int) (v : Value) (w : World) (B N : Nat) (hB : B ≤ w.heap.size) (h : Reads w B v (ints .i64 d)) (hdb : ∀ x ∈ d, -9223372036854775808 ≤ x ∧ x ≤ 9223372036854775807) (hp : 0 < sizeI d) (hN : sizeI d = (N : Int)) (e0 : -128 ≤ exp) (e1 : exp ≤ 128) :
    Calls Try.prog 43 #[v, .int .i64 exp] w (FormZ w v exp N) := by
  obtain ⟨A, c, rfl, _, _⟩ := h.form
  simp only [length_ints] at *
  have hN8 : N ≤ 8192 := by have := sizeI_bound d; omega
  have hb0 : Below w.heap.size w (w.alloc (.cells #[.slice none 0 0, .int .i64 0, .slice none 0 0] 39)) := (Below.refl _ _).alloc (Nat.le_refl _) _
  have k0 := Blk.fresh w 39 [.slice none 0 0, .int .i64 0, .slice none 0 0]
  have hr := h.below (hb0.mono hB)
  have t1 : decide (exp < -128) = false := by simp; omega
  have t2 : decide (128 < exp) = false := by simp; omega
  have H1 : Hid (∀ W : World, Reads W B (.slice A d.length c) (ints .i64 d) → Calls Try.prog 37 #[.slice A d.length c] W fun en w' => en = .returned (.bool true) ∧ W = w') := Lib.hid (fun W hW => by have := maydims_any d _ W B hW hdb; rwa [show decide (0 < sizeI d) = true by simpa using hp] at this)
  have H2 : Hid (∀ W : World, Reads W B (.slice A d.length c) (ints .i64 d) → Calls Try.prog 38 #[.slice A d.length c] W fun en w' => en = .returned (.int .i64 (N : Int)) ∧ W = w') := Lib.hid (fun W hW => by have := r1size_any d _ W B hW hdb; rwa [hN] at this)
  have hmk : ∀ (W : World), (Instr.makeSlice 37 (.int .i64 (N : Int)) (.int .i64 (N : Int))).run Try.prog W = .ok (.slice (some ⟨W.heap.size, 0, none⟩) N N) (W.alloc (.cells (zerosA (.int .i32 0) N) 21)) := fun W => by
    obtain ⟨i, hi, hz, hs, hb⟩ := info_parts elem_i32.info
    exact run_make1 37 21 i _ elem_i32.und hi hz hs rfl .i64 .i64 N (by rw [hb]; omega) (by omega) W
  have HB := Lib.hid hb0
  have HK := Lib.hid k0
  have HR := Lib.hid hr
  clear h hdb hb0 k0 hr hp hN
  go_enter Try.func43, Try.ntmps43
  go_wp2_with fail
  refine (H1.out _ HR.out).mono ?_
  rintro en w' ⟨rfl, rfl⟩
  go_wp2_with fail
  refine (H2.out _ HR.out).mono ?_
  rintro en w' ⟨rfl, rfl⟩
  go_wp2
  have kz := Blk.freshA (w.alloc (.cells #[.slice A d.length c, .int .i64 exp, .slice (some ⟨w.heap.size + 1, 0, none⟩) N N] 39)) 21 (zerosA (.int .i32 0) N)
  rw [zerosA_toList, World.size_alloc] at kz
  have kr := (Blk.fresh w 39 [.slice A d.length c, .int .i64 exp, .slice (some ⟨w.heap.size + 1, 0, none⟩) N N]).alloc (.cells (zerosA (.int .i32 0) N) 21)
  have hb2 := two_alloc0 w (.cells #[.slice A d.length c, .int .i64 exp, .slice (some ⟨w.heap.size + 1, 0, none⟩) N N] 39) (.cells (zerosA (.int .i32 0) N) 21)
  have x0 : ((w.alloc (.cells #[.slice A d.length c, .int .i64 exp, .slice (some ⟨w.heap.size + 1, 0, none⟩) N N] 39)).alloc (.cells (zerosA (.int .i32 0) N) 21)).cell? ⟨w.heap.size, 0, none⟩ = some (.slice A d.length c) := kr.cell 0
  have x1 : ((w.alloc (.cells #[.slice A d.length c, .int .i64 exp, .slice (some ⟨w.heap.size + 1, 0, none⟩) N N] 39)).alloc (.cells (zerosA (.int .i32 0) N) 21)).cell? ⟨w.heap.size, 1, none⟩ = some (.int .i64 exp) := kr.cell 1
  have x2 : ((w.alloc (.cells #[.slice A d.length c, .int .i64 exp, .slice (some ⟨w.heap.size + 1, 0, none⟩) N N] 39)).alloc (.cells (zerosA (.int .i32 0) N) 21)).cell? ⟨w.heap.size, 2, none⟩ = some (.slice (some ⟨w.heap.size + 1, 0, none⟩) N N) := kr.cell 2
  generalize ((w.alloc (.cells #[.slice A d.length c, .int .i64 exp, .slice (some ⟨w.heap.size + 1, 0, none⟩) N N] 39)).alloc (.cells (zerosA (.int .i32 0) N) 21)) = W at kz kr hb2 x0 x1 x2 ⊢
  refine bodyPost_ret (v := .tuple #[.agg #[.slice A d.length c, .int .i64 exp, .slice (some ⟨w.heap.size + 1, 0, none⟩) N N], .int .i64 0]) (by simp [results, Try.results43, go_sem, x0, x1, x2]) rfl ?_
  exact ⟨w.heap.size + 1, rfl, kz, by omega, hb2⟩
end Go.Proofs.Ythdahnjghpiheaa
