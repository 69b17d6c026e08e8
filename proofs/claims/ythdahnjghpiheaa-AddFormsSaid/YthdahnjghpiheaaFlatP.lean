/- What unit.Flat computes: plain. -/
import Derived.Test.YthdahnjghpiheaaUnitPlain
namespace Go.Proofs.Ythdahnjghpiheaa
open Go.RowKit
set_option linter.unusedVariables false

theorem size_dvd : ∀ (d : List Int) (n : Int), 1 ≤ n → n ≤ 8192 → 0 < sizeGo n d → ∃ m, 1 ≤ m ∧ sizeGo n d = n * m
  | [], n, _, _, _ => ⟨1, by omega, by simp [sizeGo]⟩
  | x :: xs, n, h0, h1, h => by
    simp only [sizeGo] at h ⊢
    split at h
    · omega
    · rename_i h2
      rw [if_neg h2]
      have h3 := prod_bound h0 h1 (by omega : 1 ≤ x) (by omega : x ≤ 4096)
      obtain ⟨m, hm, he⟩ := size_dvd xs (n * x) h3.1 (by omega) h
      refine ⟨x * m, ?_, by rw [he, Int.mul_assoc]⟩
      have : 1 * 1 ≤ x * m := Int.mul_le_mul (by omega) hm (by omega) (by omega)
      omega
/-- the first length, and what is behind it -/
def flatD (dims : List Int) : List Int := [dims.headD 0, sizeI dims / dims.headD 0]
theorem flat_head {dims : List Int} (h : 0 < sizeI dims) : ∃ x xs, dims = x :: xs ∧ 1 ≤ x ∧ x ≤ 4096 ∧ ∃ m, 1 ≤ m ∧ sizeI dims = x * m ∧ sizeI dims / x = m := by
  have hsz := h
  unfold sizeI at h
  split at h
  · omega
  · rename_i hl
    match dims, hl, h, hsz with
    | [], hl, _, _ => simp at hl
    | x :: xs, hl, h, hsz =>
      have he : sizeI (x :: xs) = sizeGo 1 (x :: xs) := by unfold sizeI; rw [if_neg hl]
      simp only [sizeGo] at h he
      split at h
      · omega
      · rename_i h2
        rw [if_neg h2] at he
        obtain ⟨m, hm, e⟩ := size_dvd xs (1 * x) (by omega) (by omega) h
        rw [Int.one_mul] at e he
        rw [e] at he
        exact ⟨x, xs, rfl, by omega, by omega, m, hm, he, by rw [he]; exact Int.mul_ediv_cancel_left m (by omega)⟩
theorem flat_size {dims : List Int} (h : 0 < sizeI dims) : sizeI (flatD dims) = 0 ∨ sizeI (flatD dims) = sizeI dims := by
  obtain ⟨x, xs, rfl, h1, h2, m, hm, he, hd⟩ := flat_head h
  unfold flatD
  have hb := sizeI_bound (x :: xs)
  simp only [List.headD_cons]
  rw [hd]
  show (if _ then _ else _) = _ ∨ (if _ then _ else _) = _
  rw [if_neg (by simp), he]
  simp only [sizeGo, Int.one_mul]
  rw [if_neg (by omega)]
  by_cases hq : 4096 < m
  · rw [if_pos (.inr (.inl hq))]; exact .inl rfl
  · rw [if_neg (by omega)]; exact .inr rfl
def flatErr (dims : List Int) (exp : Int) (data : List Int) : Int := shapeErr dims exp data (flatD dims)
theorem flat_err (dims : List Int) (exp : Int) (data : List Int) : flatErr dims exp data = 0 ∨ flatErr dims exp data = 1 := by
  unfold flatErr shapeErr
  by_cases hm : mayB dims exp data = true
  · have h0 : 0 < sizeI dims ∧ (data.length : Int) = sizeI dims := by
      unfold mayB at hm
      simp only [Bool.and_eq_true, decide_eq_true_eq, beq_iff_eq] at hm
      exact ⟨hm.1, hm.2.1⟩
    rcases flat_size h0.1 with h | h
    · rw [if_neg (by omega)]; exact .inr rfl
    · rw [if_pos ⟨hm, by omega⟩, if_pos (by omega)]; exact .inl rfl
  · rw [if_neg (fun h => hm h.1)]; exact .inr rfl
end Go.Proofs.Ythdahnjghpiheaa
