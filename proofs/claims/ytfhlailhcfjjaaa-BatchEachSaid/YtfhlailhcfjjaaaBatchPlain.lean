/- Each number is seen once: plain. -/
import Derived.Test.YtfhlailhcfjjaaaBatch
namespace Go.Proofs.Ytfhlailhcfjjaaa
open Go.RowKit
set_option linter.unusedVariables false

/-- each number below n is somewhere -/
def HasAll (n : Nat) (xs : List Int) : Prop := xs.length = n ∧ ∀ j, j < n → ∃ i, i < n ∧ xs.getD i 0 = (j : Int)
theorem all_iota (n : Nat) : HasAll n (iotaI n) := ⟨length_iotaI n, fun j hj => ⟨j, hj, iotaI_getD n j hj⟩⟩
theorem all_swp {n : Nat} {xs : List Int} (h : HasAll n xs) {i j : Nat} (hi : i < n) (hj : j < n) : HasAll n (swp xs i j) := by
  refine ⟨by rw [length_swp]; exact h.1, fun k hk => ?_⟩
  obtain ⟨m, hm, he⟩ := h.2 k hk
  refine ⟨tr i j m, tr_lt hi hj hm, ?_⟩
  rw [swp_at xs i j _ (by have := h.1; omega) (by have := h.1; omega), tr_tr]
  exact he
theorem all_shuf (s t : Int) (n : Nat) : ∀ k xs, k < n → HasAll n xs → HasAll n (shuf s t k xs)
  | 0, xs, _, h => h
  | k + 1, xs, hk, h => by
    unfold shuf
    have := pickI_le s t (k + 1)
    exact all_shuf s t n k _ (by omega) (all_swp h hk (by omega))
theorem all_perm (s t : Int) (n : Nat) (h : 1 ≤ n) (h' : n ≤ 65536) : HasAll n (permI s t n) := by
  rw [perm_good s t n h h']; exact all_shuf s t n _ _ (by omega) (all_iota n)

def b2i (b : Bool) : Int := if b then 1 else 0
/-- how often each was seen among the first m -/
def cntI (n : Nat) (xs : List Int) (m : Nat) : List Int := ((List.range n).map (fun j => seenB xs m j)).map b2i
theorem cnt_length (n : Nat) (xs : List Int) (m : Nat) : (cntI n xs m).length = n := by simp [cntI]
theorem cnt_zero (n : Nat) (xs : List Int) : cntI n xs 0 = List.replicate n 0 := by
  unfold cntI
  rw [seen_zero]
  simp [b2i]
theorem cnt_set (n : Nat) (xs : List Int) (h : Each n xs) (k x : Nat) (hk : k < n) (hx : xs[k]? = some (x : Int)) : (cntI n xs k).set x 1 = cntI n xs (k + 1) := by
  unfold cntI
  rw [← seen_set n xs h k x hk hx, List.map_set]
  rfl
theorem cnt_at (n : Nat) (xs : List Int) (h : Each n xs) (k x : Nat) (hk : k < n) (hxn : x < n) (hx : xs[k]? = some (x : Int)) : (cntI n xs k)[x]? = some 0 := by
  unfold cntI
  rw [List.getElem?_map, List.getElem?_map, List.getElem?_range hxn]
  simp only [Option.map_some]
  rw [seen_not n xs h k x hk hx]
  rfl
theorem cnt_take (n : Nat) (xs : List Int) (a b : Nat) (h : xs.take a = xs.take b) : cntI n xs a = cntI n xs b := by
  unfold cntI seenB
  rw [h]
theorem cnt_all (n : Nat) (xs : List Int) (h : HasAll n xs) (m j : Nat) (hm : n ≤ m) (hj : j < n) : (cntI n xs m)[j]? = some 1 := by
  unfold cntI
  rw [List.getElem?_map, List.getElem?_map, List.getElem?_range hj]
  simp only [Option.map_some]
  have : seenB xs m j = true := by
    unfold seenB
    rw [List.take_of_length_le (by have := h.1; omega), List.contains_iff_mem]
    obtain ⟨i, hi, he⟩ := h.2 j hj
    rw [← he, List.getD_eq_getElem?_getD, List.getElem?_eq_getElem (by have := h.1; omega)]
    simp
  rw [this]
  rfl
theorem each_nat {n : Nat} {xs : List Int} (h : Each n xs) {k : Nat} (hk : k < n) : ∃ x : Nat, xs[k]? = some (x : Int) ∧ x < n := by
  have h1 := h.2.1 k hk
  rw [List.getD_eq_getElem?_getD, List.getElem?_eq_getElem (by have := h.1; omega)] at h1
  simp only [Option.getD_some] at h1
  obtain ⟨x, hx⟩ := Int.eq_ofNat_of_zero_le h1.1
  refine ⟨x, ?_, by omega⟩
  rw [List.getElem?_eq_getElem (by have := h.1; omega), hx]
theorem chunk_at {xs : List Int} {s i j : Nat} {u : Int} (h : (chunkI xs s i)[j]? = some u) : xs[i * s + j]? = some u := by
  unfold chunkI at h
  rw [List.getElem?_take] at h
  split at h
  · rw [List.getElem?_drop] at h; exact h
  · cases h
theorem last_one {n s i L : Nat} (hn : 1 ≤ n) (hs : 1 ≤ s) (hi : i < stepsN n s) (hL : L = min s (n - i * s)) (hne : L ≠ s) : i = stepsN n s - 1 ∧ L + s * (stepsN n s - 1) = n := by
  have hlt := steps_lt hn hs hi
  have h1 : i + 1 = stepsN n s := by
    rcases Nat.lt_or_ge (i + 1) (stepsN n s) with h | h
    · have := steps_lt hn hs h
      rw [Nat.add_mul, Nat.one_mul] at this
      omega
    · omega
  refine ⟨by omega, ?_⟩
  have h2 : stepsN n s - 1 = i := by omega
  rw [h2, Nat.mul_comm]
  omega
end Go.Proofs.Ytfhlailhcfjjaaa
