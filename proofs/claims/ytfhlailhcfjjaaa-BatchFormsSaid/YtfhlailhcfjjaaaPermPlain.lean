/- The permutation, plain. -/
import Derived.Test.YtfhlailhcfjjaaaBelowPlain
namespace Go.Proofs.Ytfhlailhcfjjaaa
open Go.RowKit
set_option linter.unusedVariables false
set_option linter.unusedSimpArgs false

/-- the numbers below n -/
def iotaI (n : Nat) : List Int := (List.range n).map (fun i : Nat => (i : Int))
theorem length_iotaI (n : Nat) : (iotaI n).length = n := by simp [iotaI]
theorem iotaI_succ (n : Nat) : iotaI (n + 1) = iotaI n ++ [(n : Int)] := by simp [iotaI, List.range_succ]
/-- two of them exchanged -/
def swp (xs : List Int) (i j : Nat) : List Int := (xs.set i (xs.getD j 0)).set j (xs.getD i 0)
theorem length_swp (xs : List Int) (i j : Nat) : (swp xs i j).length = xs.length := by simp [swp]
/-- where the ith goes -/
def pickI (s t : Int) (i : Nat) : Nat := (belowI s t i ((i : Int) + 1)).toNat
theorem pickI_le (s t : Int) (i : Nat) : pickI s t i ≤ i := by
  have h0 := belowI_lo s t i ((i : Int) + 1)
  have h1 := belowI_hi s t i ((i : Int) + 1) (by omega)
  unfold pickI; omega
theorem pickI_eq (s t : Int) (i : Nat) : belowI s t i ((i : Int) + 1) = (pickI s t i : Int) := by
  have h0 := belowI_lo s t i ((i : Int) + 1)
  unfold pickI; omega
/-- from the ith down -/
def shuf (s t : Int) : Nat → List Int → List Int
  | 0, xs => xs
  | i + 1, xs => shuf s t i (swp xs (i + 1) (pickI s t (i + 1)))
theorem length_shuf (s t : Int) : ∀ i xs, (shuf s t i xs).length = xs.length
  | 0, xs => rfl
  | i + 1, xs => by unfold shuf; rw [length_shuf s t i, length_swp]
def permI (s t n : Int) : List Int := if n < 1 ∨ 65536 < n then [] else shuf s t (n.toNat - 1) (iotaI n.toNat)
theorem perm_bad (s t n : Int) (h : n < 1 ∨ 65536 < n) : permI s t n = [] := by unfold permI; rw [if_pos h]
theorem perm_good (s t : Int) (n : Nat) (h : 1 ≤ n) (h' : n ≤ 65536) : permI s t n = shuf s t (n - 1) (iotaI n) := by
  unfold permI; rw [if_neg (by omega)]; simp
theorem length_perm (s t : Int) (n : Nat) (h : 1 ≤ n) (h' : n ≤ 65536) : (permI s t n).length = n := by
  rw [perm_good s t n h h', length_shuf, length_iotaI]
theorem iota_set (n k : Nat) (h : k < n) : (iotaI k ++ List.replicate (n - k) 0).set k (k : Int) = iotaI (k + 1) ++ List.replicate (n - (k + 1)) 0 := by
  obtain ⟨m, hm⟩ : ∃ m, n - k = m + 1 := ⟨n - k - 1, by omega⟩
  have hm' : n - (k + 1) = m := by omega
  rw [hm, hm', iotaI_succ, List.replicate_succ, List.set_append_right _ _ (by rw [length_iotaI]; omega), length_iotaI, Nat.sub_self, List.append_assoc]
  rfl
/-- which place comes to the kth -/
def tr (i j k : Nat) : Nat := if k = j then i else if k = i then j else k
theorem swp_at (xs : List Int) (i j k : Nat) (hi : i < xs.length) (hj : j < xs.length) : (swp xs i j).getD k 0 = xs.getD (tr i j k) 0 := by
  unfold swp tr
  simp only [List.getD_eq_getElem?_getD, List.getElem?_set, List.length_set]
  by_cases h1 : j = k
  · subst h1; simp [hj]
  · by_cases h2 : i = k
    · subst h2; simp [h1, hi, Ne.symm h1]
    · simp [h1, h2, Ne.symm h1, Ne.symm h2]
theorem tr_lt {n i j k : Nat} (hi : i < n) (hj : j < n) (hk : k < n) : tr i j k < n := by unfold tr; split <;> (try split) <;> omega
theorem tr_inj {i j k l : Nat} (h : tr i j k = tr i j l) : k = l := by
  unfold tr at h
  split at h <;> split at h <;> (try split at h) <;> (try split at h) <;> omega
theorem tr_tr (i j k : Nat) : tr i j (tr i j k) = k := by
  unfold tr; split <;> (try split) <;> (try split) <;> omega
/-- each number below n once -/
def Each (n : Nat) (xs : List Int) : Prop :=
  xs.length = n ∧ (∀ i, i < n → 0 ≤ xs.getD i 0 ∧ xs.getD i 0 < n) ∧ ∀ i j, i < n → j < n → xs.getD i 0 = xs.getD j 0 → i = j
theorem iotaI_getD (n i : Nat) (h : i < n) : (iotaI n).getD i 0 = i := by simp [iotaI, h]
theorem each_iota (n : Nat) : Each n (iotaI n) := by
  refine ⟨length_iotaI n, fun i hi => ?_, fun i j hi hj h => ?_⟩
  · rw [iotaI_getD n i hi]; omega
  · rw [iotaI_getD n i hi, iotaI_getD n j hj] at h; omega
theorem each_swp {n : Nat} {xs : List Int} (h : Each n xs) {i j : Nat} (hi : i < n) (hj : j < n) : Each n (swp xs i j) := by
  obtain ⟨hl, hb, hinj⟩ := h
  refine ⟨by rw [length_swp, hl], fun k hk => ?_, fun k l hk hl' h => ?_⟩
  · rw [swp_at _ _ _ _ (by omega) (by omega)]; exact hb _ (tr_lt hi hj hk)
  · rw [swp_at _ _ _ _ (by omega) (by omega), swp_at _ _ _ _ (by omega) (by omega)] at h
    exact tr_inj (hinj _ _ (tr_lt hi hj hk) (tr_lt hi hj hl') h)
theorem each_shuf (s t : Int) (n : Nat) : ∀ k xs, k < n → Each n xs → Each n (shuf s t k xs)
  | 0, xs, _, h => h
  | k + 1, xs, hk, h => by
    unfold shuf
    have := pickI_le s t (k + 1)
    exact each_shuf s t n k _ (by omega) (each_swp h hk (by omega))
theorem each_perm (s t : Int) (n : Nat) (h : 1 ≤ n) (h' : n ≤ 65536) : Each n (permI s t n) := by
  rw [perm_good s t n h h']; exact each_shuf s t n _ _ (by omega) (each_iota n)
theorem swp_swp (xs : List Int) (i j : Nat) (hi : i < xs.length) (hj : j < xs.length) : swp (swp xs i j) i j = xs := by
  apply List.ext_getElem?
  intro k
  by_cases hk : k < xs.length
  · have e := swp_at (swp xs i j) i j k (by rw [length_swp]; exact hi) (by rw [length_swp]; exact hj)
    rw [swp_at xs i j _ hi hj, tr_tr] at e
    rw [List.getElem?_eq_getElem (by rw [length_swp, length_swp]; exact hk), List.getElem?_eq_getElem hk]
    rw [List.getD_eq_getElem?_getD, List.getD_eq_getElem?_getD, List.getElem?_eq_getElem (by rw [length_swp, length_swp]; exact hk), List.getElem?_eq_getElem hk] at e
    exact congrArg some e
  · rw [List.getElem?_eq_none (by rw [length_swp, length_swp]; omega), List.getElem?_eq_none (by omega)]
/-- undone, from the first up -/
def unshuf (s t : Int) : Nat → List Int → List Int
  | 0, xs => xs
  | i + 1, xs => swp (unshuf s t i xs) (i + 1) (pickI s t (i + 1))
theorem length_unshuf (s t : Int) : ∀ k xs, (unshuf s t k xs).length = xs.length
  | 0, xs => rfl
  | k + 1, xs => by unfold unshuf; rw [length_swp, length_unshuf s t k]
theorem unshuf_shuf (s t : Int) : ∀ k xs, k < xs.length → unshuf s t k (shuf s t k xs) = xs
  | 0, xs, _ => rfl
  | k + 1, xs, h => by
    have := pickI_le s t (k + 1)
    unfold unshuf shuf
    rw [unshuf_shuf s t k _ (by rw [length_swp]; omega), swp_swp _ _ _ (by omega) (by omega)]
theorem unshuf_perm (s t : Int) (n : Nat) (h : 1 ≤ n) (h' : n ≤ 65536) : unshuf s t (n - 1) (permI s t n) = iotaI n := by
  rw [perm_good s t n h h', unshuf_shuf s t _ _ (by rw [length_iotaI]; omega)]
/-- which were seen among the first k -/
def seenB (xs : List Int) (k j : Nat) : Bool := (xs.take k).contains (j : Int)
theorem seen_set (n : Nat) (xs : List Int) (h : Each n xs) (k x : Nat) (hk : k < n) (hx : xs[k]? = some (x : Int)) :
    ((List.range n).map (fun j => seenB xs k j)).set x true = (List.range n).map (fun j => seenB xs (k + 1) j) := by
  apply List.ext_getElem?
  intro j
  by_cases hj : j < n
  · rw [List.getElem?_set]
    simp only [List.length_map, List.length_range, List.getElem?_map, List.getElem?_range hj, Option.map_some]
    have e : seenB xs (k + 1) j = (seenB xs k j || ((x : Int) == (j : Int))) := by
      unfold seenB
      rw [List.take_add_one, hx, List.contains_append]
      simp
      congr 1
      rw [Bool.eq_iff_iff]; simp; omega
    by_cases hxj : x = j
    · subst hxj; simp [e, hj]
    · simp [hxj, e]
      intro hh; omega
  · rw [List.getElem?_eq_none (by simp; omega), List.getElem?_eq_none (by simp; omega)]
theorem seen_not (n : Nat) (xs : List Int) (h : Each n xs) (k x : Nat) (hk : k < n) (hx : xs[k]? = some (x : Int)) : seenB xs k x = false := by
  unfold seenB
  rw [Bool.eq_false_iff]
  intro hc
  rw [List.contains_iff_mem] at hc
  obtain ⟨i, hi, he⟩ := List.mem_iff_getElem.1 hc
  simp only [List.length_take] at hi
  rw [List.getElem_take] at he
  have hik : i < k := by omega
  have := h.2.2 i k (by have := h.1; omega) hk (by
    rw [List.getD_eq_getElem?_getD, List.getD_eq_getElem?_getD, hx, List.getElem?_eq_getElem (by omega)]
    simpa using he)
  omega
theorem seen_zero (n : Nat) (xs : List Int) : (List.range n).map (fun j => seenB xs 0 j) = List.replicate n false := by
  apply List.ext_getElem?
  intro j
  by_cases hj : j < n
  · simp [hj, seenB]
  · rw [List.getElem?_eq_none (by simp; omega), List.getElem?_eq_none (by simp; omega)]
theorem getD_lt (xs : List Int) (i : Nat) (h : i < xs.length) : xs.getD i 0 = xs[i] := by simp [h]
end Go.Proofs.Ytfhlailhcfjjaaa
