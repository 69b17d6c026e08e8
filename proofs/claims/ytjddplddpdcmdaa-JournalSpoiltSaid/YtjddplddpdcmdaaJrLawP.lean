/- What a journal keeps, whatever the disk does: plain. -/
import Derived.Test.YtjddplddpdcmdaaJrPlain
namespace Go.Proofs.Ytjddplddpdcmdaa
set_option linter.unusedVariables false
set_option linter.unusedSimpArgs false

def hgenS (X : List (List UInt8)) (f : Nat) : Nat := deB (((X.getD f []).drop 4).take 4)
def hlenS (X : List (List UInt8)) (f : Nat) : Nat := deB (((X.getD f []).drop 8).take 4)
def gatherS (X : List (List UInt8)) (f n : Nat) : List UInt8 := ((List.range n).map fun i => X.getD (f + 1 + i) []).flatten
def readS (X : List (List UInt8)) (half f : Nat) : List UInt8 × Nat :=
  if hgenS X f = 0 ∨ (half - 1) * 64 < hlenS X f then ([], 0)
  else if X.getD f [] = headB (hgenS X f) ((gatherS X f (secsN (hlenS X f))).take (hlenS X f)) then ((gatherS X f (secsN (hlenS X f))).take (hlenS X f), hgenS X f) else ([], 0)
theorem readJ_S (s : Dk) (half σ : Nat) : readJ s half σ = readS s.now half (σ * half) := rfl
theorem readS_le (X : List (List UInt8)) (half f : Nat) : (readS X half f).2 ≤ hgenS X f := by
  unfold readS
  split
  · exact Nat.zero_le _
  · split
    · exact Nat.le_refl _
    · exact Nat.zero_le _
theorem readS_zero {X : List (List UInt8)} {half f : Nat} (h : hgenS X f = 0) : readS X half f = ([], 0) := by
  unfold readS
  rw [if_pos (.inl h)]
theorem secsN_le {n half : Nat} (h : n ≤ (half - 1) * 64) : secsN n ≤ half - 1 := by unfold secsN; omega
theorem gatherS_congr {X Y : List (List UInt8)} {f n : Nat} (h : ∀ i, i < n → X.getD (f + 1 + i) [] = Y.getD (f + 1 + i) []) : gatherS X f n = gatherS Y f n := by
  unfold gatherS
  congr 1
  apply List.map_congr_left
  intro i hi
  exact h i (List.mem_range.1 hi)
theorem readS_congr {X Y : List (List UInt8)} {half f : Nat} (h : ∀ i, i < half → X.getD (f + i) [] = Y.getD (f + i) []) (hh : 0 < half) : readS X half f = readS Y half f := by
  have h0 : X.getD f [] = Y.getD f [] := h 0 hh
  have hg : hgenS X f = hgenS Y f := by unfold hgenS; rw [h0]
  have hl : hlenS X f = hlenS Y f := by unfold hlenS; rw [h0]
  unfold readS
  rw [hg, hl]
  split
  · rfl
  · rename_i hc
    have hn := secsN_le (n := hlenS Y f) (half := half) (by omega)
    rw [gatherS_congr (X := X) (Y := Y) (f := f) (n := secsN (hlenS Y f)) (fun i hi => by
      have := h (1 + i) (by omega)
      rwa [← Nat.add_assoc] at this), h0]
/-- a slot that holds these bytes -/
theorem headB_parts (gen : Nat) (b : List UInt8) : headB gen b = [112, 100, 103, 113] ++ (beB gen 4 ++ (beB b.length 4 ++ (beB (crcN b) 4 ++ (beB (crcN (headCore gen b)) 4 ++ List.replicate 44 0)))) := by
  unfold headB
  conv => lhs; unfold headCore
  simp only [List.append_assoc]
  unfold headCore
  simp only [List.append_assoc]
theorem headB_gen (gen : Nat) (b : List UInt8) (h : gen < 4294967296) : deB (((headB gen b).drop 4).take 4) = gen := by
  rw [headB_parts, List.drop_left' (show ([112, 100, 103, 113] : List UInt8).length = 4 from rfl), List.take_left' (length_beB _ _), de_be]
  exact Nat.mod_eq_of_lt (by omega)
theorem headB_n (gen : Nat) (b : List UInt8) (h : b.length < 4294967296) : deB (((headB gen b).drop 8).take 4) = b.length := by
  rw [headB_parts, show (8 : Nat) = 4 + 4 from rfl, ← List.drop_drop, List.drop_left' (show ([112, 100, 103, 113] : List UInt8).length = 4 from rfl), List.drop_left' (length_beB _ _), List.take_left' (length_beB _ _), de_be]
  exact Nat.mod_eq_of_lt (by omega)
theorem headB_tail (gen : Nat) (b : List UInt8) : (headB gen b).drop 32 = List.replicate 32 0 := by
  rw [headB_parts, show (32 : Nat) = 4 + (4 + (4 + (4 + (4 + 12)))) from rfl]
  simp only [← List.drop_drop]
  rw [List.drop_left' (show ([112, 100, 103, 113] : List UInt8).length = 4 from rfl), List.drop_left' (length_beB _ _), List.drop_left' (length_beB _ _), List.drop_left' (length_beB _ _), List.drop_left' (length_beB _ _)]
  simp
theorem chunk_flat (b : List UInt8) : ∀ k, k ≤ secsN b.length → ((List.range k).map fun i => chunkJ b i).flatten = (padJ b).take (k * 64)
  | 0, _ => by simp
  | k + 1, hk => by
    rw [List.range_succ, List.map_append, List.flatten_append, chunk_flat b k (by omega)]
    simp only [List.map_cons, List.map_nil, List.flatten_cons, List.flatten_nil, List.append_nil]
    unfold chunkJ
    rw [Nat.succ_mul, List.take_add]
theorem gather_pad {X : List (List UInt8)} {f : Nat} {b : List UInt8} (h : ∀ i, i < secsN b.length → X.getD (f + 1 + i) [] = chunkJ b i) : (gatherS X f (secsN b.length)).take b.length = b := by
  have e : gatherS X f (secsN b.length) = (padJ b).take (secsN b.length * 64) := by
    rw [← chunk_flat b _ (Nat.le_refl _)]
    unfold gatherS
    congr 1
    apply List.map_congr_left
    intro i hi
    exact h i (List.mem_range.1 hi)
  have hl : b.length ≤ secsN b.length * 64 := by unfold secsN; omega
  rw [e, List.take_take, Nat.min_eq_left hl]
  unfold padJ
  rw [List.take_append_of_le_length (Nat.le_refl _), List.take_length]
theorem readS_new {X : List (List UInt8)} {half f gen : Nat} {b : List UInt8} (hg0 : gen ≠ 0) (hg : gen < 4294967296) (hb : b.length ≤ (half - 1) * 64) (hb2 : b.length < 4294967296) (hh : X.getD f [] = headB gen b) (hd : ∀ i, i < secsN b.length → X.getD (f + 1 + i) [] = chunkJ b i) : readS X half f = (b, gen) := by
  have e1 : hgenS X f = gen := by unfold hgenS; rw [hh, headB_gen gen b hg]
  have e2 : hlenS X f = b.length := by unfold hlenS; rw [hh, headB_n gen b hb2]
  unfold readS
  rw [e1, e2, if_neg (by omega), gather_pad hd, if_pos hh]
/-- the sectors hold this journal -/
structure Holds (X : List (List UInt8)) (half slot gen : Nat) (last : List UInt8) : Prop where
  zero : ∀ σ, σ ≤ 1 → (X.getD (σ * half) []).drop 32 = List.replicate 32 0
  sl : slot ≤ 1
  cur : gen ≠ 0 → readS X half (slot * half) = (last, gen)
  other : gen ≠ 0 → hgenS X ((1 - slot) * half) < gen
  none_ : gen = 0 → hgenS X (0 * half) = 0 ∧ hgenS X (1 * half) = 0 ∧ slot = 1 ∧ last = []
theorem Holds.found {s : Dk} {half slot gen : Nat} {last : List UInt8} (h : Holds s.now half slot gen last) (hh : s.now.length / 2 = half) : foundJ s = ⟨half, slot, gen, last, false⟩ := by
  unfold foundJ freshJ
  rw [hh, readJ_S, readJ_S]
  by_cases hg : gen = 0
  · obtain ⟨h1, h2, h3, h4⟩ := h.none_ hg
    rw [readS_zero h1, readS_zero h2]
    subst hg h3 h4
    rfl
  · have hc := h.cur hg
    have ho := h.other hg
    rcases Nat.le_one_iff_eq_zero_or_eq_one.1 h.sl with rfl | rfl
    · have h1 : (readS s.now half (1 * half)).2 < gen := Nat.lt_of_le_of_lt (readS_le _ _ _) ho
      rw [hc]
      unfold stepJ
      simp only
      rw [if_pos (by omega : 0 < gen)]
      simp only
      rw [if_neg (by omega)]
    · have h1 : (readS s.now half (0 * half)).2 < gen := Nat.lt_of_le_of_lt (readS_le _ _ _) ho
      rw [hc]
      unfold stepJ
      simp only
      split
      · rfl
      · first
        | exact if_pos (show (0 : Nat) < gen by omega)
        | (simp only; rw [if_pos (show (0 : Nat) < gen by omega)])
/-- other sectors of a slot's data: nothing that counts turns, where the slot is the other one -/
theorem Holds.data {X Y : List (List UInt8)} {half slot gen : Nat} {last : List UInt8} (h : Holds X half slot gen last) (hh : 2 ≤ half)
    (hy : ∀ i, ¬ ((1 - slot) * half < i ∧ i < (1 - slot) * half + half) → Y.getD i [] = X.getD i []) : Holds Y half slot gen last := by
  have hs := h.sl
  have hz : ∀ σ, σ ≤ 1 → Y.getD (σ * half) [] = X.getD (σ * half) [] := fun σ hσ => hy _ (by
    rcases Nat.le_one_iff_eq_zero_or_eq_one.1 hσ with rfl | rfl <;> rcases Nat.le_one_iff_eq_zero_or_eq_one.1 hs with rfl | rfl <;> simp <;> omega)
  have hg : ∀ σ, σ ≤ 1 → hgenS Y (σ * half) = hgenS X (σ * half) := fun σ hσ => by unfold hgenS; rw [hz σ hσ]
  refine ⟨fun σ hσ => by rw [hz σ hσ]; exact h.zero σ hσ, hs, fun h0 => ?_, fun h0 => by rw [hg _ (by omega)]; exact h.other h0, fun h0 => by rw [hg 0 (by omega), hg 1 (by omega)]; exact h.none_ h0⟩
  rw [← h.cur h0]
  refine readS_congr (fun i hi => hy _ ?_) (by omega)
  rcases Nat.le_one_iff_eq_zero_or_eq_one.1 hs with rfl | rfl <;> simp <;> omega
/-- the new head: the other slot counts -/
theorem Holds.next {X Y : List (List UInt8)} {half slot gen : Nat} {last b : List UInt8} (h : Holds X half slot gen last) (hh : 2 ≤ half) (hX : slot ≤ 1) (hg : gen + 1 < 4294967296) (hb : b.length ≤ (half - 1) * 64) (hb2 : b.length < 4294967296)
    (hy : ∀ i, ¬ ((1 - slot) * half ≤ i ∧ i < (1 - slot) * half + half) → Y.getD i [] = X.getD i []) (hn : Y.getD ((1 - slot) * half) [] = headB (gen + 1) b) (hd : ∀ i, i < secsN b.length → Y.getD ((1 - slot) * half + 1 + i) [] = chunkJ b i) :
    Holds Y half (1 - slot) (gen + 1) b := by
  have hz : Y.getD (slot * half) [] = X.getD (slot * half) [] := hy _ (by
    rcases Nat.le_one_iff_eq_zero_or_eq_one.1 hX with rfl | rfl <;> simp <;> omega)
  refine ⟨fun σ hσ => ?_, by omega, fun _ => readS_new (by omega) hg hb hb2 hn hd, fun _ => ?_, fun h0 => by omega⟩
  · by_cases hs : σ = slot
    · subst hs; rw [hz]; exact h.zero σ hσ
    · have : σ = 1 - slot := by omega
      rw [this, hn, headB_tail]
  · rw [show 1 - (1 - slot) = slot by omega]
    have e : hgenS Y (slot * half) = hgenS X (slot * half) := by unfold hgenS; rw [hz]
    rw [e]
    by_cases h0 : gen = 0
    · obtain ⟨h1, h2, h3, _⟩ := h.none_ h0
      subst h3
      rw [h2]; omega
    · have h1 := h.cur h0
      have h2 := readS_le X half (slot * half)
      have h3 : hgenS X (slot * half) = gen := by
        have h4 : readS X half (slot * half) = (last, gen) := h1
        unfold readS at h4
        split at h4
        · injection h4 with h5 h6; omega
        · split at h4
          · injection h4 with h5 h6
          · injection h4 with h5 h6; omega
      omega
end Go.Proofs.Ytjddplddpdcmdaa
