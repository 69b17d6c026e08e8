/- What weights are at first, plainly: they may be, each number is told by its place. -/
import Derived.Test.YtkileiikffomlaaParInit
import Derived.Test.YtkileiikffomlaaParMay
namespace Go.Proofs.Ytkileiikffomlaa
open Go.RowKit
set_option linter.unusedVariables false
set_option linter.unusedSimpArgs false

theorem initE_zero {a b c : Int} {ls : List LayV} {seed : Int} (h : initE a b c ls seed = 0) : (shapesM a b c ls).2.2 = 0 ∧ ∀ k, k < ls.length → ∃ pc, stepC ls (shapesM a b c ls).1 seed k = some pc := by
  unfold initE at h
  split at h
  · rename_i h1
    exact absurd h h1
  · rename_i h1
    split at h
    · omega
    · rename_i h2
      refine ⟨Classical.not_not.1 h1, fun k hk => ?_⟩
      cases hs : stepC ls (shapesM a b c ls).1 seed k with
      | some pc => exact ⟨pc, rfl⟩
      | none => exact absurd (any_none hk hs) h2
theorem initL_at {a b c : Int} {ls : List LayV} {seed : Int} {k : Nat} {pc : ParC} (hk : k < ls.length) (h : stepC ls (shapesM a b c ls).1 seed k = some pc) : (initL a b c ls seed)[k]? = some pc := by
  unfold initL
  rw [List.getElem?_map, List.getElem?_range hk]
  simp only [Option.map_some, h, Option.getD_some]
theorem initL_len (a b c : Int) (ls : List LayV) (seed : Int) : (initL a b c ls seed).length = ls.length := by simp [initL]
theorem pdims_step (a b c : Int) (ls : List LayV) (k : Nat) (hs : (shapesM a b c ls).2.2 = 0) (hk : k < ls.length) :
    pdimsI a b c ls ((k : Int) + 1) = if 0 < sizeI (dimsI (ls.getD k ⟨0, 0, 0, 0, 0, 0, false⟩) ((shapesM a b c ls).1.getD k [])).1 then dimsI (ls.getD k ⟨0, 0, 0, 0, 0, 0, false⟩) ((shapesM a b c ls).1.getD k []) else ([], 0) := by
  unfold pdimsI
  have h1 : ((k : Int) + 1 - 1).toNat = k := by omega
  rw [if_pos ⟨hs, by omega, by omega⟩, h1]
theorem dims_kind {l : LayV} {d : List Int} (h : (dimsI l d).1 = []) : l.kind ≠ 1 ∧ l.kind ≠ 2 := by
  unfold dimsI at h
  split at h
  · cases h
  · rename_i h1
    split at h
    · cases h
    · rename_i h2
      exact ⟨h1, h2⟩
theorem sizeI_nil : sizeI [] = 0 := by rfl
/-- what a layer has at first may be -/
theorem made_may {l : LayV} {d : List Int} {seed layer : Int} (h1 : (dimsI l d).1 ≠ []) (h2 : 0 < sizeI (dimsI l d).1) : mayP1 (dimsI l d) l.kind (madeC (dimsI l d).1 (dimsI l d).2 seed layer) = true := by
  obtain ⟨q, hq⟩ : ∃ q, dimsI l d = q := ⟨_, rfl⟩
  have hsm := dims_small h1 h2
  rw [hq] at h1 h2 hsm ⊢
  obtain ⟨qd, qn⟩ := q
  simp only at h1 h2 hsm ⊢
  have hb := sizeI_bound qd
  unfold mayP1
  rw [if_neg h1]
  unfold madeC
  simp only [Bool.and_eq_true]
  have e1 : mayB qd (-7) (madeL seed layer (sizeI qd).toNat) = true := by
    unfold mayB
    simp only [Bool.and_eq_true, decide_eq_true_eq, beq_iff_eq, Bool.not_eq_true', madeL_len]
    refine ⟨h2, by omega, by omega, by omega, ?_⟩
    simp only [List.contains_eq_mem, decide_eq_false_iff_not]
    intro hc
    have := madeL_in seed layer _ _ hc
    omega
  have e2 : mayB [qn] (-7) (List.replicate qn.toNat 0) = true := by
    unfold mayB
    rw [sizeI_one hsm.1 hsm.2]
    simp only [Bool.and_eq_true, decide_eq_true_eq, beq_iff_eq, Bool.not_eq_true', List.length_replicate]
    refine ⟨by omega, by omega, by omega, by omega, ?_⟩
    simp only [List.contains_eq_mem, decide_eq_false_iff_not]
    intro hc
    have := List.eq_of_mem_replicate hc
    omega
  refine ⟨e1, e2, by simp, by simp, by simp [madeL_len], ?_⟩
  rw [List.all_eq_true]
  intro x hx
  have := List.eq_of_mem_replicate hx
  subst this
  rfl
theorem init_may {a b c : Int} {ls : List LayV} {seed : Int} (h : initE a b c ls seed = 0) : mayPs a b c ls (initL a b c ls seed) = true := by
  obtain ⟨hs, hst⟩ := initE_zero h
  refine mayPs_true hs (initL_len ..) (fun k hk => ?_)
  rw [initL_len] at hk
  obtain ⟨pc, hpc⟩ := hst k hk
  have hat := initL_at hk hpc
  unfold mayAt
  rw [pdims_step a b c ls k hs hk]
  simp only [List.getD_eq_getElem?_getD, hat, Option.getD_some]
  unfold stepC at hpc
  simp only [List.getD_eq_getElem?_getD] at hpc
  obtain ⟨l, hl⟩ : ∃ l, ls[k]?.getD ⟨0, 0, 0, 0, 0, 0, false⟩ = l := ⟨_, rfl⟩
  obtain ⟨d, hd⟩ : ∃ d, (shapesM a b c ls).1[k]?.getD [] = d := ⟨_, rfl⟩
  rw [hl, hd] at hpc ⊢
  by_cases h1 : (dimsI l d).1 = []
  · rw [if_pos h1] at hpc
    injection hpc with hpc
    subst hpc
    rw [h1, if_neg (by rw [sizeI_nil]; omega)]
    obtain ⟨k1, k2⟩ := dims_kind h1
    unfold mayP1
    rw [if_pos rfl, zeroP_eq.2 rfl]
    simp [k1, k2]
  · rw [if_neg h1] at hpc
    by_cases h2 : 0 < sizeI (dimsI l d).1
    · rw [if_pos h2] at hpc ⊢
      injection hpc with hpc
      subst hpc
      exact made_may h1 h2
    · rw [if_neg h2] at hpc
      cases hpc
/-- each number is told by its place -/
structure EachC (seed layer : Int) (p : ParC) : Prop where
  len : p.m.length = p.wx.length
  w : ∀ (i : Nat) x, p.wx[i]? = some x → x = belowI seed layer (i : Int) 63 - 31
  m : ∀ (i : Nat) x, p.m[i]? = some x → x = 0
  b : ∀ (i : Nat) x, p.bx[i]? = some x → x = 0
theorem zeroC_each (seed layer : Int) : EachC seed layer zeroC := ⟨rfl, by simp [zeroC], by simp [zeroC], by simp [zeroC]⟩
theorem madeC_each (d : List Int) (n seed layer : Int) : EachC seed layer (madeC d n seed layer) := by
  unfold madeC
  refine ⟨by simp [madeL_len], fun i x hx => ?_, fun i x hx => ?_, fun i x hx => ?_⟩
  · simp only at hx
    have hi := (List.getElem?_eq_some_iff.1 hx).1
    rw [madeL_len] at hi
    rw [madeL_at _ _ _ _ hi] at hx
    injection hx with hx
    exact hx.symm
  · exact List.eq_of_mem_replicate (List.mem_of_getElem? hx)
  · exact List.eq_of_mem_replicate (List.mem_of_getElem? hx)
theorem init_each {a b c : Int} {ls : List LayV} {seed : Int} (h : initE a b c ls seed = 0) : ∀ (k : Nat) pc, (initL a b c ls seed)[k]? = some pc → EachC seed ((k : Int) + 1) pc := by
  obtain ⟨hs, hst⟩ := initE_zero h
  intro k pc hpc
  have hk := (List.getElem?_eq_some_iff.1 hpc).1
  rw [initL_len] at hk
  obtain ⟨pc', h2⟩ := hst k hk
  rw [initL_at hk h2] at hpc
  injection hpc with hpc
  subst hpc
  unfold stepC at h2
  simp only at h2
  split at h2
  · injection h2 with h2
    subst h2
    exact zeroC_each _ _
  · split at h2
    · injection h2 with h2
      subst h2
      exact madeC_each ..
    · cases h2
end Go.Proofs.Ytkileiikffomlaa
