/- Nets, the reference's side: plain. When a layer's arrays are too great. -/
import Derived.Test.YtkileiikffomlaaNetRSums
import Derived.Test.YtkileiikffomlaaNetRDims
namespace Go.Proofs.Ytkileiikffomlaa
set_option linter.unusedVariables false

theorem sizeGo_step {n x : Int} {xs : List Int} (h1 : 1 ≤ x) (h2 : x ≤ 4096) : sizeGo n (x :: xs) = if 8192 < n * x then 0 else sizeGo (n * x) xs := by
  simp only [sizeGo]
  by_cases h : 8192 < n * x
  · rw [if_pos (.inr (.inr h)), if_pos h]
  · rw [if_neg (by omega), if_neg h]
theorem size_two {x y : Int} (h1 : 1 ≤ x) (h2 : x ≤ 4096) (h3 : 1 ≤ y) (h4 : y ≤ 4096) : decide (0 < sizeI [x, y]) = !decide (8192 < x * y) := by
  have hp : 1 * 1 ≤ x * y := Int.mul_le_mul h1 h3 (by omega) (by omega)
  unfold sizeI
  rw [if_neg (by simp), sizeGo_step h1 h2, Int.one_mul, if_neg (by omega), sizeGo_step h3 h4]
  simp only [sizeGo]
  by_cases h : 8192 < x * y
  · simp [h]
  · simp [h]; omega
theorem size_four {x y k : Int} (h1 : 1 ≤ x) (h2 : x ≤ 8) (h3 : 1 ≤ y) (h4 : y ≤ 4096) (h5 : 1 ≤ k) (h6 : k ≤ 5) : decide (0 < sizeI [x, y, k, k]) = !decide (8192 < x * y * (k * k)) := by
  have hp : 1 * 1 ≤ x * y := Int.mul_le_mul h1 h3 (by omega) (by omega)
  have hq : x * y * 1 ≤ x * y * k := Int.mul_le_mul (Int.le_refl _) h5 (by omega) (by omega)
  have hr : x * y * k * 1 ≤ x * y * k * k := Int.mul_le_mul (Int.le_refl _) h5 (by omega) (by omega)
  have e : x * y * (k * k) = x * y * k * k := (Int.mul_assoc _ _ _).symm
  unfold sizeI
  rw [if_neg (by simp), sizeGo_step h1 (by omega), Int.one_mul, if_neg (by omega), sizeGo_step h3 h4, e]
  by_cases h : 8192 < x * y
  · rw [if_pos h]
    have : 8192 < x * y * k * k := by omega
    simp [this]
  · rw [if_neg h, sizeGo_step h5 (by omega)]
    by_cases h' : 8192 < x * y * k
    · rw [if_pos h']
      have : 8192 < x * y * k * k := by omega
      simp [this]
    · rw [if_neg h', sizeGo_step h5 (by omega)]
      simp only [sizeGo]
      by_cases h'' : 8192 < x * y * k * k
      · simp [h'']
      · simp [h'']; omega
theorem good_head {d : List Int} (h : GoodD d) : 1 ≤ d.headD 0 ∧ d.headD 0 ≤ 4096 := by
  have hp := h.pos
  cases d with
  | nil => simp at hp
  | cons x d => exact h.bd x (by simp)
theorem mayL_ok {l : LayV} {ah : Int} (h : mayL l ah = true) : okL l ah = true := by
  unfold mayL at h
  simp only [Bool.and_eq_true] at h
  exact h.1
theorem dims_may {l : LayV} {ah bt : Int} {d e : List Int} (hma : mayL l ah = true) (hgd : GoodD d) (h : 0 < (dimsI l d).1.length) : decide (0 < sizeI (dimsI l d).1) = !decide (8192 < (sumsI l d e bt).2) := by
  obtain ⟨h1, h2⟩ := good_head hgd
  have hok := mayL_ok hma
  unfold okL at hok
  unfold dimsI at h ⊢
  unfold sumsI
  by_cases k1 : l.kind = 1
  · rw [if_pos k1] at hok
    have := inI_of hok
    rw [if_pos k1, if_pos k1]
    exact size_two (by omega) (by omega) h1 h2
  · by_cases k2 : l.kind = 2
    · rw [if_neg k1, if_pos k2] at hok
      unfold windowI at hok
      simp only [Bool.and_eq_true] at hok
      have a1 := inI_of hok.1.1
      have a2 := inI_of hok.1.2.1
      rw [if_neg k1, if_pos k2, if_neg k1, if_pos k2]
      exact size_four (by omega) (by omega) h1 h2 (by omega) (by omega)
    · rw [if_neg k1, if_neg k2] at h
      simp at h
theorem dims_none {l : LayV} {bt : Int} {d e : List Int} (h : (dimsI l d).1.length = 0) : (sumsI l d e bt).2 = 0 := by
  unfold dimsI at h
  unfold sumsI
  by_cases k1 : l.kind = 1
  · rw [if_pos k1] at h; simp at h
  · by_cases k2 : l.kind = 2
    · rw [if_neg k1, if_pos k2] at h; simp at h
    · rw [if_neg k1, if_neg k2]
theorem dims_wide {l : LayV} {ah : Int} {d : List Int} (hma : mayL l ah = true) (hgd : GoodD d) : ∀ x ∈ (dimsI l d).1, -9223372036854775808 ≤ x ∧ x ≤ 9223372036854775807 := by
  obtain ⟨h1, h2⟩ := good_head hgd
  have hok := mayL_ok hma
  unfold okL at hok
  unfold dimsI
  by_cases k1 : l.kind = 1
  · rw [if_pos k1] at hok
    have := inI_of hok
    rw [if_pos k1]
    intro x hx
    simp only [List.mem_cons, List.not_mem_nil, or_false] at hx
    rcases hx with rfl | rfl <;> omega
  · by_cases k2 : l.kind = 2
    · rw [if_neg k1, if_pos k2] at hok
      unfold windowI at hok
      simp only [Bool.and_eq_true] at hok
      have a1 := inI_of hok.1.1
      have a2 := inI_of hok.1.2.1
      rw [if_neg k1, if_pos k2]
      intro x hx
      simp only [List.mem_cons, List.not_mem_nil, or_false] at hx
      rcases hx with rfl | rfl | rfl | rfl <;> omega
    · rw [if_neg k1, if_neg k2]
      simp
theorem over_max (bt p q : Int) (hb : 1 ≤ bt) : decide (8192 < bt * max p q) = (decide (8192 < bt * p) || decide (8192 < bt * q)) := by
  rcases Int.le_total p q with h | h
  · rw [Int.max_eq_right h]
    have := Int.mul_le_mul_of_nonneg_left h (by omega : 0 ≤ bt)
    by_cases h1 : 8192 < bt * p
    · have : 8192 < bt * q := by omega
      simp [h1, this]
    · simp [h1]
  · rw [Int.max_eq_left h]
    have := Int.mul_le_mul_of_nonneg_left h (by omega : 0 ≤ bt)
    by_cases h1 : 8192 < bt * q
    · have : 8192 < bt * p := by omega
      simp [h1, this]
    · simp [h1]
/-- the ways of the reference's test -/
inductive OverWay (l : LayV) (d e : List Int) (bt : Int) : Bool → Prop
  | one (h1 : decide (8192 < bt * prodI d) = true) : OverWay l d e bt true
  | two (h1 : decide (8192 < bt * prodI d) = false) (h2 : decide (8192 < bt * prodI e) = true) : OverWay l d e bt true
  | three (h1 : decide (8192 < bt * prodI d) = false) (h2 : decide (8192 < bt * prodI e) = false) (h3 : (dimsI l d).1.length = 0) : OverWay l d e bt false
  | four (h1 : decide (8192 < bt * prodI d) = false) (h2 : decide (8192 < bt * prodI e) = false) (h3 : 0 < (dimsI l d).1.length) (h4 : decide (0 < sizeI (dimsI l d).1) = true) : OverWay l d e bt false
  | five (h1 : decide (8192 < bt * prodI d) = false) (h2 : decide (8192 < bt * prodI e) = false) (h3 : 0 < (dimsI l d).1.length) (h4 : decide (0 < sizeI (dimsI l d).1) = false) : OverWay l d e bt true
theorem over_way {l : LayV} {ah bt : Int} {d e : List Int} (hma : mayL l ah = true) (hgd : GoodD d) (hb : 1 ≤ bt) : OverWay l d e bt (overI l d e bt) := by
  unfold overI
  rw [over_max bt _ _ hb]
  cases h1 : decide (8192 < bt * prodI d) with
  | true => exact .one h1
  | false =>
    cases h2 : decide (8192 < bt * prodI e) with
    | true => exact .two h1 h2
    | false =>
      by_cases h3 : (dimsI l d).1.length = 0
      · rw [dims_none h3]
        exact .three h1 h2 h3
      · have h3 : 0 < (dimsI l d).1.length := by omega
        have h := dims_may (e := e) (bt := bt) hma hgd h3
        cases h4 : decide (0 < sizeI (dimsI l d).1) with
        | true =>
          rw [h4] at h
          have : decide (8192 < (sumsI l d e bt).2) = false := by simpa using h.symm
          rw [this]
          exact .four h1 h2 h3 h4
        | false =>
          rw [h4] at h
          have : decide (8192 < (sumsI l d e bt).2) = true := by simpa using h.symm
          rw [this]
          exact .five h1 h2 h3 h4
/-- how the reference goes on: the first bad layer is kept -/
def RSt (r : Int × Int) (bad : Int) (res : Int → Int × Int × Int) : Prop := (0 < bad ∧ r = (bad, 3)) ∨ (bad = 0 ∧ ∃ lg, (res lg).2 = r)
end Go.Proofs.Ytkileiikffomlaa
