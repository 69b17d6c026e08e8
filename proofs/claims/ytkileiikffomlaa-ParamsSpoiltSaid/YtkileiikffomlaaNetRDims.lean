/- Contracts of the reference's MayDims, Size; plain facts on good lengths. -/
import Derived.Test.YtkileiikffomlaaMem
import Derived.Test.YtkileiikffomlaaRows
import Derived.Test.YtkileiikffomlaaShapePlain
import Derived.Test.YtkileiikffomlaaNetPlain
import Derived.Test.YtkileiikffomlaaNetMay2
namespace Go.Proofs.Ytkileiikffomlaa
open Go.RowKit
set_option linter.unusedVariables false
set_option linter.unusedSimpArgs false

def prodGo : Int → List Int → Int
  | n, [] => n
  | n, x :: xs => prodGo (n * x) xs
theorem prod_of_size : ∀ (d : List Int) (n : Int), 1 ≤ n → n ≤ 8192 → 0 < sizeGo n d → prodGo n d = sizeGo n d
  | [], n, _, _, _ => rfl
  | x :: xs, n, h0, h1, h => by
    simp only [sizeGo, prodGo] at h ⊢
    split at h
    · omega
    · rename_i h2
      rw [if_neg h2]
      have h3 := prod_bound h0 h1 (by omega : 1 ≤ x) (by omega : x ≤ 4096)
      exact prod_of_size xs _ h3.1 (by omega) h

set_option maxRecDepth 100000 in
theorem maydims_any (d : List Int) (v : Value) (w : World) (B : Nat) (h : Reads w B v (ints .i64 d)) (hd : ∀ x ∈ d, -9223372036854775808 ≤ x ∧ x ≤ 9223372036854775807) :
    Calls Try.prog 23 #[v] w fun e w' => e = .returned (.bool (decide (0 < sizeI d))) ∧ w = w' := by
  obtain ⟨A, n, c, rfl, hl, hc, hm, hat⟩ := h
  rw [length_ints] at hl
  subst hl
  by_cases hbad : d.length < 1 ∨ 4 < d.length
  · have hs : decide (0 < sizeI d) = false := by unfold sizeI; rw [if_pos hbad]; rfl
    rw [hs]
    clear hs hat hd
    rcases hbad with hb | hb
    · have t1' : decide ((d.length : Int) < 1) = true := by simp; omega
      go_enter Try.func23, Try.ntmps23
      go_wp2
      go_ret
      exact ⟨rfl, rfl⟩
    · have t1' : decide ((d.length : Int) < 1) = false := by simp; omega
      have t2' : decide (4 < (d.length : Int)) = true := by simp; omega
      go_enter Try.func23, Try.ntmps23
      go_wp2
      go_ret
      exact ⟨rfl, rfl⟩
  · have hs : sizeI d = sizeGo 1 d := by unfold sizeI; rw [if_neg hbad]
    rw [hs]
    obtain ⟨S, hS⟩ : ∃ S, decide (0 < sizeGo 1 d) = S := ⟨_, rfl⟩
    rw [hS]
    have t1' : decide ((d.length : Int) < 1) = false := by simp; omega
    have t2' : decide (4 < (d.length : Int)) = false := by simp; omega
    have HD := Lib.hid hd
    have HSS := Lib.hid hS
    have hb1 : 1 ≤ d.length := by omega
    have hb4 : d.length ≤ 4 := by omega
    clear hs hd hbad hS
    go_enter Try.func23, Try.ntmps23
    go_wp2
    go_loop [3, 16] (fun x i => ∃ (k : Nat) (m : Int), k ≤ d.length ∧ i = .int .i64 k ∧ x = .int .i64 m ∧ 1 ≤ m ∧ m ≤ 8192 ∧ sizeGo m (d.drop k) = sizeGo 1 d) (fun _ i => d.length - (intOf i).toNat)
    case atStart => exact ⟨0, 1, by omega, rfl, rfl, by omega, by omega, by simp⟩
    case round =>
      obtain ⟨k, m, hk, rfl, rfl, hm0, hm1, hs⟩ := hrel
      by_cases hlt : k < d.length
      · obtain ⟨g, o, rfl, hg, hx⟩ := hat.out (by omega)
        have hc1 := hx k _ (ints_at .i64 d k hlt)
        have hbd := HD.out d[k] (List.getElem_mem hlt)
        rw [List.drop_eq_getElem_cons hlt] at hs
        generalize d[k] = x at hc1 hbd hs
        obtain ⟨hx0, hx1⟩ := hbd
        simp only [sizeGo] at hs
        clear hx hat
        by_cases h1 : x < 1
        · rw [if_pos (.inl h1)] at hs
          have HS : Hid (S = false) := Lib.hid (by rw [← HSS.out, ← hs]; rfl)
          clear hs
          have e1 : decide (x < 1) = true := by simpa using h1
          go_wp2
          go_ret
          rw [HS.out]
          exact ⟨rfl, rfl⟩
        · have e1 : decide (x < 1) = false := by simpa using h1
          by_cases h2 : 4096 < x
          · rw [if_pos (.inr (.inl h2))] at hs
            have HS : Hid (S = false) := Lib.hid (by rw [← HSS.out, ← hs]; rfl)
            clear hs
            have e2 : decide (4096 < x) = true := by simpa using h2
            go_wp2
            go_ret
            rw [HS.out]
            exact ⟨rfl, rfl⟩
          · have e2 : decide (4096 < x) = false := by simpa using h2
            have hp := prod_bound hm0 hm1 (by omega : 1 ≤ x) (by omega : x ≤ 4096)
            obtain ⟨hp0, hp1⟩ := hp
            have hne : ¬ x = 0 := by omega
            have hx1' : 1 ≤ x := by omega
            by_cases h3 : 8192 < m * x
            · rw [if_pos (.inr (.inr h3))] at hs
              have HS : Hid (S = false) := Lib.hid (by rw [← HSS.out, ← hs]; rfl)
              clear hs
              have e3 : decide (8192 / x < m) = true := by rw [decide_eq_true_iff]; exact (Int.ediv_lt_iff_lt_mul (by omega)).2 h3
              go_wp2
              go_ret
              rw [HS.out]
              exact ⟨rfl, rfl⟩
            · rw [if_neg (by omega)] at hs
              have HS := Lib.hid hs
              clear hs
              have e3 : decide (8192 / x < m) = false := by rw [decide_eq_false_iff_not]; exact fun h => h3 ((Int.ediv_lt_iff_lt_mul (by omega)).1 h)
              go_wp2
              go_round
              case rel => exact ⟨k + 1, m * x, by omega, by go_num, rfl, by omega, by omega, HS.out⟩
              case measure => simp [intOf]; omega
      · have hz : d.drop k = [] := List.drop_eq_nil_of_le (by omega)
        rw [hz] at hs
        have HS : Hid (S = true) := Lib.hid (by rw [← HSS.out, ← hs]; simp only [sizeGo]; exact decide_eq_true (by omega))
        clear hs hz
        go_wp2
        go_ret
        rw [HS.out]
        exact ⟨rfl, rfl⟩

set_option maxRecDepth 100000 in
theorem r1size_any (d : List Int) (v : Value) (w : World) (B : Nat) (h : Reads w B v (ints .i64 d)) (hd : ∀ x ∈ d, -9223372036854775808 ≤ x ∧ x ≤ 9223372036854775807) :
    Calls Try.prog 37 #[v] w fun e w' => e = .returned (.int .i64 (sizeI d)) ∧ w = w' := by
  have HS := Lib.hid (maydims_any d v w B h hd)
  obtain ⟨A, n, c, rfl, hl, hc, hm, hat⟩ := h
  rw [length_ints] at hl
  subst hl
  by_cases hp : 0 < sizeI d
  · have t1 : decide (0 < sizeI d) = true := by simpa using hp
    have hpg : prodGo 1 d = sizeI d := by
      unfold sizeI at hp ⊢
      split at hp
      · omega
      · rename_i h; rw [if_neg h]; exact prod_of_size d 1 (by omega) (by omega) hp
    have hgo : 0 < sizeGo 1 d ∧ d.length ≤ 4 := by
      unfold sizeI at hp
      split at hp
      · omega
      · exact ⟨hp, by omega⟩
    have HG := Lib.hid hgo.1
    have hl4 := hgo.2
    obtain ⟨S, hS⟩ : ∃ S, sizeI d = S := ⟨_, rfl⟩
    rw [hS] at hpg
    have HSE := Lib.hid hS
    rw [hS]
    have HP := Lib.hid hpg
    have T1 := Lib.hid t1
    clear hp hpg hd hS t1 hgo
    go_enter Try.func37, Try.ntmps37
    go_wp2_with fail
    refine HS.out.mono ?_; rintro e w' ⟨rfl, rfl⟩
    rw [T1.out]
    go_wp2
    go_loop [3, 11] (fun x i => ∃ (k : Nat) (m : Int), k ≤ d.length ∧ i = .int .i64 k ∧ x = .int .i64 m ∧ 1 ≤ m ∧ m ≤ 8192 ∧ 0 < sizeGo m (d.drop k) ∧ prodGo m (d.drop k) = S) (fun _ i => d.length - (intOf i).toNat)
    case atStart => exact ⟨0, 1, by omega, rfl, rfl, by omega, by omega, by simpa using HG.out, by simpa using HP.out⟩
    case round =>
      obtain ⟨k, m, hk, rfl, rfl, hm0, hm1, hs, hpr⟩ := hrel
      by_cases hlt : k < d.length
      · obtain ⟨g, o, rfl, hg, hx⟩ := hat.out (by omega)
        have hc1 := hx k _ (ints_at .i64 d k hlt)
        rw [List.drop_eq_getElem_cons hlt] at hs hpr
        generalize d[k] = x at hc1 hs hpr
        simp only [sizeGo, prodGo] at hs hpr
        split at hs
        · omega
        · rename_i h2
          have hp2 := prod_bound hm0 hm1 (by omega : 1 ≤ x) (by omega : x ≤ 4096)
          obtain ⟨hp0, hp1⟩ := hp2
          have hp3 : m * x ≤ 8192 := by omega
          have HR := Lib.hid hpr
          have HS2 := Lib.hid hs
          clear hx hat hs hpr h2
          go_wp2
          go_round
          case rel => exact ⟨k + 1, m * x, by omega, by go_num, rfl, by omega, by omega, HS2.out, HR.out⟩
          case measure => simp [intOf]; omega
      · have hz : d.drop k = [] := List.drop_eq_nil_of_le (by omega)
        rw [hz] at hpr
        have HR : Hid (m = S) := Lib.hid hpr
        clear hpr hs hz
        go_wp2
        go_ret
        rw [HR.out]
        exact ⟨rfl, rfl⟩
  · have t1 : decide (0 < sizeI d) = false := by simpa using hp
    have hz : sizeI d = 0 := by have := sizeI_bound d; omega
    have HZ := Lib.hid hz
    have T1 := Lib.hid t1
    clear t1 hp hz hd hat
    go_enter Try.func37, Try.ntmps37
    go_wp2_with fail
    refine HS.out.mono ?_; rintro e w' ⟨rfl, rfl⟩
    rw [T1.out]
    go_wp2
    go_ret
    rw [HZ.out]
    exact ⟨rfl, rfl⟩

theorem sizeGo_three (c p q : Int) (h1 : 1 ≤ c) (h2 : c ≤ 8) (h3 : 1 ≤ p) (h4 : p ≤ 20) (h5 : 1 ≤ q) (h6 : q ≤ 20) : sizeI [c, p, q] = c * (p * q) := by
  have m1 := mul3_in h1 h2 h3 h4 (Int.le_refl 1) (by omega : (1 : Int) ≤ 20)
  have m2 := mul3_in h1 h2 h3 h4 h5 h6
  rw [Int.mul_one] at m1
  have e : c * p * q = c * (p * q) := Int.mul_assoc _ _ _
  unfold sizeI
  rw [if_neg (by simp)]
  simp only [sizeGo, Int.one_mul]
  rw [if_neg (by omega), if_neg (by omega), if_neg (by rw [e]; omega), e]
theorem good_size {d : List Int} (h : GoodD d) : sizeI d = prodI d := by
  rcases h with ⟨c, p, q, rfl, h1, h2, h3, h4, h5, h6⟩ | ⟨n, rfl, h1, h2⟩
  · rw [sizeGo_three c p q h1 h2 h3 h4 h5 h6]
    simp [prodI]
  · unfold sizeI
    rw [if_neg (by simp)]
    simp only [sizeGo, prodI, Int.one_mul, Int.mul_one]
    rw [if_neg (by omega)]
theorem good_wide {d : List Int} (h : GoodD d) : ∀ x ∈ d, -9223372036854775808 ≤ x ∧ x ≤ 9223372036854775807 := fun x hx => by have := h.bd x hx; omega
theorem rmaydims_good {d : List Int} (h : GoodD d) (v : Value) (w : World) (B : Nat) (hr : Reads w B v (ints .i64 d)) : Calls Try.prog 23 #[v] w fun e w' => e = .returned (.bool true) ∧ w = w' := by
  have := maydims_any d v w B hr (good_wide h)
  rw [good_size h] at this
  have hp := h.prod
  rwa [show decide (0 < prodI d) = true by simp; omega] at this
theorem rsize_good {d : List Int} (h : GoodD d) (v : Value) (w : World) (B : Nat) (hr : Reads w B v (ints .i64 d)) : Calls Try.prog 37 #[v] w fun e w' => e = .returned (.int .i64 (prodI d)) ∧ w = w' := by
  have := r1size_any d v w B hr (good_wide h)
  rwa [good_size h] at this
end Go.Proofs.Ytkileiikffomlaa
