/- Contracts of shape.Size, shape.May, and of the reference's. -/
import Derived.Test.YtcjpibdgnjncmaaMem
import Derived.Test.YtcjpibdgnjncmaaRows
import Derived.Test.YtcjpibdgnjncmaaShapePlain
namespace Go.Proofs.Ytcjpibdgnjncmaa
open Go.RowKit
set_option linter.unusedVariables false
set_option linter.unusedSimpArgs false

set_option maxRecDepth 100000 in
theorem size_any (d : List Int) (v : Value) (w : World) (B : Nat) (h : Reads w B v (ints .i64 d)) (hd : ∀ x ∈ d, -9223372036854775808 ≤ x ∧ x ≤ 9223372036854775807) :
    Calls Try.prog 74 #[v] w fun e w' => e = .returned (.int .i64 (sizeI d)) ∧ w = w' := by
  obtain ⟨A, n, c, rfl, hl, hc, hm, hat⟩ := h
  rw [length_ints] at hl
  subst hl
  by_cases hbad : d.length < 1 ∨ 4 < d.length
  · have hs : sizeI d = 0 := by unfold sizeI; rw [if_pos hbad]
    rw [hs]
    clear hs hat hd
    rcases hbad with hb | hb
    · have t1 : decide (d.length < 1) = true := by simpa using hb
      have t1' : decide ((d.length : Int) < 1) = true := by simp; omega
      go_enter Try.func74, Try.ntmps74
      go_wp2
      go_ret
      exact ⟨rfl, rfl⟩
    · have t1' : decide ((d.length : Int) < 1) = false := by simp; omega
      have t2' : decide (4 < (d.length : Int)) = true := by simp; omega
      go_enter Try.func74, Try.ntmps74
      go_wp2
      go_ret
      exact ⟨rfl, rfl⟩
  · have hs : sizeI d = sizeGo 1 d := by unfold sizeI; rw [if_neg hbad]
    rw [hs]
    have t1' : decide ((d.length : Int) < 1) = false := by simp; omega
    have t2' : decide (4 < (d.length : Int)) = false := by simp; omega
    have HD := Lib.hid hd
    have hb1 : 1 ≤ d.length := by omega
    have hb4 : d.length ≤ 4 := by omega
    clear hs hd hbad
    go_enter Try.func74, Try.ntmps74
    go_wp2
    go_loop [3, 16] (fun x i => ∃ (k : Nat) (m : Int), k ≤ d.length ∧ i = .int .i64 k ∧ x = .int .i64 m ∧ 1 ≤ m ∧ m ≤ 8192 ∧ sizeGo m (d.drop k) = sizeGo 1 d) (fun _ i => d.length - (intOf i).toNat)
    case atStart => exact ⟨0, 1, by omega, rfl, rfl, by omega, by omega, by simp⟩
    case round =>
      obtain ⟨k, m, hk, rfl, rfl, hm0, hm1, hs⟩ := hrel
      by_cases hlt : k < d.length
      · obtain ⟨g, o, rfl, hg, hx⟩ := hat.out (by omega)
        have hc1 := hx k _ (ints_at .i64 d k hlt)
        have hbd := HD.out d[k] (List.getElem_mem hlt)
        rw [List.drop_eq_getElem_cons hlt] at hs
        generalize d[k] = x at hc1 hbd hs
        obtain ⟨hx0, hx1⟩ := hbd
        simp only [sizeGo] at hs
        clear hx hat
        by_cases h1 : x < 1
        · rw [if_pos (.inl h1)] at hs
          have HS := Lib.hid hs
          clear hs
          have e1 : decide (x < 1) = true := by simpa using h1
          go_wp2
          go_ret
          rw [← HS.out]
          exact ⟨rfl, rfl⟩
        · have e1 : decide (x < 1) = false := by simpa using h1
          by_cases h2 : 4096 < x
          · rw [if_pos (.inr (.inl h2))] at hs
            have HS := Lib.hid hs
            clear hs
            have e2 : decide (4096 < x) = true := by simpa using h2
            go_wp2
            go_ret
            rw [← HS.out]
            exact ⟨rfl, rfl⟩
          · have e2 : decide (4096 < x) = false := by simpa using h2
            have hp := prod_bound hm0 hm1 (by omega : 1 ≤ x) (by omega : x ≤ 4096)
            obtain ⟨hp0, hp1⟩ := hp
            by_cases h3 : 8192 < m * x
            · rw [if_pos (.inr (.inr h3))] at hs
              have HS := Lib.hid hs
              clear hs
              have e3 : decide (8192 < m * x) = true := by simpa using h3
              go_wp2
              go_ret
              rw [← HS.out]
              exact ⟨rfl, rfl⟩
            · rw [if_neg (by omega)] at hs
              have HS := Lib.hid hs
              clear hs
              have e3 : decide (8192 < m * x) = false := by simpa using h3
              go_wp2
              go_round
              case rel => exact ⟨k + 1, m * x, by omega, by go_num, rfl, by omega, by omega, HS.out⟩
              case measure => simp [intOf]; omega
      · have hz : d.drop k = [] := List.drop_eq_nil_of_le (by omega)
        rw [hz] at hs
        have HS := Lib.hid hs
        clear hs hz
        go_wp2
        go_ret
        rw [← HS.out]
        exact ⟨rfl, rfl⟩

theorem shapemay_any (d : List Int) (v : Value) (w : World) (B : Nat) (h : Reads w B v (ints .i64 d)) (hd : ∀ x ∈ d, -9223372036854775808 ≤ x ∧ x ≤ 9223372036854775807) :
    Calls Try.prog 57 #[v] w fun e w' => e = .returned (.bool (decide (0 < sizeI d))) ∧ w = w' := by
  have HS := Lib.hid (size_any d v w B h hd)
  obtain ⟨A, c, rfl, _, _⟩ := h.form
  clear h hd
  go_enter Try.func57, Try.ntmps57
  go_wp2_with fail
  refine HS.out.mono ?_; rintro e w' ⟨rfl, rfl⟩
  go_wp2_with fail
  go_ret
  exact ⟨rfl, rfl⟩
end Go.Proofs.Ytcjpibdgnjncmaa
