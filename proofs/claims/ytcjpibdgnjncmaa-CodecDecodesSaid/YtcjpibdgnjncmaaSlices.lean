/- Contracts of functions of package slices. -/
import Derived.Test.YtcjpibdgnjncmaaMem
import Derived.Test.YtcjpibdgnjncmaaOff
import Derived.Test.YtcjpibdgnjncmaaRows
import Derived.BigQuiet
import Derived.Deep.QuietTactic
import Derived.Lib.SliceRun
namespace Go.Proofs.Ytcjpibdgnjncmaa
open Go.RowKit
set_option linter.unusedVariables false
set_option linter.unusedSimpArgs false
theorem take_extG {xs ys : List Int} {k : Nat} (h : xs.take k = ys.take k) (hx : xs[k]? = ys[k]?) : xs.take (k + 1) = ys.take (k + 1) := by
  rw [List.take_add_one, List.take_add_one, h, hx]

theorem equal_int_len (xs ys : List Int) (va vb : Value) (w : World) (B B' : Nat) (ha : Reads w B va (ints .i64 xs)) (hb : Reads w B' vb (ints .i64 ys)) (hne : xs.length ≠ ys.length) :
    Calls Try.prog 85 #[va, vb] w (Quiet w (.bool false)) := by
  obtain ⟨A, n, c, rfl, hl, hc, hm, ha⟩ := ha
  obtain ⟨A', n', c', rfl, hl', hc', hm', hb⟩ := hb
  rw [length_ints] at hl hl'
  have e1 : ((n : Int) != (n' : Int)) = true := by simp; omega
  have hN : ¬ n = n' := by omega
  go_enter Try.func85, Try.ntmps85
  go_wp2
  go_ret
  exact Quiet.mk' 0

set_option maxRecDepth 100000 in
theorem equal_int_any (xs ys : List Int) (va vb : Value) (w : World) (B B' : Nat) (ha : Reads w B va (ints .i64 xs)) (hb : Reads w B' vb (ints .i64 ys)) :
    Calls Try.prog 85 #[va, vb] w (Quiet w (.bool (xs == ys))) := by
  by_cases hne : xs.length ≠ ys.length
  · have : (xs == ys) = false := by
      rw [beq_eq_false_iff_ne]
      rintro rfl
      exact hne rfl
    rw [this]
    exact equal_int_len xs ys va vb w B B' ha hb hne
  · obtain ⟨A, n, c, rfl, hl, hc, hm, ha⟩ := ha
    obtain ⟨A', n', c', rfl, hl', hc', hm', hb⟩ := hb
    rw [length_ints] at hl hl'
    obtain rfl : n = n' := by omega
    have e1 : ((n : Int) != (n : Int)) = false := by simp
    unfold maxLen at hm hm'
    have HL := Lib.hid hl
    have HL' := Lib.hid hl'
    have HN : n ≤ 9223372036854775807 := by omega
    clear hl hl' hne
    go_enter Try.func85, Try.ntmps85
    go_wp2
    go_loopw [13] (fun i wr => ∃ k : Nat, k ≤ n ∧ i = .int .i64 k ∧ xs.take k = ys.take k ∧ ∃ m, wr = w.drewN m) (fun i _ => n - (intOf i).toNat)
    case atStart => exact ⟨0, by omega, rfl, by simp, 0, rfl⟩
    case round =>
      obtain ⟨k, hk, rfl, htk, m, rfl⟩ := hrel
      by_cases hlt : k < n
      · obtain ⟨g, o, rfl, hg, hx⟩ := ha.out (by omega)
        obtain ⟨g', o', rfl, hg', hy⟩ := hb.out (by omega)
        have hl := HL.out
        have hl' := HL'.out
        have c1 := hx k (.int .i64 xs[k]) (ints_at _ _ _ (by omega))
        have c2 := hy k (.int .i64 ys[k]) (ints_at _ _ _ (by omega))
        obtain ⟨x, hx0⟩ : ∃ x, xs[k] = x := ⟨_, rfl⟩
        obtain ⟨y, hy0⟩ : ∃ y, ys[k] = y := ⟨_, rfl⟩
        rw [hx0] at c1
        rw [hy0] at c2
        have hxe : xs[k]? = some x := by rw [List.getElem?_eq_getElem (by omega), hx0]
        have hye : ys[k]? = some y := by rw [List.getElem?_eq_getElem (by omega), hy0]
        have HX := Lib.hid hxe
        have HY := Lib.hid hye
        have HT := Lib.hid htk
        clear ha hb hx hy hl hl' hx0 hy0 hxe hye htk
        have i1 : (0 : Int) ≤ (k : Int) := by omega
        have i2 : (k : Int) < (n : Int) := by omega
        by_cases hxy : x = y
        · have e2 : (x != y) = false := by simpa using hxy
          have HXY := Lib.hid hxy
          clear hxy
          go_wp2
          go_quiet (fail)
          go_wp2
          go_roundw
          case rel => exact ⟨k + 1, by omega, by go_num, take_extG HT.out (by rw [HX.out, HY.out, HXY.out]), _, rfl⟩
          case measure => simp [intOf]; omega
        · have e2 : (x != y) = true := by simpa using hxy
          have hq : (xs == ys) = false := by
            rw [beq_eq_false_iff_ne]
            rintro rfl
            have := HX.out.symm.trans HY.out
            injection this with this
            exact hxy this
          have HQ := Lib.hid hq
          clear hxy hq
          go_wp2
          go_quiet (fail)
          go_wp2
          go_ret
          rw [HQ.out]
          exact Quiet.mk2 _ _
      · have hq : (xs == ys) = true := by
          rw [beq_iff_eq]
          rw [List.take_of_length_le (by have := HL.out; omega), List.take_of_length_le (by have := HL'.out; omega)] at htk
          exact htk
        have HQ := Lib.hid hq
        clear hq htk
        go_wp2
        go_ret
        rw [HQ.out]
        exact Quiet.mk' _
theorem equal_i8_len (xs ys : List Int) (va vb : Value) (w : World) (B B' : Nat) (ha : Reads w B va (ints .i8 xs)) (hb : Reads w B' vb (ints .i8 ys)) (hne : xs.length ≠ ys.length) :
    Calls Try.prog 84 #[va, vb] w (Quiet w (.bool false)) := by
  obtain ⟨A, n, c, rfl, hl, hc, hm, ha⟩ := ha
  obtain ⟨A', n', c', rfl, hl', hc', hm', hb⟩ := hb
  rw [length_ints] at hl hl'
  have e1 : ((n : Int) != (n' : Int)) = true := by simp; omega
  have hN : ¬ n = n' := by omega
  go_enter Try.func84, Try.ntmps84
  go_wp2
  go_ret
  exact Quiet.mk' 0

set_option maxRecDepth 100000 in
theorem equal_i8_any (xs ys : List Int) (va vb : Value) (w : World) (B B' : Nat) (ha : Reads w B va (ints .i8 xs)) (hb : Reads w B' vb (ints .i8 ys)) :
    Calls Try.prog 84 #[va, vb] w (Quiet w (.bool (xs == ys))) := by
  by_cases hne : xs.length ≠ ys.length
  · have : (xs == ys) = false := by
      rw [beq_eq_false_iff_ne]
      rintro rfl
      exact hne rfl
    rw [this]
    exact equal_i8_len xs ys va vb w B B' ha hb hne
  · obtain ⟨A, n, c, rfl, hl, hc, hm, ha⟩ := ha
    obtain ⟨A', n', c', rfl, hl', hc', hm', hb⟩ := hb
    rw [length_ints] at hl hl'
    obtain rfl : n = n' := by omega
    have e1 : ((n : Int) != (n : Int)) = false := by simp
    unfold maxLen at hm hm'
    have HL := Lib.hid hl
    have HL' := Lib.hid hl'
    have HN : n ≤ 9223372036854775807 := by omega
    clear hl hl' hne
    go_enter Try.func84, Try.ntmps84
    go_wp2
    go_loopw [13] (fun i wr => ∃ k : Nat, k ≤ n ∧ i = .int .i64 k ∧ xs.take k = ys.take k ∧ ∃ m, wr = w.drewN m) (fun i _ => n - (intOf i).toNat)
    case atStart => exact ⟨0, by omega, rfl, by simp, 0, rfl⟩
    case round =>
      obtain ⟨k, hk, rfl, htk, m, rfl⟩ := hrel
      by_cases hlt : k < n
      · obtain ⟨g, o, rfl, hg, hx⟩ := ha.out (by omega)
        obtain ⟨g', o', rfl, hg', hy⟩ := hb.out (by omega)
        have hl := HL.out
        have hl' := HL'.out
        have c1 := hx k (.int .i8 xs[k]) (ints_at _ _ _ (by omega))
        have c2 := hy k (.int .i8 ys[k]) (ints_at _ _ _ (by omega))
        obtain ⟨x, hx0⟩ : ∃ x, xs[k] = x := ⟨_, rfl⟩
        obtain ⟨y, hy0⟩ : ∃ y, ys[k] = y := ⟨_, rfl⟩
        rw [hx0] at c1
        rw [hy0] at c2
        have hxe : xs[k]? = some x := by rw [List.getElem?_eq_getElem (by omega), hx0]
        have hye : ys[k]? = some y := by rw [List.getElem?_eq_getElem (by omega), hy0]
        have HX := Lib.hid hxe
        have HY := Lib.hid hye
        have HT := Lib.hid htk
        clear ha hb hx hy hl hl' hx0 hy0 hxe hye htk
        have i1 : (0 : Int) ≤ (k : Int) := by omega
        have i2 : (k : Int) < (n : Int) := by omega
        by_cases hxy : x = y
        · have e2 : (x != y) = false := by simpa using hxy
          have HXY := Lib.hid hxy
          clear hxy
          go_wp2
          go_quiet (fail)
          go_wp2
          go_roundw
          case rel => exact ⟨k + 1, by omega, by go_num, take_extG HT.out (by rw [HX.out, HY.out, HXY.out]), _, rfl⟩
          case measure => simp [intOf]; omega
        · have e2 : (x != y) = true := by simpa using hxy
          have hq : (xs == ys) = false := by
            rw [beq_eq_false_iff_ne]
            rintro rfl
            have := HX.out.symm.trans HY.out
            injection this with this
            exact hxy this
          have HQ := Lib.hid hq
          clear hxy hq
          go_wp2
          go_quiet (fail)
          go_wp2
          go_ret
          rw [HQ.out]
          exact Quiet.mk2 _ _
      · have hq : (xs == ys) = true := by
          rw [beq_iff_eq]
          rw [List.take_of_length_le (by have := HL.out; omega), List.take_of_length_le (by have := HL'.out; omega)] at htk
          exact htk
        have HQ := Lib.hid hq
        clear hq htk
        go_wp2
        go_ret
        rw [HQ.out]
        exact Quiet.mk' _
/-- where it is -/
def Idx_i8 (xs : List Int) (x : Int) (w : World) (e : Ending) (w' : World) : Prop := ∃ i : Int, e = .returned (.int .i64 i) ∧ decide (0 ≤ i) = xs.contains x ∧ w = w'
theorem index_i8 (xs : List Int) (x : Int) (v : Value) (w : World) (B : Nat) (h : Reads w B v (ints .i8 xs)) :
    Calls Try.prog 82 #[v, .int .i8 x] w (Idx_i8 xs x w) := by
  obtain ⟨A, n, c, rfl, hl, hc, hm, hat⟩ := h
  rw [length_ints] at hl
  subst hl
  unfold maxLen at hm
  go_enter Try.func82, Try.ntmps82
  go_wp2
  go_loop [8] (fun i => ∃ k : Nat, k ≤ xs.length ∧ i = .int .i64 k ∧ (xs.take k).contains x = false) (fun i => xs.length - (intOf i).toNat)
  case atStart => exact ⟨0, by omega, rfl, by simp⟩
  case round =>
    obtain ⟨k, hk, rfl, hs⟩ := hrel
    by_cases hlt : k < xs.length
    · obtain ⟨g, o, rfl, hg, hx⟩ := hat.out (by omega)
      have hc1 := hx k _ (ints_at .i8 xs k hlt)
      have hn : (xs.take (k + 1)).contains x = (x == xs[k]) := by
        rw [List.take_add_one, List.getElem?_eq_getElem hlt, List.contains_append, hs]
        simp
        rw [Bool.eq_iff_iff]; simp
      have hmem : xs[k] ∈ xs := List.getElem_mem hlt
      generalize xs[k] = y at hc1 hn hmem
      have HS := Lib.hid hs
      have HN := Lib.hid hn
      clear hx hat hs hn
      by_cases hxy : x = y
      · subst hxy
        have hct : xs.contains x = true := by rw [List.contains_iff_mem]; exact hmem
        have HC := Lib.hid hct
        clear hct hmem
        go_wp2
        go_ret
        exact ⟨k, rfl, by rw [HC.out]; simp, rfl⟩
      · have e1 : (x == y) = false := by simpa using hxy
        clear hmem hxy
        go_wp2
        go_round
        case rel => exact ⟨k + 1, by omega, by go_num, by rw [HN.out]; exact e1⟩
        case measure => simp [intOf]; omega
    · rw [List.take_of_length_le (by omega)] at hs
      have HS := Lib.hid hs
      clear hs
      go_wp2
      go_ret
      exact ⟨-1, rfl, by rw [HS.out]; rfl, rfl⟩
theorem contains_i8 (xs : List Int) (x : Int) (v : Value) (w : World) (B : Nat) (h : Reads w B v (ints .i8 xs)) :
    Calls Try.prog 78 #[v, .int .i8 x] w fun e w' => e = .returned (.bool (xs.contains x)) ∧ w = w' := by
  have HI := Lib.hid (index_i8 xs x v w B h)
  obtain ⟨A, c, rfl, _, _⟩ := h.form
  clear h
  generalize hb : xs.contains x = b at HI
  go_enter Try.func78, Try.ntmps78
  go_wp2_with fail
  refine HI.out.mono ?_; rintro e w' ⟨i, rfl, hi, rfl⟩
  rw [hb] at hi
  have HB := Lib.hid hi
  clear hi hb
  go_wp2_with fail
  go_ret
  exact ⟨by rw [← HB.out]; rfl, rfl⟩
end Go.Proofs.Ytcjpibdgnjncmaa
