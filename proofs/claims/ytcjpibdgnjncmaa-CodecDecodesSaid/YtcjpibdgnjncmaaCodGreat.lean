/- Contracts of codec.great, slices.IndexFunc, slices.ContainsFunc. -/
import Derived.Test.YtcjpibdgnjncmaaParMem
import Derived.Outline
namespace Go.Proofs.Ytcjpibdgnjncmaa
open Go.RowKit
set_option linter.unusedVariables false
set_option linter.unusedSimpArgs false

def inM (n : Int) : Bool := decide (-1048576 ≤ n) && decide (n ≤ 1048576)
theorem great_any (n : Int) (b : Bool) (hb : inM n = b) (w : World) : Calls Try.prog 76 #[.int .i32 n] w fun en w' => en = .returned (.bool (!b)) ∧ w = w' := by
  subst hb
  unfold inM
  by_cases ha : -1048576 ≤ n
  · have t1 : decide (n < -1048576) = false := decide_eq_false (by omega)
    have u1 : decide (-1048576 ≤ n) = true := decide_eq_true ha
    by_cases hb : n ≤ 1048576
    · have t2 : decide (1048576 < n) = false := decide_eq_false (by omega)
      have u2 : decide (n ≤ 1048576) = true := decide_eq_true hb
      have U1 := Lib.hid u1
      have U2 := Lib.hid u2
      clear ha hb u1 u2
      go_enter Try.func76, Try.ntmps76
      go_wp2
      go_ret
      exact ⟨by rw [U1.out, U2.out]; rfl, rfl⟩
    · have t2 : decide (1048576 < n) = true := decide_eq_true (by omega)
      have u2 : decide (n ≤ 1048576) = false := decide_eq_false hb
      have U1 := Lib.hid u1
      have U2 := Lib.hid u2
      clear ha hb u1 u2
      go_enter Try.func76, Try.ntmps76
      go_wp2
      go_ret
      exact ⟨by rw [U1.out, U2.out]; rfl, rfl⟩
  · have t1 : decide (n < -1048576) = true := decide_eq_true (by omega)
    have u1 : decide (-1048576 ≤ n) = false := decide_eq_false ha
    have U1 := Lib.hid u1
    clear ha u1
    go_enter Try.func76, Try.ntmps76
    go_wp2
    go_ret
    exact ⟨by rw [U1.out]; rfl, rfl⟩
def IdxF (xs : List Int) (w : World) (e : Ending) (w' : World) : Prop := ∃ i : Int, e = .returned (.int .i64 i) ∧ decide (0 ≤ i) = !xs.all inM ∧ w = w'
theorem all_take_next {xs : List Int} {k : Nat} {u : Int} (h : (xs.take k).all inM = true) (hk : xs[k]? = some u) (hu : inM u = true) : (xs.take (k + 1)).all inM = true := by
  rw [List.take_add_one, hk]
  simp only [Option.toList_some, List.all_append, List.all_cons, List.all_nil, Bool.and_true, h, hu]
theorem not_all {xs : List Int} {k : Nat} {u : Int} (hk : xs[k]? = some u) (hu : inM u = false) : xs.all inM = false := by
  rw [List.all_eq_false]
  exact ⟨u, List.mem_of_getElem? hk, by simp [hu]⟩
theorem idxm_any (xs : List Int) (v : Value) (w : World) (B : Nat) (h : Reads w B v (ints .i32 xs)) :
    Calls Try.prog 81 #[v, .func (.func 76) #[] #[]] w (IdxF xs w) := by
  obtain ⟨A, n, c, rfl, hl, hc, hm, hat⟩ := h
  rw [length_ints] at hl
  subst hl
  have hm63 : xs.length ≤ 9223372036854775807 := by unfold maxLen at hm; omega
  go_enter Try.func81, Try.ntmps81
  go_wp2
  go_loopw [8] (fun i wr => ∃ k : Nat, k ≤ xs.length ∧ i = .int .i64 k ∧ (xs.take k).all inM = true ∧ wr = w) (fun i _ => xs.length - (intOf i).toNat)
  case atStart => exact ⟨0, by omega, rfl, by simp, rfl⟩
  case round =>
    obtain ⟨k, hk, rfl, htk, hw⟩ := hrel
    subst hw
    by_cases hlt : k < xs.length
    · obtain ⟨g, o, rfl, hg, hx⟩ := hat.out (by omega)
      obtain ⟨u, hu⟩ : ∃ u, xs[k]? = some u := ⟨xs[k], List.getElem?_eq_getElem hlt⟩
      have z1 := hx k (.int .i32 u) (by rw [ints, List.getElem?_map, hu]; rfl)
      have i1 : (0 : Int) ≤ (k : Int) := by omega
      have i2 : (k : Int) < (xs.length : Int) := by omega
      have HU := Lib.hid hu
      have HT := Lib.hid htk
      obtain ⟨b, hb⟩ : ∃ b, inM u = b := ⟨_, rfl⟩
      have HM := Lib.hid (great_any u b hb wr)
      have HBB := Lib.hid hb
      clear hu htk hx hat hb
      cases b with
      | false =>
        have hq := not_all HU.out HBB.out
        have HQ := Lib.hid hq
        clear hq
        go_wp2_with fail
        refine HM.out.mono ?_
        rintro en w' ⟨rfl, rfl⟩
        go_wp2
        go_ret
        exact ⟨_, rfl, by rw [HQ.out]; simp, rfl⟩
      | true =>
        go_wp2_with fail
        refine HM.out.mono ?_
        rintro en w' ⟨rfl, rfl⟩
        go_wp2
        go_roundw
        case rel => exact ⟨k + 1, by omega, by go_num, all_take_next HT.out HU.out HBB.out, by first | rfl | trivial⟩
        case measure => simp [intOf]; omega
    · rw [List.take_of_length_le (by omega)] at htk
      have HT := Lib.hid htk
      clear htk
      go_wp2
      go_ret
      exact ⟨_, rfl, by rw [HT.out]; rfl, rfl⟩
theorem conm_any (xs : List Int) (v : Value) (w : World) (B : Nat) (b : Bool) (hb : xs.all inM = b) (h : Reads w B v (ints .i32 xs)) :
    Calls Try.prog 75 #[v, .func (.func 76) #[] #[]] w fun en w' => en = .returned (.bool (!b)) ∧ w = w' := by
  have H := Lib.hid (idxm_any xs v w B h)
  obtain ⟨A, c, rfl, _, _⟩ := h.form
  have HBB := Lib.hid hb
  clear h hb
  go_enter Try.func75, Try.ntmps75
  go_wp2_with fail
  refine H.out.mono ?_
  rintro en w' ⟨i, rfl, hi, rfl⟩
  rw [HBB.out] at hi
  have HI := Lib.hid hi
  clear hi
  go_wp2
  go_ret
  exact ⟨by rw [← HI.out]; rfl, rfl⟩

end Go.Proofs.Ytcjpibdgnjncmaa
