/- Contracts of tensor.MayAcc, add.within, add.may. -/
import Derived.Test.YthdahnjghpiheaaAccP
import Derived.Test.YthdahnjghpiheaaTensor
namespace Go.Proofs.Ythdahnjghpiheaa
open Go.RowKit
set_option linter.unusedVariables false

def mayA (dims : List Int) (exp : Int) (data : List Int) : Bool := decide (0 < sizeI dims) && (((data.length : Int) == sizeI dims) && (decide (-128 ≤ exp) && decide (exp ≤ 128)))
def inB (x : Int) : Bool := decide (-16777216 < x) && decide (x < 16777216)
def addMay (dims : List Int) (exp : Int) (data : List Int) : Bool := mayA dims exp data && data.all inB

theorem exp2_any (e : Int) (w : World) (h0 : -9223372036854775808 ≤ e) (h1 : e ≤ 9223372036854775807) :
    Calls Try.prog 48 #[.int .i64 e, .int .i64 128] w fun en w' => en = .returned (.bool (decide (-128 ≤ e) && decide (e ≤ 128))) ∧ w = w' := by
  by_cases ha : -128 ≤ e
  · have t1 : decide (-128 ≤ e) = true := by simpa using ha
    by_cases hb : e ≤ 128
    · have t2 : decide (e ≤ 128) = true := by simpa using hb
      go_enter Try.func48, Try.ntmps48
      go_wp2
      go_ret
      exact ⟨by first | rfl | (rw [t1, t2]; rfl), rfl⟩
    · have t2 : decide (e ≤ 128) = false := by simpa using hb
      go_enter Try.func48, Try.ntmps48
      go_wp2
      go_ret
      exact ⟨by first | rfl | (rw [t1, t2]; rfl), rfl⟩
  · have t1 : decide (-128 ≤ e) = false := by simpa using ha
    go_enter Try.func48, Try.ntmps48
    go_wp2
    go_ret
    exact ⟨by first | rfl | (rw [t1]; rfl), rfl⟩

set_option maxHeartbeats 1600000 in
set_option maxRecDepth 100000 in
theorem mayacc_any (dims : List Int) (exp : Int) (data : List Int) (dv xv : Value) (w : World) (B : Nat) (hB : B ≤ w.heap.size) (h : IsA w B dv xv dims exp data) :
    Calls Try.prog 56 #[.agg #[dv, .int .i64 exp, xv]] w fun en w' => en = .returned (.bool (mayA dims exp data)) ∧ Below w.heap.size w w' := by
  have hb0 : Below w.heap.size w (w.alloc (.cells #[dv, .int .i64 exp, xv] 39)) := (Below.refl _ _).alloc (Nat.le_refl _) _
  have HI := Lib.hid (h.below (hb0.mono hB))
  have HB0 := Lib.hid hb0
  obtain ⟨A, c, rfl, _, _⟩ := h.d.form
  obtain ⟨A', c', rfl, _, _⟩ := h.x.form
  have he0 := h.e0
  have he1 := h.e1
  have hsb := sizeI_bound dims
  obtain ⟨hs0, hs1⟩ := hsb
  simp only [length_ints] at *
  clear h hb0
  have HE : Hid (∀ W : World, Calls Try.prog 48 #[.int .i64 exp, .int .i64 128] W fun en w' => en = .returned (.bool (decide (-128 ≤ exp) && decide (exp ≤ 128))) ∧ W = w') := Lib.hid (fun W => exp2_any exp W he0 he1)
  unfold mayA
  by_cases p1 : 0 < sizeI dims
  · have t1 : decide (0 < sizeI dims) = true := by simpa using p1
    rw [t1]
    by_cases p2 : (data.length : Int) = sizeI dims
    · have t2 : ((data.length : Int) == sizeI dims) = true := by simpa using p2
      rw [t2]
      clear p2
      generalize hbb : (decide (-128 ≤ exp) && decide (exp ≤ 128)) = b
      rw [hbb] at HE
      clear hbb
      cases b with
      | false =>
        go_enter Try.func56, Try.ntmps56
        go_wp2_with fail
        go_quiet (first
          | ((go_at_call 31; exact q_left ((shapemay_any dims _ _ _ (HI.out.d.drewN _) HI.out.db.out))))
          | ((go_at_call 32; exact q_left ((size_any dims _ _ _ (HI.out.d.drewN _) HI.out.db.out))))
          | ((go_at_call 48; exact q_left (HE.out _))))
        go_wp2
        go_ret
        exact ⟨rfl, below_drewN HB0.out _⟩
      | true =>
        go_enter Try.func56, Try.ntmps56
        go_wp2_with fail
        go_quiet (first
          | ((go_at_call 31; exact q_left ((shapemay_any dims _ _ _ (HI.out.d.drewN _) HI.out.db.out))))
          | ((go_at_call 32; exact q_left ((size_any dims _ _ _ (HI.out.d.drewN _) HI.out.db.out))))
          | ((go_at_call 48; exact q_left (HE.out _))))
        go_wp2
        go_ret
        exact ⟨rfl, below_drewN HB0.out _⟩
    · have t2 : ((data.length : Int) == sizeI dims) = false := by simpa using p2
      rw [t2]
      clear p2
      go_enter Try.func56, Try.ntmps56
      go_wp2_with fail
      go_quiet (first
        | ((go_at_call 31; exact q_left ((shapemay_any dims _ _ _ (HI.out.d.drewN _) HI.out.db.out))))
        | ((go_at_call 32; exact q_left ((size_any dims _ _ _ (HI.out.d.drewN _) HI.out.db.out))))
        | ((go_at_call 48; exact q_left (HE.out _))))
      go_wp2
      go_ret
      exact ⟨rfl, below_drewN HB0.out _⟩
  · have t1 : decide (0 < sizeI dims) = false := by simpa using p1
    rw [t1]
    go_enter Try.func56, Try.ntmps56
    go_wp2_with fail
    go_quiet ((go_at_call 31; exact q_left ((shapemay_any dims _ _ _ (HI.out.d.drewN _) HI.out.db.out))))
    go_wp2
    go_ret
    exact ⟨rfl, below_drewN HB0.out _⟩

theorem within_any (n : Int) (w : World) : Calls Try.prog 46 #[.int .i32 n] w fun en w' => en = .returned (.bool (inB n)) ∧ w = w' := by
  unfold inB
  by_cases ha : -16777216 < n
  · have t1 : decide (-16777216 < n) = true := by simpa using ha
    by_cases hb : n < 16777216
    · have t2 : decide (n < 16777216) = true := by simpa using hb
      go_enter Try.func46, Try.ntmps46
      go_wp2
      go_ret
      exact ⟨by first | rfl | (rw [t1, t2]; rfl), rfl⟩
    · have t2 : decide (n < 16777216) = false := by simpa using hb
      go_enter Try.func46, Try.ntmps46
      go_wp2
      go_ret
      exact ⟨by first | rfl | (rw [t1, t2]; rfl), rfl⟩
  · have t1 : decide (-16777216 < n) = false := by simpa using ha
    go_enter Try.func46, Try.ntmps46
    go_wp2
    go_ret
    exact ⟨by first | rfl | (rw [t1]; rfl), rfl⟩
theorem may1_any (n : Int) (b : Bool) (hb : inB n = b) (w : World) : Calls Try.prog 58 #[.int .i32 n] w fun en w' => en = .returned (.bool (!b)) ∧ w = w' := by
  have H := Lib.hid (within_any n w)
  rw [hb] at H
  clear hb
  cases b <;>
  · go_enter Try.func58, Try.ntmps58
    go_wp2_with fail
    refine H.out.mono ?_
    rintro en w' ⟨rfl, rfl⟩
    go_wp2
    go_ret
    exact ⟨rfl, rfl⟩

def IdxF (xs : List Int) (w : World) (e : Ending) (w' : World) : Prop := ∃ i : Int, e = .returned (.int .i64 i) ∧ decide (0 ≤ i) = !xs.all inB ∧ w = w'
theorem all_take_next {xs : List Int} {k : Nat} {u : Int} (h : (xs.take k).all inB = true) (hk : xs[k]? = some u) (hu : inB u = true) : (xs.take (k + 1)).all inB = true := by
  rw [List.take_add_one, hk]
  simp only [Option.toList_some, List.all_append, List.all_cons, List.all_nil, Bool.and_true, h, hu]
theorem not_all {xs : List Int} {k : Nat} {u : Int} (hk : xs[k]? = some u) (hu : inB u = false) : xs.all inB = false := by
  rw [List.all_eq_false]
  exact ⟨u, List.mem_of_getElem? hk, by simp [hu]⟩
theorem indexfunc_any (xs : List Int) (v : Value) (w : World) (B : Nat) (h : Reads w B v (ints .i32 xs)) :
    Calls Try.prog 60 #[v, .func (.func 58) #[] #[]] w (IdxF xs w) := by
  obtain ⟨A, n, c, rfl, hl, hc, hm, hat⟩ := h
  rw [length_ints] at hl
  subst hl
  have hm63 : xs.length ≤ 9223372036854775807 := by unfold maxLen at hm; omega
  go_enter Try.func60, Try.ntmps60
  go_wp2
  go_loopw [8] (fun i wr => ∃ k : Nat, k ≤ xs.length ∧ i = .int .i64 k ∧ (xs.take k).all inB = true ∧ wr = w) (fun i _ => xs.length - (intOf i).toNat)
  case atStart => exact ⟨0, by omega, rfl, by simp, rfl⟩
  case round =>
    obtain ⟨k, hk, rfl, htk, hw⟩ := hrel
    subst hw
    by_cases hlt : k < xs.length
    · obtain ⟨g, o, rfl, hg, hx⟩ := hat.out (by omega)
      obtain ⟨u, hu⟩ : ∃ u, xs[k]? = some u := ⟨xs[k], List.getElem?_eq_getElem hlt⟩
      have z1 := hx k (.int .i32 u) (by rw [ints, List.getElem?_map, hu]; rfl)
      have i1 : (0 : Int) ≤ (k : Int) := by omega
      have i2 : (k : Int) < (xs.length : Int) := by omega
      have HU := Lib.hid hu
      have HT := Lib.hid htk
      obtain ⟨b, hb⟩ : ∃ b, inB u = b := ⟨_, rfl⟩
      have HM := Lib.hid (may1_any u b hb wr)
      have HBB := Lib.hid hb
      clear hu htk hx hat hb
      cases b with
      | false =>
        have hq := not_all HU.out HBB.out
        have HQ := Lib.hid hq
        clear hq
        go_wp2_with fail
        refine HM.out.mono ?_
        rintro en w' ⟨rfl, rfl⟩
        go_wp2
        go_ret
        exact ⟨_, rfl, by rw [HQ.out]; simp, rfl⟩
      | true =>
        go_wp2_with fail
        refine HM.out.mono ?_
        rintro en w' ⟨rfl, rfl⟩
        go_wp2
        go_roundw
        case rel => exact ⟨k + 1, by omega, by go_num, all_take_next HT.out HU.out HBB.out, by first | rfl | trivial⟩
        case measure => simp [intOf]; omega
    · rw [List.take_of_length_le (by omega)] at htk
      have HT := Lib.hid htk
      clear htk
      go_wp2
      go_ret
      exact ⟨_, rfl, by rw [HT.out]; rfl, rfl⟩
theorem containsfunc_any (xs : List Int) (v : Value) (w : World) (B : Nat) (b : Bool) (hb : xs.all inB = b) (h : Reads w B v (ints .i32 xs)) :
    Calls Try.prog 57 #[v, .func (.func 58) #[] #[]] w fun en w' => en = .returned (.bool (!b)) ∧ w = w' := by
  have H := Lib.hid (indexfunc_any xs v w B h)
  obtain ⟨A, c, rfl, _, _⟩ := h.form
  have HBB := Lib.hid hb
  clear h hb
  go_enter Try.func57, Try.ntmps57
  go_wp2_with fail
  refine H.out.mono ?_
  rintro en w' ⟨i, rfl, hi, rfl⟩
  rw [HBB.out] at hi
  have HI := Lib.hid hi
  clear hi
  go_wp2
  go_ret
  exact ⟨by rw [← HI.out]; rfl, rfl⟩

set_option maxHeartbeats 1600000 in
theorem addmay_any (dims : List Int) (exp : Int) (data : List Int) (dv xv : Value) (w : World) (B : Nat) (hB : B ≤ w.heap.size) (h : IsA w B dv xv dims exp data) :
    Calls Try.prog 45 #[.agg #[dv, .int .i64 exp, xv]] w fun en w' => en = .returned (.bool (addMay dims exp data)) ∧ Below w.heap.size w w' := by
  have hb0 : Below w.heap.size w (w.alloc (.cells #[dv, .int .i64 exp, xv] 39)) := (Below.refl _ _).alloc (Nat.le_refl _) _
  have HI := Lib.hid (h.below (hb0.mono hB))
  have HB0 := Lib.hid hb0
  obtain ⟨A, c, rfl, _, _⟩ := h.d.form
  obtain ⟨A', c', rfl, _, _⟩ := h.x.form
  simp only [length_ints] at *
  have K := Lib.hid (Blk.fresh w 39 [.slice A dims.length c, .int .i64 exp, .slice A' data.length c'])
  clear h hb0
  unfold addMay
  obtain ⟨m, hm⟩ : ∃ m, mayA dims exp data = m := ⟨_, rfl⟩
  obtain ⟨s, hs⟩ : ∃ s, data.all inB = s := ⟨_, rfl⟩
  have hM := mayacc_any dims exp data _ _ _ B (Nat.le_trans hB HB0.out.size) HI.out
  rw [hm] at hM ⊢
  rw [hs]
  have HM := Lib.hid hM
  have HS := Lib.hid hs
  clear hM hm hs
  go_enter Try.func45, Try.ntmps45
  go_wp2_with fail
  refine HM.out.mono ?_
  rintro en w3 ⟨rfl, hb3⟩
  have HB3 := Lib.hid (HB0.out.trans (hb3.mono (HB0.out.size)))
  cases m with
  | false =>
    clear hb3
    go_wp2
    go_ret
    exact ⟨rfl, HB3.out⟩
  | true =>
    have x2 : w3.cell? ⟨w.heap.size, 2, none⟩ = some (.slice A' data.length c') := (K.out.below hb3 (by simp)).cell 2
    have hx := (HI.out.below (hb3.mono (Nat.le_trans hB HB0.out.size))).x
    have HC := Lib.hid (containsfunc_any data _ w3 _ s HS.out hx)
    clear hb3 hx
    go_wp2_with fail
    refine HC.out.mono ?_
    rintro en w5 ⟨rfl, rfl⟩
    cases s <;>
    · go_wp2
      go_ret
      exact ⟨rfl, HB3.out⟩
end Go.Proofs.Ythdahnjghpiheaa
