/- Contracts of tensor.May. -/
import Derived.Test.YtcjpibdgnjncmaaShape
import Derived.Test.YtcjpibdgnjncmaaSlices
namespace Go.Proofs.Ytcjpibdgnjncmaa
open Go.RowKit
set_option linter.unusedVariables false
set_option linter.unusedSimpArgs false

theorem q_left {P : Program} {f : FuncId} {args : Array Value} {w : World} {n : Nat} {v : Value} (h : Calls P f args (w.drewN n) fun e w' => e = .returned v ∧ w.drewN n = w') :
    Calls P f args (w.drewN n) fun e w'' => e = .returned v ∧ ∃ m, w'' = w.drewN m := h.mono fun _ _ ⟨he, hm⟩ => ⟨he, n, hm.symm⟩

/-- a tensor's parts: two rows and their lists, an exponent -/
structure IsT (w : World) (B : Nat) (dv xv : Value) (dims : List Int) (exp : Int) (data : List Int) : Prop where
  d : Reads w B dv (ints .i64 dims)
  x : Reads w B xv (ints .i8 data)
  db : Hid (∀ x ∈ dims, -9223372036854775808 ≤ x ∧ x ≤ 9223372036854775807)
  xb : Hid (∀ x ∈ data, -128 ≤ x ∧ x ≤ 127)
  e0 : -9223372036854775808 ≤ exp
  e1 : exp ≤ 9223372036854775807
theorem IsT.below {w w' : World} {B : Nat} {dv xv : Value} {dims : List Int} {exp : Int} {data : List Int} (h : IsT w B dv xv dims exp data) (hb : Below B w w') : IsT w' B dv xv dims exp data :=
  ⟨h.d.below hb, h.x.below hb, h.db, h.xb, h.e0, h.e1⟩
theorem IsT.more {w : World} {B B' : Nat} {dv xv : Value} {dims : List Int} {exp : Int} {data : List Int} (h : IsT w B dv xv dims exp data) (hb : B ≤ B') : IsT w B' dv xv dims exp data :=
  ⟨h.d.more hb, h.x.more hb, h.db, h.xb, h.e0, h.e1⟩
theorem IsT.zero (w : World) (B : Nat) : IsT w B (.slice none 0 0) (.slice none 0 0) [] 0 [] :=
  ⟨Reads.nil_ _ _, Reads.nil_ _ _, Lib.hid (by simp), Lib.hid (by simp), by omega, by omega⟩

theorem exp_any (e : Int) (w : World) (h0 : -9223372036854775808 ≤ e) (h1 : e ≤ 9223372036854775807) :
    Calls Try.prog 77 #[.int .i64 e, .int .i64 64] w fun en w' => en = .returned (.bool (decide (-64 ≤ e) && decide (e ≤ 64))) ∧ w = w' := by
  by_cases ha : -64 ≤ e
  · have t1 : decide (-64 ≤ e) = true := by simpa using ha
    by_cases hb : e ≤ 64
    · have t2 : decide (e ≤ 64) = true := by simpa using hb
      go_enter Try.func77, Try.ntmps77
      go_wp2
      go_ret
      exact ⟨by first | rfl | (rw [t1, t2]; rfl), rfl⟩
    · have t2 : decide (e ≤ 64) = false := by simpa using hb
      go_enter Try.func77, Try.ntmps77
      go_wp2
      go_ret
      exact ⟨by first | rfl | (rw [t1, t2]; rfl), rfl⟩
  · have t1 : decide (-64 ≤ e) = false := by simpa using ha
    go_enter Try.func77, Try.ntmps77
    go_wp2
    go_ret
    exact ⟨by first | rfl | (rw [t1]; rfl), rfl⟩

theorem exp_anyB (e : Int) (w : World) (b : Bool) (hb : (decide (-64 ≤ e) && decide (e ≤ 64)) = b) (h0 : -9223372036854775808 ≤ e) (h1 : e ≤ 9223372036854775807) :
    Calls Try.prog 77 #[.int .i64 e, .int .i64 64] w fun en w' => en = .returned (.bool b) ∧ w = w' := by
  subst hb; exact exp_any e w h0 h1
theorem contains_i8B (xs : List Int) (x : Int) (v : Value) (w : World) (B : Nat) (b : Bool) (hb : xs.contains x = b) (h : Reads w B v (ints .i8 xs)) :
    Calls Try.prog 78 #[v, .int .i8 x] w fun e w' => e = .returned (.bool b) ∧ w = w' := by
  subst hb; exact contains_i8 xs x v w B h

set_option maxHeartbeats 1600000 in
set_option maxRecDepth 100000 in
theorem tmay_any (dims : List Int) (exp : Int) (data : List Int) (dv xv : Value) (w : World) (B : Nat) (hB : B ≤ w.heap.size) (h : IsT w B dv xv dims exp data) :
    Calls Try.prog 69 #[.agg #[dv, .int .i64 exp, xv]] w fun en w' => en = .returned (.bool (mayB dims exp data)) ∧ Below w.heap.size w w' := by
  have hb0 : Below w.heap.size w (w.alloc (.cells #[dv, .int .i64 exp, xv] 40)) := (Below.refl _ _).alloc (Nat.le_refl _) _
  have HI := Lib.hid (h.below (hb0.mono hB))
  have HB0 := Lib.hid hb0
  obtain ⟨A, c, rfl, _, _⟩ := h.d.form
  obtain ⟨A', c', rfl, _, _⟩ := h.x.form
  have he0 := h.e0
  have he1 := h.e1
  have hsb := sizeI_bound dims
  obtain ⟨hs0, hs1⟩ := hsb
  rw [length_ints, length_ints] at *
  clear h hb0
  unfold mayB
  by_cases p1 : 0 < sizeI dims
  · have t1 : decide (0 < sizeI dims) = true := by simpa using p1
    rw [t1]
    by_cases p2 : (data.length : Int) = sizeI dims
    · have t2 : ((data.length : Int) == sizeI dims) = true := by simpa using p2
      rw [t2]
      clear p2
      by_cases p3 : -64 ≤ exp ∧ exp ≤ 64
      · have t3 : (decide (-64 ≤ exp) && decide (exp ≤ 64)) = true := by simpa using p3
        obtain ⟨p3a, p3b⟩ := p3
        have t3a : decide (-64 ≤ exp) = true := by simpa using p3a
        have t3b : decide (exp ≤ 64) = true := by simpa using p3b
        have T3 := Lib.hid t3
        have T3A := Lib.hid t3a
        have T3B := Lib.hid t3b
        clear t3 t3a t3b
        generalize hcc : data.contains (-128) = b
        have HC := Lib.hid hcc
        clear hcc
        cases b with
        | false =>
          go_enter Try.func69, Try.ntmps69
          go_wp2_with fail
          go_quiet (first
            | ((go_at_call 57; exact q_left ((shapemay_any dims _ _ _ (HI.out.d.drewN _) HI.out.db.out))))
            | ((go_at_call 74; exact q_left ((size_any dims _ _ _ (HI.out.d.drewN _) HI.out.db.out))))
            | ((go_at_call 77; exact q_left (exp_anyB exp _ _ T3.out he0 he1)))
            | ((go_at_call 78; exact q_left (contains_i8B data (-128) _ _ _ _ HC.out (HI.out.x.drewN _)))))
          go_wp2
          go_ret
          exact ⟨by rw [T3A.out, T3B.out]; rfl, below_drewN HB0.out _⟩
        | true =>
          go_enter Try.func69, Try.ntmps69
          go_wp2_with fail
          go_quiet (first
            | ((go_at_call 57; exact q_left ((shapemay_any dims _ _ _ (HI.out.d.drewN _) HI.out.db.out))))
            | ((go_at_call 74; exact q_left ((size_any dims _ _ _ (HI.out.d.drewN _) HI.out.db.out))))
            | ((go_at_call 77; exact q_left (exp_anyB exp _ _ T3.out he0 he1)))
            | ((go_at_call 78; exact q_left (contains_i8B data (-128) _ _ _ _ HC.out (HI.out.x.drewN _)))))
          go_wp2
          go_ret
          exact ⟨by rw [T3A.out, T3B.out]; rfl, below_drewN HB0.out _⟩
      · have t3 : (decide (-64 ≤ exp) && decide (exp ≤ 64)) = false := by
          rw [Bool.eq_false_iff]; simpa using p3
        have t4 : ∀ b : Bool, (decide (-64 ≤ exp) && (decide (exp ≤ 64) && b)) = false := by intro b; rw [← Bool.and_assoc, t3]; rfl
        rw [t4]
        have T3 := Lib.hid t3
        clear t4 p3 t3
        go_enter Try.func69, Try.ntmps69
        go_wp2_with fail
        go_quiet (first
          | ((go_at_call 57; exact q_left ((shapemay_any dims _ _ _ (HI.out.d.drewN _) HI.out.db.out))))
          | ((go_at_call 74; exact q_left ((size_any dims _ _ _ (HI.out.d.drewN _) HI.out.db.out))))
          | ((go_at_call 77; exact q_left (exp_anyB exp _ _ T3.out he0 he1)))
          | ((go_at_call 78; exact q_left (contains_i8 data _ _ _ _ (HI.out.x.drewN _)))))
        go_wp2
        go_ret
        exact ⟨rfl, below_drewN HB0.out _⟩
    · have t2 : ((data.length : Int) == sizeI dims) = false := by simpa using p2
      rw [t2]
      clear p2
      go_enter Try.func69, Try.ntmps69
      go_wp2_with fail
      go_quiet (first
        | ((go_at_call 57; exact q_left ((shapemay_any dims _ _ _ (HI.out.d.drewN _) HI.out.db.out))))
        | ((go_at_call 74; exact q_left ((size_any dims _ _ _ (HI.out.d.drewN _) HI.out.db.out))))
        | ((go_at_call 77; exact q_left (exp_any exp _ he0 he1)))
        | ((go_at_call 78; exact q_left (contains_i8 data _ _ _ _ (HI.out.x.drewN _)))))
      go_wp2
      go_ret
      exact ⟨rfl, below_drewN HB0.out _⟩
  · have t1 : decide (0 < sizeI dims) = false := by simpa using p1
    rw [t1]
    go_enter Try.func69, Try.ntmps69
    go_wp2_with fail
    go_quiet ((go_at_call 57; exact q_left ((shapemay_any dims _ _ _ (HI.out.d.drewN _) HI.out.db.out))))
    go_wp2
    go_ret
    exact ⟨rfl, below_drewN HB0.out _⟩
end Go.Proofs.Ytcjpibdgnjncmaa
