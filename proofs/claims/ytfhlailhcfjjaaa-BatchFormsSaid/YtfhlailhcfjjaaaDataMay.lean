/- Contracts of dataset.in, head, size, one, May; slices.Contains at int8. -/
import Derived.Test.YtfhlailhcfjjaaaDataMem
import Derived.Test.YtfhlailhcfjjaaaKept
import Derived.Deep.RegionHeld3
import Derived.Deep.DrawnRows
namespace Go.Proofs.Ytfhlailhcfjjaaa
open Go.RowKit
set_option linter.unusedVariables false
set_option linter.unusedSimpArgs false

theorem din_any (n lo hi : Int) (r : Bool) (hr : inD n lo hi = r) (w : World) : Calls Try.prog 69 #[.int .i64 n, .int .i64 lo, .int .i64 hi] w fun en w' => en = .returned (.bool r) ∧ w = w' := by
  subst hr
  by_cases h0 : lo ≤ n
  · have t0 : decide (lo ≤ n) = true := by simp; omega
    have HT : Hid (inD n lo hi = decide (n ≤ hi)) := Lib.hid (by unfold inD; rw [t0, Bool.true_and])
    go_enter Try.func69, Try.ntmps69
    go_wp2
    go_ret
    exact ⟨by rw [HT.out]; rfl, rfl⟩
  · have t0 : decide (lo ≤ n) = false := by simp; omega
    have HT : Hid (inD n lo hi = false) := Lib.hid (by unfold inD; rw [t0, Bool.false_and])
    go_enter Try.func69, Try.ntmps69
    go_wp2
    go_ret
    exact ⟨by rw [HT.out]; rfl, rfl⟩
/-- only its own variable is new -/
theorem one_alloc (w : World) (o : Obj) : Below w.heap.size w (w.alloc o) := (Below.refl w.heap.size w).alloc (Nat.le_refl _) o
set_option maxHeartbeats 800000 in
theorem dsize_any (a b c ex cl : Int) (lv : Value) (A : Option Addr) (m k : Nat) (hlv : lv = .slice A m k) (w : World) (h1 : -9223372036854775808 ≤ a * b ∧ a * b ≤ 9223372036854775807) (h2 : -9223372036854775808 ≤ a * b * c ∧ a * b * c ≤ 9223372036854775807) :
    Calls Try.prog 41 #[.agg #[.int .i64 a, .int .i64 b, .int .i64 c, .int .i64 ex, .int .i64 cl, lv]] w fun en w' => en = .returned (.int .i64 (a * b * c)) ∧ Below w.heap.size w w' := by
  subst hlv
  obtain ⟨h1, h1'⟩ := h1
  obtain ⟨h2, h2'⟩ := h2
  have hb := Lib.hid (one_alloc w (.cells #[.int .i64 a, .int .i64 b, .int .i64 c, .int .i64 ex, .int .i64 cl, .slice A m k] 33))
  go_enter Try.func41, Try.ntmps41
  go_wp2
  go_ret
  exact ⟨rfl, hb.out⟩
set_option maxHeartbeats 1600000 in
set_option maxRecDepth 100000 in
theorem dhead_any (a b c ex cl : Int) (A : Option Addr) (m k : Nat) (xs : List ExV) (n : Int) (r : Bool) (hr : headI ⟨a, b, c, ex, cl, .slice A m k, xs⟩ n = r) (w : World) :
    Calls Try.prog 40 #[.agg #[.int .i64 a, .int .i64 b, .int .i64 c, .int .i64 ex, .int .i64 cl, .slice A m k], .int .i64 n] w fun en w' => en = .returned (.bool r) ∧ Below w.heap.size w w' := by
  have hb := Lib.hid (one_alloc w (.cells #[.int .i64 a, .int .i64 b, .int .i64 c, .int .i64 ex, .int .i64 cl, .slice A m k] 33))
  have HR := Lib.hid hr
  obtain ⟨r1, e1⟩ : ∃ r, inD a 1 8 = r := ⟨_, rfl⟩
  obtain ⟨r2, e2⟩ : ∃ r, inD b 1 16 = r := ⟨_, rfl⟩
  obtain ⟨r3, e3⟩ : ∃ r, inD c 1 16 = r := ⟨_, rfl⟩
  obtain ⟨r4, e4⟩ : ∃ r, inD ex (-64) 64 = r := ⟨_, rfl⟩
  obtain ⟨r5, e5⟩ : ∃ r, inD cl 2 10 = r := ⟨_, rfl⟩
  obtain ⟨r6, e6⟩ : ∃ r, inD n 1 64 = r := ⟨_, rfl⟩
  have C1 := Lib.hid (din_any a 1 8 r1 e1)
  have C2 := Lib.hid (din_any b 1 16 r2 e2)
  have C3 := Lib.hid (din_any c 1 16 r3 e3)
  have C4 := Lib.hid (din_any ex (-64) 64 r4 e4)
  have C5 := Lib.hid (din_any cl 2 10 r5 e5)
  have C6 := Lib.hid (din_any n 1 64 r6 e6)
  have HQ : Hid (r = (r1 && (r2 && (r3 && (r4 && (r5 && r6)))))) := Lib.hid (by rw [← HR.out]; unfold headI; simp only [e1, e2, e3, e4, e5, e6])
  clear hr e1 e2 e3 e4 e5 e6
  cases r1 with
  | false =>
    go_enter Try.func40, Try.ntmps40
    go_wp2_with fail
    refine (C1.out _).mono ?_
    rintro en w1 ⟨rfl, rfl⟩
    go_wp2
    go_ret
    exact ⟨by rw [HQ.out]; rfl, hb.out⟩
  | true =>
    cases r2 with
    | false =>
      go_enter Try.func40, Try.ntmps40
      go_wp2_with fail
      refine (C1.out _).mono ?_
      rintro en w1 ⟨rfl, rfl⟩
      go_wp2_with fail
      refine (C2.out _).mono ?_
      rintro en w2 ⟨rfl, rfl⟩
      go_wp2
      go_ret
      exact ⟨by rw [HQ.out]; rfl, hb.out⟩
    | true =>
      cases r3 with
      | false =>
        go_enter Try.func40, Try.ntmps40
        go_wp2_with fail
        refine (C1.out _).mono ?_
        rintro en w1 ⟨rfl, rfl⟩
        go_wp2_with fail
        refine (C2.out _).mono ?_
        rintro en w2 ⟨rfl, rfl⟩
        go_wp2_with fail
        refine (C3.out _).mono ?_
        rintro en w3 ⟨rfl, rfl⟩
        go_wp2
        go_ret
        exact ⟨by rw [HQ.out]; rfl, hb.out⟩
      | true =>
        cases r4 with
        | false =>
          go_enter Try.func40, Try.ntmps40
          go_wp2_with fail
          refine (C1.out _).mono ?_
          rintro en w1 ⟨rfl, rfl⟩
          go_wp2_with fail
          refine (C2.out _).mono ?_
          rintro en w2 ⟨rfl, rfl⟩
          go_wp2_with fail
          refine (C3.out _).mono ?_
          rintro en w3 ⟨rfl, rfl⟩
          go_wp2_with fail
          refine (C4.out _).mono ?_
          rintro en w4 ⟨rfl, rfl⟩
          go_wp2
          go_ret
          exact ⟨by rw [HQ.out]; rfl, hb.out⟩
        | true =>
          cases r5 with
          | false =>
            go_enter Try.func40, Try.ntmps40
            go_wp2_with fail
            refine (C1.out _).mono ?_
            rintro en w1 ⟨rfl, rfl⟩
            go_wp2_with fail
            refine (C2.out _).mono ?_
            rintro en w2 ⟨rfl, rfl⟩
            go_wp2_with fail
            refine (C3.out _).mono ?_
            rintro en w3 ⟨rfl, rfl⟩
            go_wp2_with fail
            refine (C4.out _).mono ?_
            rintro en w4 ⟨rfl, rfl⟩
            go_wp2_with fail
            refine (C5.out _).mono ?_
            rintro en w5 ⟨rfl, rfl⟩
            go_wp2
            go_ret
            exact ⟨by rw [HQ.out]; rfl, hb.out⟩
          | true =>
            go_enter Try.func40, Try.ntmps40
            go_wp2_with fail
            refine (C1.out _).mono ?_
            rintro en w1 ⟨rfl, rfl⟩
            go_wp2_with fail
            refine (C2.out _).mono ?_
            rintro en w2 ⟨rfl, rfl⟩
            go_wp2_with fail
            refine (C3.out _).mono ?_
            rintro en w3 ⟨rfl, rfl⟩
            go_wp2_with fail
            refine (C4.out _).mono ?_
            rintro en w4 ⟨rfl, rfl⟩
            go_wp2_with fail
            refine (C5.out _).mono ?_
            rintro en w5 ⟨rfl, rfl⟩
            go_wp2_with fail
            refine (C6.out _).mono ?_
            rintro en w6 ⟨rfl, rfl⟩
            go_wp2
            go_ret
            exact ⟨by rw [HQ.out]; rfl, hb.out⟩
theorem dindex_any (xs : List Int) (v : Value) (x : Int) (w : World) (B : Nat) (h : Reads w B v (ints .i8 xs)) (r : Bool) (hr : xs.contains x = r) :
    Calls Try.prog 81 #[v, .int .i8 x] w fun en w' => (∃ i : Int, en = .returned (.int .i64 i) ∧ decide (0 ≤ i) = r) ∧ w = w' := by
  obtain ⟨A, n, c, rfl, hl, hc, hm, ha⟩ := h
  rw [length_ints] at hl
  unfold maxLen at hm
  have HL := Lib.hid hl
  have HR := Lib.hid hr
  have HN : n ≤ 9223372036854775807 := by omega
  clear hl hr
  go_enter Try.func81, Try.ntmps81
  go_wp2
  go_loopw [8] (fun i wr => ∃ k : Nat, k ≤ n ∧ i = .int .i64 k ∧ Hid ((xs.take k).contains x = false) ∧ wr = w) (fun i _ => n - (intOf i).toNat)
  case atStart => exact ⟨0, by omega, rfl, Lib.hid (by simp), rfl⟩
  case round =>
    obtain ⟨k, hk, rfl, htk, rfl⟩ := hrel
    by_cases hlt : k < n
    · obtain ⟨g, o, rfl, hg, hx⟩ := ha.out (by omega)
      have hl := HL.out
      have c1 := hx k (.int .i8 xs[k]) (ints_at _ _ _ (by omega))
      obtain ⟨y, hy⟩ : ∃ y, xs[k] = y := ⟨_, rfl⟩
      rw [hy] at c1
      have hye : xs[k]? = some y := by rw [List.getElem?_eq_getElem (by omega), hy]
      have HY := Lib.hid hye
      have i1 : (0 : Int) ≤ (k : Int) := by omega
      have i2 : (k : Int) < (n : Int) := by omega
      clear ha hx hl hy hye
      by_cases hxy : x = y
      · have e2 : (x == y) = true := by simpa using hxy
        have HQ : Hid (r = true) := Lib.hid (by
          rw [← HR.out, List.contains_iff_mem, hxy]
          exact List.mem_of_getElem? HY.out)
        clear hxy
        go_wp2
        go_ret
        exact ⟨⟨k, rfl, by rw [HQ.out]; simp⟩, rfl⟩
      · have e2 : (x == y) = false := by simpa using hxy
        have HXY := Lib.hid hxy
        clear hxy
        go_wp2
        go_roundw
        case rel => exact ⟨k + 1, by omega, by go_num, Lib.hid (by
          rw [List.take_add_one, HY.out]
          simp only [Option.toList_some, List.contains_eq_mem, List.mem_append, List.mem_singleton, decide_eq_false_iff_not]
          rintro (h1 | h1)
          · have := htk.out
            simp only [List.contains_eq_mem, decide_eq_false_iff_not] at this
            exact this h1
          · exact HXY.out h1), trivial⟩
        case measure => simp [intOf]; omega
    · have HQ : Hid (r = false) := Lib.hid (by
        rw [← HR.out]
        have := htk.out
        rwa [List.take_of_length_le (by have := HL.out; omega)] at this)
      go_wp2
      go_ret
      exact ⟨⟨-1, rfl, by rw [HQ.out]; rfl⟩, rfl⟩
theorem dcontains_any (xs : List Int) (v : Value) (x : Int) (w : World) (B : Nat) (h : Reads w B v (ints .i8 xs)) (r : Bool) (hr : xs.contains x = r) :
    Calls Try.prog 70 #[v, .int .i8 x] w fun en w' => en = .returned (.bool r) ∧ w = w' := by
  have HC := Lib.hid (dindex_any xs v x w B h r hr)
  obtain ⟨A, c, rfl, _, _⟩ := h.form
  clear h hr
  go_enter Try.func70, Try.ntmps70
  go_wp2_with fail
  refine HC.out.mono ?_
  rintro en w' ⟨⟨i, rfl, hi⟩, rfl⟩
  have HI := Lib.hid hi
  clear hi
  go_wp2
  go_ret
  exact ⟨by rw [← HI.out]; rfl, rfl⟩
set_option maxHeartbeats 1600000 in
set_option maxRecDepth 100000 in
theorem done_any (a b c ex cl : Int) (A : Option Addr) (m k : Nat) (es : List ExV) (Ad : Option Addr) (cd : Nat) (data : List Int) (lab : Int) (w : World) (B : Nat) (hB : B ≤ w.heap.size) (hd : Reads w B (.slice Ad data.length cd) (ints .i8 data)) (hlen : data.length ≤ 140737488351232)
    (h1 : 1 ≤ a * b ∧ a * b ≤ 128) (h2 : 1 ≤ a * b * c ∧ a * b * c ≤ 2048) (hcl : 2 ≤ cl ∧ cl ≤ 10) (r : Bool) (hr : oneI ⟨a, b, c, ex, cl, .slice A m k, es⟩ ⟨.slice Ad data.length cd, data, lab⟩ = r) :
    Calls Try.prog 42 #[.agg #[.int .i64 a, .int .i64 b, .int .i64 c, .int .i64 ex, .int .i64 cl, .slice A m k], .agg #[.slice Ad data.length cd, .int .i64 lab]] w fun en w' => en = .returned (.bool r) ∧ Below w.heap.size w w' := by
  have HSZ : Hid (∀ W, Calls Try.prog 41 #[.agg #[.int .i64 a, .int .i64 b, .int .i64 c, .int .i64 ex, .int .i64 cl, .slice A m k]] W fun en w' => en = .returned (.int .i64 (a * b * c)) ∧ Below W.heap.size W w') :=
    Lib.hid (fun W => dsize_any a b c ex cl _ A m k rfl W (by omega) (by omega))
  obtain ⟨S, hS⟩ : ∃ S, a * b * c = S := ⟨_, rfl⟩
  rw [hS] at HSZ
  obtain ⟨r2, e2⟩ : ∃ x, data.contains (-128) = x := ⟨_, rfl⟩
  obtain ⟨r3, e3⟩ : ∃ x, inD lab 0 (cl - 1) = x := ⟨_, rfl⟩
  have HC : Hid (∀ W, Below w.heap.size w W → Calls Try.prog 70 #[.slice Ad data.length cd, .int .i8 (-128)] W fun en w' => en = .returned (.bool r2) ∧ W = w') :=
    Lib.hid (fun W hW => dcontains_any data _ (-128) W B (hd.below (hW.mono hB)) r2 e2)
  have HI := Lib.hid (din_any lab 0 (cl - 1) r3 e3)
  have HQ : Hid (r = (((data.length : Int) == S) && (!r2 && r3))) := Lib.hid (by rw [← hr]; unfold oneI sizeD; simp only [e2, e3, hS])
  have hb0 := ((Below.refl w.heap.size w).alloc (Nat.le_refl _) (.cells #[.int .i64 a, .int .i64 b, .int .i64 c, .int .i64 ex, .int .i64 cl, .slice A m k] 33)).alloc (by simp) (.cells #[.slice Ad data.length cd, .int .i64 lab] 45)
  have HB := Lib.hid hb0
  have hk1 := (Blk.fresh w 33 [.int .i64 a, .int .i64 b, .int .i64 c, .int .i64 ex, .int .i64 cl, .slice A m k]).alloc (.cells #[.slice Ad data.length cd, .int .i64 lab] 45)
  have hk2 := Blk.fresh (w.alloc (.cells #[.int .i64 a, .int .i64 b, .int .i64 c, .int .i64 ex, .int .i64 cl, .slice A m k] 33)) 45 [.slice Ad data.length cd, .int .i64 lab]
  simp only [World.size_alloc] at hk2
  have K1 := Lib.hid hk1
  have K2 := Lib.hid hk2
  have hw1 : IntKind.i64.wrap (cl - 1) = cl - 1 := IntWalk.i64_in _ (by omega)
  clear hb0 hk1 hk2 hr e2 e3 hS h1 h2 hd hcl
  by_cases hs : (data.length : Int) = S
  · have ts : ((data.length : Int) == S) = true := by simpa using hs
    have HQ2 : Hid (r = (!r2 && r3)) := Lib.hid (by rw [HQ.out, ts, Bool.true_and])
    clear hs HQ
    have HQ := HQ2
    cases r2 with
    | true =>
      go_enter Try.func42, Try.ntmps42
      go_wp2_with fail
      have K1d := Lib.hid K1.out.drew
      have K2d := Lib.hid K2.out.drew
      have HBd := Lib.hid HB.out.drew
      generalize hWW : ((w.alloc (.cells #[.int .i64 a, .int .i64 b, .int .i64 c, .int .i64 ex, .int .i64 cl, .slice A m k] 33)).alloc (.cells #[.slice Ad data.length cd, .int .i64 lab] 45)) = w2 at K1d K2d HBd ⊢
      clear hWW HB K1 K2
      refine wp_region_held_drew (S := (fun w' => Blk w' w.heap.size 33 [.int .i64 a, .int .i64 b, .int .i64 c, .int .i64 ex, .int .i64 cl, .slice A m k] ∧ Blk w' (w.heap.size + 1) 45 [.slice Ad data.length cd, .int .i64 lab])) (by kernel_rfl) (⟨K1d.out, K2d.out⟩) (fun hHeld => ?_)
      refine' wpAnyH_take (i := 0) (v := _) rfl (by kernel_rfl) (by kernel_rfl) (by kernel_rfl) (fun _ _ _ h => h) (Or.inl ⟨by rfl, ?taq1⟩) (by assumption) ?tbq1
      case taq1 =>
        intro wS hSw
        (try dsimp only at hSw)
        (have m0 := hSw.1.cell 0; have m1 := hSw.1.cell 1; have m2 := hSw.1.cell 2; have m3 := hSw.1.cell 3; have m4 := hSw.1.cell 4; have m5 := hSw.1.cell 5; have n0 := hSw.2.cell 0; have n1 := hSw.2.cell 1; simp only [List.getElem?_cons_zero, List.getElem?_cons_succ] at m0 m1 m2 m3 m4 m5 n0 n1; clear hSw; go_simp)
        (try (with_reducible rfl))
      (try simp only [List.getElem_toArray, List.getElem_cons_zero, List.getElem_cons_succ, Act.put, List.setIfInBounds_toArray, List.set_cons_zero, List.set_cons_succ])
      refine' wpAnyH_take (i := 1) (v := _) rfl (by kernel_rfl) (by kernel_rfl) (by kernel_rfl) (fun _ _ _ h => h) (Or.inl ⟨by rfl, ?taq2⟩) (by assumption) ?tbq2
      case taq2 =>
        intro wS hSw
        (try dsimp only at hSw)
        (have m0 := hSw.1.cell 0; have m1 := hSw.1.cell 1; have m2 := hSw.1.cell 2; have m3 := hSw.1.cell 3; have m4 := hSw.1.cell 4; have m5 := hSw.1.cell 5; have n0 := hSw.2.cell 0; have n1 := hSw.2.cell 1; simp only [List.getElem?_cons_zero, List.getElem?_cons_succ] at m0 m1 m2 m3 m4 m5 n0 n1; clear hSw; go_simp)
        (try (with_reducible rfl))
      (try simp only [List.getElem_toArray, List.getElem_cons_zero, List.getElem_cons_succ, Act.put, List.setIfInBounds_toArray, List.set_cons_zero, List.set_cons_succ])
      refine' wpAnyH_take (i := 2) (v := _) rfl (by kernel_rfl) (by kernel_rfl) (by kernel_rfl) (fun _ _ _ h => h) (Or.inl ⟨by rfl, ?taq3⟩) (by assumption) ?tbq3
      case taq3 =>
        intro wS hSw
        (try dsimp only at hSw)
        (have m0 := hSw.1.cell 0; have m1 := hSw.1.cell 1; have m2 := hSw.1.cell 2; have m3 := hSw.1.cell 3; have m4 := hSw.1.cell 4; have m5 := hSw.1.cell 5; have n0 := hSw.2.cell 0; have n1 := hSw.2.cell 1; simp only [List.getElem?_cons_zero, List.getElem?_cons_succ] at m0 m1 m2 m3 m4 m5 n0 n1; clear hSw; go_simp)
        (try (with_reducible rfl))
      (try simp only [List.getElem_toArray, List.getElem_cons_zero, List.getElem_cons_succ, Act.put, List.setIfInBounds_toArray, List.set_cons_zero, List.set_cons_succ])
      refine' wpAnyH_take (i := 3) (v := _) rfl (by kernel_rfl) (by kernel_rfl) (by kernel_rfl) (fun _ _ _ h => h) (Or.inl ⟨by rfl, ?taq4⟩) (by assumption) ?tbq4
      case taq4 =>
        intro wS hSw
        (try dsimp only at hSw)
        (have m0 := hSw.1.cell 0; have m1 := hSw.1.cell 1; have m2 := hSw.1.cell 2; have m3 := hSw.1.cell 3; have m4 := hSw.1.cell 4; have m5 := hSw.1.cell 5; have n0 := hSw.2.cell 0; have n1 := hSw.2.cell 1; simp only [List.getElem?_cons_zero, List.getElem?_cons_succ] at m0 m1 m2 m3 m4 m5 n0 n1; clear hSw; go_simp)
        (try (with_reducible rfl))
      (try simp only [List.getElem_toArray, List.getElem_cons_zero, List.getElem_cons_succ, Act.put, List.setIfInBounds_toArray, List.set_cons_zero, List.set_cons_succ])
      refine wpAnyH_ready (rs := [4]) (by kernel_rfl) (by simp) ?_
      refine AllReadyH.cons rfl (fun K9 hK9 => ?_) AllReadyH.nil
      (try simp only [List.getElem_toArray, List.getElem_cons_zero, List.getElem_cons_succ])
      go_simp
      refine (HSZ.out w2.drew).mono ?_
      rintro en w3 ⟨rfl, hb⟩
      have K13 := Lib.hid (K1d.out.below hb K1d.out.lt)
      have K23 := Lib.hid (K2d.out.below hb K2d.out.lt)
      have HB3 := Lib.hid (HBd.out.trans (hb.mono HBd.out.size))
      clear hb
      refine hK9.out _ _ (⟨K13.out, K23.out⟩) (fun hHeld9 => ?_)
      clear hK9 K9
      (try simp only [List.getElem_toArray, List.getElem_cons_zero, List.getElem_cons_succ, Act.put, List.setIfInBounds_toArray, List.set_cons_zero, List.set_cons_succ])
      refine' wpAnyH_take (i := 5) (v := _) rfl (by kernel_rfl) (by kernel_rfl) (by kernel_rfl) (fun _ _ _ h => h) (Or.inl ⟨by rfl, ?taq5⟩) (by assumption) ?tbq5
      case taq5 =>
        intro wS hSw
        (try dsimp only at hSw)
        (have m0 := hSw.1.cell 0; have m1 := hSw.1.cell 1; have m2 := hSw.1.cell 2; have m3 := hSw.1.cell 3; have m4 := hSw.1.cell 4; have m5 := hSw.1.cell 5; have n0 := hSw.2.cell 0; have n1 := hSw.2.cell 1; simp only [List.getElem?_cons_zero, List.getElem?_cons_succ] at m0 m1 m2 m3 m4 m5 n0 n1; clear hSw; go_simp)
        (try (with_reducible rfl))
      (try simp only [List.getElem_toArray, List.getElem_cons_zero, List.getElem_cons_succ, Act.put, List.setIfInBounds_toArray, List.set_cons_zero, List.set_cons_succ])
      refine' wpAnyH_take (i := 6) (v := _) rfl (by kernel_rfl) (by kernel_rfl) (by kernel_rfl) (fun _ _ _ h => h) (Or.inl ⟨by rfl, ?taq6⟩) (by assumption) ?tbq6
      case taq6 =>
        intro wS hSw
        (try dsimp only at hSw)
        (have m0 := hSw.1.cell 0; have m1 := hSw.1.cell 1; have m2 := hSw.1.cell 2; have m3 := hSw.1.cell 3; have m4 := hSw.1.cell 4; have m5 := hSw.1.cell 5; have n0 := hSw.2.cell 0; have n1 := hSw.2.cell 1; simp only [List.getElem?_cons_zero, List.getElem?_cons_succ] at m0 m1 m2 m3 m4 m5 n0 n1; clear hSw; go_simp)
        (try (with_reducible rfl))
      (try simp only [List.getElem_toArray, List.getElem_cons_zero, List.getElem_cons_succ, Act.put, List.setIfInBounds_toArray, List.set_cons_zero, List.set_cons_succ])
      refine' wpAnyH_take (i := 7) (v := _) rfl (by kernel_rfl) (by kernel_rfl) (by kernel_rfl) (fun _ _ _ h => h) (Or.inl ⟨by rfl, ?taq7⟩) (by assumption) ?tbq7
      case taq7 =>
        intro wS hSw
        (try dsimp only at hSw)
        (have m0 := hSw.1.cell 0; have m1 := hSw.1.cell 1; have m2 := hSw.1.cell 2; have m3 := hSw.1.cell 3; have m4 := hSw.1.cell 4; have m5 := hSw.1.cell 5; have n0 := hSw.2.cell 0; have n1 := hSw.2.cell 1; simp only [List.getElem?_cons_zero, List.getElem?_cons_succ] at m0 m1 m2 m3 m4 m5 n0 n1; clear hSw; go_simp)
        (try (with_reducible rfl))
      (try simp only [List.getElem_toArray, List.getElem_cons_zero, List.getElem_cons_succ, Act.put, List.setIfInBounds_toArray, List.set_cons_zero, List.set_cons_succ])
      refine' wpAnyH_take (i := 8) (v := _) rfl (by kernel_rfl) (by kernel_rfl) (by kernel_rfl) (fun _ _ _ h => h) (Or.inl ⟨by rfl, ?taq8⟩) (by assumption) ?tbq8
      case taq8 =>
        intro wS hSw
        (try dsimp only at hSw)
        (have m0 := hSw.1.cell 0; have m1 := hSw.1.cell 1; have m2 := hSw.1.cell 2; have m3 := hSw.1.cell 3; have m4 := hSw.1.cell 4; have m5 := hSw.1.cell 5; have n0 := hSw.2.cell 0; have n1 := hSw.2.cell 1; simp only [List.getElem?_cons_zero, List.getElem?_cons_succ] at m0 m1 m2 m3 m4 m5 n0 n1; clear hSw; go_simp)
        (try (with_reducible rfl))
      (try simp only [List.getElem_toArray, List.getElem_cons_zero, List.getElem_cons_succ, Act.put, List.setIfInBounds_toArray, List.set_cons_zero, List.set_cons_succ])
      refine wpAnyH_ready (rs := [9]) (by kernel_rfl) (by simp) ?_
      refine AllReadyH.cons rfl (fun K9 hK9 => ?_) AllReadyH.nil
      (try simp only [List.getElem_toArray, List.getElem_cons_zero, List.getElem_cons_succ])
      go_simp
      refine (HC.out _ HB3.out).mono ?_
      rintro en w4 ⟨rfl, rfl⟩
      refine hK9.out _ _ (⟨K13.out, K23.out⟩) (fun hHeld9 => ?_)
      clear hK9 K9
      (try simp only [List.getElem_toArray, List.getElem_cons_zero, List.getElem_cons_succ, Act.put, List.setIfInBounds_toArray, List.set_cons_zero, List.set_cons_succ])
      refine' wpAnyH_take (i := 10) (v := _) rfl (by kernel_rfl) (by kernel_rfl) (by kernel_rfl) (fun _ _ _ h => h) (Or.inl ⟨by rfl, ?taq9⟩) (by assumption) ?tbq9
      case taq9 =>
        intro wS hSw
        (try dsimp only at hSw)
        (have m0 := hSw.1.cell 0; have m1 := hSw.1.cell 1; have m2 := hSw.1.cell 2; have m3 := hSw.1.cell 3; have m4 := hSw.1.cell 4; have m5 := hSw.1.cell 5; have n0 := hSw.2.cell 0; have n1 := hSw.2.cell 1; simp only [List.getElem?_cons_zero, List.getElem?_cons_succ] at m0 m1 m2 m3 m4 m5 n0 n1; clear hSw; go_simp)
        (try (with_reducible rfl))
      (try simp only [List.getElem_toArray, List.getElem_cons_zero, List.getElem_cons_succ, Act.put, List.setIfInBounds_toArray, List.set_cons_zero, List.set_cons_succ])
      refine' wpAnyH_take (i := 11) (v := _) rfl (by kernel_rfl) (by kernel_rfl) (by kernel_rfl) (fun _ _ _ h => h) (Or.inl ⟨by rfl, ?taq10⟩) (by assumption) ?tbq10
      case taq10 =>
        intro wS hSw
        (try dsimp only at hSw)
        (have m0 := hSw.1.cell 0; have m1 := hSw.1.cell 1; have m2 := hSw.1.cell 2; have m3 := hSw.1.cell 3; have m4 := hSw.1.cell 4; have m5 := hSw.1.cell 5; have n0 := hSw.2.cell 0; have n1 := hSw.2.cell 1; simp only [List.getElem?_cons_zero, List.getElem?_cons_succ] at m0 m1 m2 m3 m4 m5 n0 n1; clear hSw; go_simp)
        (try (with_reducible rfl))
      (try simp only [List.getElem_toArray, List.getElem_cons_zero, List.getElem_cons_succ, Act.put, List.setIfInBounds_toArray, List.set_cons_zero, List.set_cons_succ])
      refine' wpAnyH_take (i := 12) (v := _) rfl (by kernel_rfl) (by kernel_rfl) (by kernel_rfl) (fun _ _ _ h => h) (Or.inl ⟨by rfl, ?taq11⟩) (by assumption) ?tbq11
      case taq11 =>
        intro wS hSw
        (try dsimp only at hSw)
        (have m0 := hSw.1.cell 0; have m1 := hSw.1.cell 1; have m2 := hSw.1.cell 2; have m3 := hSw.1.cell 3; have m4 := hSw.1.cell 4; have m5 := hSw.1.cell 5; have n0 := hSw.2.cell 0; have n1 := hSw.2.cell 1; simp only [List.getElem?_cons_zero, List.getElem?_cons_succ] at m0 m1 m2 m3 m4 m5 n0 n1; clear hSw; go_simp)
        (try (with_reducible rfl))
      (try simp only [List.getElem_toArray, List.getElem_cons_zero, List.getElem_cons_succ, Act.put, List.setIfInBounds_toArray, List.set_cons_zero, List.set_cons_succ])
      refine' wpAnyH_take (i := 13) (v := _) rfl (by kernel_rfl) (by kernel_rfl) (by kernel_rfl) (fun _ _ _ h => h) (Or.inr ⟨by rfl, rfl⟩) (by assumption) ?tbq12
      (try simp only [List.getElem_toArray, List.getElem_cons_zero, List.getElem_cons_succ, Act.put, List.setIfInBounds_toArray, List.set_cons_zero, List.set_cons_succ])
      refine' wpAnyH_take (i := 14) (v := _) rfl (by kernel_rfl) (by kernel_rfl) (by kernel_rfl) (fun _ _ _ h => h) (Or.inr ⟨by rfl, rfl⟩) (by assumption) ?tbq13
      (try simp only [List.getElem_toArray, List.getElem_cons_zero, List.getElem_cons_succ, Act.put, List.setIfInBounds_toArray, List.set_cons_zero, List.set_cons_succ])
      refine' wpAnyH_take (i := 15) (v := _) rfl (by kernel_rfl) (by kernel_rfl) (by kernel_rfl) (fun _ _ _ h => h) (Or.inr ⟨by rfl, rfl⟩) (by assumption) ?tbq14
      (try simp only [List.getElem_toArray, List.getElem_cons_zero, List.getElem_cons_succ, Act.put, List.setIfInBounds_toArray, List.set_cons_zero, List.set_cons_succ])
      refine' wpAnyH_take (i := 16) (v := _) rfl (by kernel_rfl) (by kernel_rfl) (by kernel_rfl) (fun _ _ _ h => h) (Or.inr ⟨by rfl, rfl⟩) (by assumption) ?tbq15
      (try simp only [List.getElem_toArray, List.getElem_cons_zero, List.getElem_cons_succ, Act.put, List.setIfInBounds_toArray, List.set_cons_zero, List.set_cons_succ])
      refine' wpAnyH_take (i := 17) (v := _) rfl (by kernel_rfl) (by kernel_rfl) (by kernel_rfl) (fun _ _ _ h => h) (Or.inr ⟨by rfl, rfl⟩) (by assumption) ?tbq16
      (try simp only [List.getElem_toArray, List.getElem_cons_zero, List.getElem_cons_succ, Act.put, List.setIfInBounds_toArray, List.set_cons_zero, List.set_cons_succ])
      refine' wpAnyH_take (i := 18) (v := _) rfl (by kernel_rfl) (by kernel_rfl) (by kernel_rfl) (fun _ _ _ h => h) (Or.inr ⟨by rfl, rfl⟩) (by assumption) ?tbq17
      (try simp only [List.getElem_toArray, List.getElem_cons_zero, List.getElem_cons_succ, Act.put, List.setIfInBounds_toArray, List.set_cons_zero, List.set_cons_succ])
      refine' wpAnyH_take (i := 19) (v := _) rfl (by kernel_rfl) (by kernel_rfl) (by kernel_rfl) (fun _ _ _ h => h) (Or.inl ⟨by rfl, ?taq18⟩) (by assumption) ?tbq18
      case taq18 =>
        intro wS hSw
        (try dsimp only at hSw)
        (have m0 := hSw.1.cell 0; have m1 := hSw.1.cell 1; have m2 := hSw.1.cell 2; have m3 := hSw.1.cell 3; have m4 := hSw.1.cell 4; have m5 := hSw.1.cell 5; have n0 := hSw.2.cell 0; have n1 := hSw.2.cell 1; simp only [List.getElem?_cons_zero, List.getElem?_cons_succ] at m0 m1 m2 m3 m4 m5 n0 n1; clear hSw; go_simp)
        (try (with_reducible rfl))
      (try simp only [List.getElem_toArray, List.getElem_cons_zero, List.getElem_cons_succ, Act.put, List.setIfInBounds_toArray, List.set_cons_zero, List.set_cons_succ])
      refine' wpAnyH_take (i := 20) (v := _) rfl (by kernel_rfl) (by kernel_rfl) (by kernel_rfl) (fun _ _ _ h => h) (Or.inl ⟨by rfl, ?taq19⟩) (by assumption) ?tbq19
      case taq19 =>
        intro wS hSw
        (try dsimp only at hSw)
        (have m0 := hSw.1.cell 0; have m1 := hSw.1.cell 1; have m2 := hSw.1.cell 2; have m3 := hSw.1.cell 3; have m4 := hSw.1.cell 4; have m5 := hSw.1.cell 5; have n0 := hSw.2.cell 0; have n1 := hSw.2.cell 1; simp only [List.getElem?_cons_zero, List.getElem?_cons_succ] at m0 m1 m2 m3 m4 m5 n0 n1; clear hSw; go_simp)
        (try (with_reducible rfl))
      (try simp only [List.getElem_toArray, List.getElem_cons_zero, List.getElem_cons_succ, Act.put, List.setIfInBounds_toArray, List.set_cons_zero, List.set_cons_succ])
      refine wpAnyH_done (by kernel_rfl) ?_ _
      go_wp2
      go_ret
      exact ⟨by rw [HQ.out]; rfl, HB3.out⟩
    | false =>
      go_enter Try.func42, Try.ntmps42
      go_wp2_with fail
      have K1d := Lib.hid K1.out.drew
      have K2d := Lib.hid K2.out.drew
      have HBd := Lib.hid HB.out.drew
      generalize hWW : ((w.alloc (.cells #[.int .i64 a, .int .i64 b, .int .i64 c, .int .i64 ex, .int .i64 cl, .slice A m k] 33)).alloc (.cells #[.slice Ad data.length cd, .int .i64 lab] 45)) = w2 at K1d K2d HBd ⊢
      clear hWW HB K1 K2
      refine wp_region_held_drew (S := (fun w' => Blk w' w.heap.size 33 [.int .i64 a, .int .i64 b, .int .i64 c, .int .i64 ex, .int .i64 cl, .slice A m k] ∧ Blk w' (w.heap.size + 1) 45 [.slice Ad data.length cd, .int .i64 lab])) (by kernel_rfl) (⟨K1d.out, K2d.out⟩) (fun hHeld => ?_)
      refine' wpAnyH_take (i := 0) (v := _) rfl (by kernel_rfl) (by kernel_rfl) (by kernel_rfl) (fun _ _ _ h => h) (Or.inl ⟨by rfl, ?taq20⟩) (by assumption) ?tbq20
      case taq20 =>
        intro wS hSw
        (try dsimp only at hSw)
        (have m0 := hSw.1.cell 0; have m1 := hSw.1.cell 1; have m2 := hSw.1.cell 2; have m3 := hSw.1.cell 3; have m4 := hSw.1.cell 4; have m5 := hSw.1.cell 5; have n0 := hSw.2.cell 0; have n1 := hSw.2.cell 1; simp only [List.getElem?_cons_zero, List.getElem?_cons_succ] at m0 m1 m2 m3 m4 m5 n0 n1; clear hSw; go_simp)
        (try (with_reducible rfl))
      (try simp only [List.getElem_toArray, List.getElem_cons_zero, List.getElem_cons_succ, Act.put, List.setIfInBounds_toArray, List.set_cons_zero, List.set_cons_succ])
      refine' wpAnyH_take (i := 1) (v := _) rfl (by kernel_rfl) (by kernel_rfl) (by kernel_rfl) (fun _ _ _ h => h) (Or.inl ⟨by rfl, ?taq21⟩) (by assumption) ?tbq21
      case taq21 =>
        intro wS hSw
        (try dsimp only at hSw)
        (have m0 := hSw.1.cell 0; have m1 := hSw.1.cell 1; have m2 := hSw.1.cell 2; have m3 := hSw.1.cell 3; have m4 := hSw.1.cell 4; have m5 := hSw.1.cell 5; have n0 := hSw.2.cell 0; have n1 := hSw.2.cell 1; simp only [List.getElem?_cons_zero, List.getElem?_cons_succ] at m0 m1 m2 m3 m4 m5 n0 n1; clear hSw; go_simp)
        (try (with_reducible rfl))
      (try simp only [List.getElem_toArray, List.getElem_cons_zero, List.getElem_cons_succ, Act.put, List.setIfInBounds_toArray, List.set_cons_zero, List.set_cons_succ])
      refine' wpAnyH_take (i := 2) (v := _) rfl (by kernel_rfl) (by kernel_rfl) (by kernel_rfl) (fun _ _ _ h => h) (Or.inl ⟨by rfl, ?taq22⟩) (by assumption) ?tbq22
      case taq22 =>
        intro wS hSw
        (try dsimp only at hSw)
        (have m0 := hSw.1.cell 0; have m1 := hSw.1.cell 1; have m2 := hSw.1.cell 2; have m3 := hSw.1.cell 3; have m4 := hSw.1.cell 4; have m5 := hSw.1.cell 5; have n0 := hSw.2.cell 0; have n1 := hSw.2.cell 1; simp only [List.getElem?_cons_zero, List.getElem?_cons_succ] at m0 m1 m2 m3 m4 m5 n0 n1; clear hSw; go_simp)
        (try (with_reducible rfl))
      (try simp only [List.getElem_toArray, List.getElem_cons_zero, List.getElem_cons_succ, Act.put, List.setIfInBounds_toArray, List.set_cons_zero, List.set_cons_succ])
      refine' wpAnyH_take (i := 3) (v := _) rfl (by kernel_rfl) (by kernel_rfl) (by kernel_rfl) (fun _ _ _ h => h) (Or.inl ⟨by rfl, ?taq23⟩) (by assumption) ?tbq23
      case taq23 =>
        intro wS hSw
        (try dsimp only at hSw)
        (have m0 := hSw.1.cell 0; have m1 := hSw.1.cell 1; have m2 := hSw.1.cell 2; have m3 := hSw.1.cell 3; have m4 := hSw.1.cell 4; have m5 := hSw.1.cell 5; have n0 := hSw.2.cell 0; have n1 := hSw.2.cell 1; simp only [List.getElem?_cons_zero, List.getElem?_cons_succ] at m0 m1 m2 m3 m4 m5 n0 n1; clear hSw; go_simp)
        (try (with_reducible rfl))
      (try simp only [List.getElem_toArray, List.getElem_cons_zero, List.getElem_cons_succ, Act.put, List.setIfInBounds_toArray, List.set_cons_zero, List.set_cons_succ])
      refine wpAnyH_ready (rs := [4]) (by kernel_rfl) (by simp) ?_
      refine AllReadyH.cons rfl (fun K9 hK9 => ?_) AllReadyH.nil
      (try simp only [List.getElem_toArray, List.getElem_cons_zero, List.getElem_cons_succ])
      go_simp
      refine (HSZ.out w2.drew).mono ?_
      rintro en w3 ⟨rfl, hb⟩
      have K13 := Lib.hid (K1d.out.below hb K1d.out.lt)
      have K23 := Lib.hid (K2d.out.below hb K2d.out.lt)
      have HB3 := Lib.hid (HBd.out.trans (hb.mono HBd.out.size))
      clear hb
      refine hK9.out _ _ (⟨K13.out, K23.out⟩) (fun hHeld9 => ?_)
      clear hK9 K9
      (try simp only [List.getElem_toArray, List.getElem_cons_zero, List.getElem_cons_succ, Act.put, List.setIfInBounds_toArray, List.set_cons_zero, List.set_cons_succ])
      refine' wpAnyH_take (i := 5) (v := _) rfl (by kernel_rfl) (by kernel_rfl) (by kernel_rfl) (fun _ _ _ h => h) (Or.inl ⟨by rfl, ?taq24⟩) (by assumption) ?tbq24
      case taq24 =>
        intro wS hSw
        (try dsimp only at hSw)
        (have m0 := hSw.1.cell 0; have m1 := hSw.1.cell 1; have m2 := hSw.1.cell 2; have m3 := hSw.1.cell 3; have m4 := hSw.1.cell 4; have m5 := hSw.1.cell 5; have n0 := hSw.2.cell 0; have n1 := hSw.2.cell 1; simp only [List.getElem?_cons_zero, List.getElem?_cons_succ] at m0 m1 m2 m3 m4 m5 n0 n1; clear hSw; go_simp)
        (try (with_reducible rfl))
      (try simp only [List.getElem_toArray, List.getElem_cons_zero, List.getElem_cons_succ, Act.put, List.setIfInBounds_toArray, List.set_cons_zero, List.set_cons_succ])
      refine' wpAnyH_take (i := 6) (v := _) rfl (by kernel_rfl) (by kernel_rfl) (by kernel_rfl) (fun _ _ _ h => h) (Or.inl ⟨by rfl, ?taq25⟩) (by assumption) ?tbq25
      case taq25 =>
        intro wS hSw
        (try dsimp only at hSw)
        (have m0 := hSw.1.cell 0; have m1 := hSw.1.cell 1; have m2 := hSw.1.cell 2; have m3 := hSw.1.cell 3; have m4 := hSw.1.cell 4; have m5 := hSw.1.cell 5; have n0 := hSw.2.cell 0; have n1 := hSw.2.cell 1; simp only [List.getElem?_cons_zero, List.getElem?_cons_succ] at m0 m1 m2 m3 m4 m5 n0 n1; clear hSw; go_simp)
        (try (with_reducible rfl))
      (try simp only [List.getElem_toArray, List.getElem_cons_zero, List.getElem_cons_succ, Act.put, List.setIfInBounds_toArray, List.set_cons_zero, List.set_cons_succ])
      refine' wpAnyH_take (i := 7) (v := _) rfl (by kernel_rfl) (by kernel_rfl) (by kernel_rfl) (fun _ _ _ h => h) (Or.inl ⟨by rfl, ?taq26⟩) (by assumption) ?tbq26
      case taq26 =>
        intro wS hSw
        (try dsimp only at hSw)
        (have m0 := hSw.1.cell 0; have m1 := hSw.1.cell 1; have m2 := hSw.1.cell 2; have m3 := hSw.1.cell 3; have m4 := hSw.1.cell 4; have m5 := hSw.1.cell 5; have n0 := hSw.2.cell 0; have n1 := hSw.2.cell 1; simp only [List.getElem?_cons_zero, List.getElem?_cons_succ] at m0 m1 m2 m3 m4 m5 n0 n1; clear hSw; go_simp)
        (try (with_reducible rfl))
      (try simp only [List.getElem_toArray, List.getElem_cons_zero, List.getElem_cons_succ, Act.put, List.setIfInBounds_toArray, List.set_cons_zero, List.set_cons_succ])
      refine' wpAnyH_take (i := 8) (v := _) rfl (by kernel_rfl) (by kernel_rfl) (by kernel_rfl) (fun _ _ _ h => h) (Or.inl ⟨by rfl, ?taq27⟩) (by assumption) ?tbq27
      case taq27 =>
        intro wS hSw
        (try dsimp only at hSw)
        (have m0 := hSw.1.cell 0; have m1 := hSw.1.cell 1; have m2 := hSw.1.cell 2; have m3 := hSw.1.cell 3; have m4 := hSw.1.cell 4; have m5 := hSw.1.cell 5; have n0 := hSw.2.cell 0; have n1 := hSw.2.cell 1; simp only [List.getElem?_cons_zero, List.getElem?_cons_succ] at m0 m1 m2 m3 m4 m5 n0 n1; clear hSw; go_simp)
        (try (with_reducible rfl))
      (try simp only [List.getElem_toArray, List.getElem_cons_zero, List.getElem_cons_succ, Act.put, List.setIfInBounds_toArray, List.set_cons_zero, List.set_cons_succ])
      refine wpAnyH_ready (rs := [9]) (by kernel_rfl) (by simp) ?_
      refine AllReadyH.cons rfl (fun K9 hK9 => ?_) AllReadyH.nil
      (try simp only [List.getElem_toArray, List.getElem_cons_zero, List.getElem_cons_succ])
      go_simp
      refine (HC.out _ HB3.out).mono ?_
      rintro en w4 ⟨rfl, rfl⟩
      refine hK9.out _ _ (⟨K13.out, K23.out⟩) (fun hHeld9 => ?_)
      clear hK9 K9
      (try simp only [List.getElem_toArray, List.getElem_cons_zero, List.getElem_cons_succ, Act.put, List.setIfInBounds_toArray, List.set_cons_zero, List.set_cons_succ])
      refine' wpAnyH_take (i := 10) (v := _) rfl (by kernel_rfl) (by kernel_rfl) (by kernel_rfl) (fun _ _ _ h => h) (Or.inl ⟨by rfl, ?taq28⟩) (by assumption) ?tbq28
      case taq28 =>
        intro wS hSw
        (try dsimp only at hSw)
        (have m0 := hSw.1.cell 0; have m1 := hSw.1.cell 1; have m2 := hSw.1.cell 2; have m3 := hSw.1.cell 3; have m4 := hSw.1.cell 4; have m5 := hSw.1.cell 5; have n0 := hSw.2.cell 0; have n1 := hSw.2.cell 1; simp only [List.getElem?_cons_zero, List.getElem?_cons_succ] at m0 m1 m2 m3 m4 m5 n0 n1; clear hSw; go_simp)
        (try (with_reducible rfl))
      (try simp only [List.getElem_toArray, List.getElem_cons_zero, List.getElem_cons_succ, Act.put, List.setIfInBounds_toArray, List.set_cons_zero, List.set_cons_succ])
      refine' wpAnyH_take (i := 11) (v := _) rfl (by kernel_rfl) (by kernel_rfl) (by kernel_rfl) (fun _ _ _ h => h) (Or.inl ⟨by rfl, ?taq29⟩) (by assumption) ?tbq29
      case taq29 =>
        intro wS hSw
        (try dsimp only at hSw)
        (have m0 := hSw.1.cell 0; have m1 := hSw.1.cell 1; have m2 := hSw.1.cell 2; have m3 := hSw.1.cell 3; have m4 := hSw.1.cell 4; have m5 := hSw.1.cell 5; have n0 := hSw.2.cell 0; have n1 := hSw.2.cell 1; simp only [List.getElem?_cons_zero, List.getElem?_cons_succ] at m0 m1 m2 m3 m4 m5 n0 n1; clear hSw; go_simp)
        (try (with_reducible rfl))
      (try simp only [List.getElem_toArray, List.getElem_cons_zero, List.getElem_cons_succ, Act.put, List.setIfInBounds_toArray, List.set_cons_zero, List.set_cons_succ])
      refine' wpAnyH_take (i := 12) (v := _) rfl (by kernel_rfl) (by kernel_rfl) (by kernel_rfl) (fun _ _ _ h => h) (Or.inl ⟨by rfl, ?taq30⟩) (by assumption) ?tbq30
      case taq30 =>
        intro wS hSw
        (try dsimp only at hSw)
        (have m0 := hSw.1.cell 0; have m1 := hSw.1.cell 1; have m2 := hSw.1.cell 2; have m3 := hSw.1.cell 3; have m4 := hSw.1.cell 4; have m5 := hSw.1.cell 5; have n0 := hSw.2.cell 0; have n1 := hSw.2.cell 1; simp only [List.getElem?_cons_zero, List.getElem?_cons_succ] at m0 m1 m2 m3 m4 m5 n0 n1; clear hSw; go_simp)
        (try (with_reducible rfl))
      (try simp only [List.getElem_toArray, List.getElem_cons_zero, List.getElem_cons_succ, Act.put, List.setIfInBounds_toArray, List.set_cons_zero, List.set_cons_succ])
      refine' wpAnyH_take (i := 13) (v := _) rfl (by kernel_rfl) (by kernel_rfl) (by kernel_rfl) (fun _ _ _ h => h) (Or.inl ⟨by rfl, ?taq31⟩) (by assumption) ?tbq31
      case taq31 =>
        intro wS hSw
        (try dsimp only at hSw)
        (have m0 := hSw.1.cell 0; have m1 := hSw.1.cell 1; have m2 := hSw.1.cell 2; have m3 := hSw.1.cell 3; have m4 := hSw.1.cell 4; have m5 := hSw.1.cell 5; have n0 := hSw.2.cell 0; have n1 := hSw.2.cell 1; simp only [List.getElem?_cons_zero, List.getElem?_cons_succ] at m0 m1 m2 m3 m4 m5 n0 n1; clear hSw; go_simp)
        (try (with_reducible rfl))
      (try simp only [List.getElem_toArray, List.getElem_cons_zero, List.getElem_cons_succ, Act.put, List.setIfInBounds_toArray, List.set_cons_zero, List.set_cons_succ])
      refine' wpAnyH_take (i := 14) (v := _) rfl (by kernel_rfl) (by kernel_rfl) (by kernel_rfl) (fun _ _ _ h => h) (Or.inl ⟨by rfl, ?taq32⟩) (by assumption) ?tbq32
      case taq32 =>
        intro wS hSw
        (try dsimp only at hSw)
        (have m0 := hSw.1.cell 0; have m1 := hSw.1.cell 1; have m2 := hSw.1.cell 2; have m3 := hSw.1.cell 3; have m4 := hSw.1.cell 4; have m5 := hSw.1.cell 5; have n0 := hSw.2.cell 0; have n1 := hSw.2.cell 1; simp only [List.getElem?_cons_zero, List.getElem?_cons_succ] at m0 m1 m2 m3 m4 m5 n0 n1; clear hSw; go_simp)
        (try (with_reducible rfl))
      (try simp only [List.getElem_toArray, List.getElem_cons_zero, List.getElem_cons_succ, Act.put, List.setIfInBounds_toArray, List.set_cons_zero, List.set_cons_succ])
      refine' wpAnyH_take (i := 15) (v := _) rfl (by kernel_rfl) (by kernel_rfl) (by kernel_rfl) (fun _ _ _ h => h) (Or.inl ⟨by rfl, ?taq33⟩) (by assumption) ?tbq33
      case taq33 =>
        intro wS hSw
        (try dsimp only at hSw)
        (have m0 := hSw.1.cell 0; have m1 := hSw.1.cell 1; have m2 := hSw.1.cell 2; have m3 := hSw.1.cell 3; have m4 := hSw.1.cell 4; have m5 := hSw.1.cell 5; have n0 := hSw.2.cell 0; have n1 := hSw.2.cell 1; simp only [List.getElem?_cons_zero, List.getElem?_cons_succ] at m0 m1 m2 m3 m4 m5 n0 n1; clear hSw; go_simp)
        (try (with_reducible rfl))
      (try simp only [List.getElem_toArray, List.getElem_cons_zero, List.getElem_cons_succ, Act.put, List.setIfInBounds_toArray, List.set_cons_zero, List.set_cons_succ])
      refine' wpAnyH_take (i := 16) (v := _) rfl (by kernel_rfl) (by kernel_rfl) (by kernel_rfl) (fun _ _ _ h => h) (Or.inl ⟨by rfl, ?taq34⟩) (by assumption) ?tbq34
      case taq34 =>
        intro wS hSw
        (try dsimp only at hSw)
        (have m0 := hSw.1.cell 0; have m1 := hSw.1.cell 1; have m2 := hSw.1.cell 2; have m3 := hSw.1.cell 3; have m4 := hSw.1.cell 4; have m5 := hSw.1.cell 5; have n0 := hSw.2.cell 0; have n1 := hSw.2.cell 1; simp only [List.getElem?_cons_zero, List.getElem?_cons_succ] at m0 m1 m2 m3 m4 m5 n0 n1; clear hSw; go_simp)
        (try (with_reducible rfl))
      (try simp only [List.getElem_toArray, List.getElem_cons_zero, List.getElem_cons_succ, Act.put, List.setIfInBounds_toArray, List.set_cons_zero, List.set_cons_succ])
      refine' wpAnyH_take (i := 17) (v := _) rfl (by kernel_rfl) (by kernel_rfl) (by kernel_rfl) (fun _ _ _ h => h) (Or.inl ⟨by rfl, ?taq35⟩) (by assumption) ?tbq35
      case taq35 =>
        intro wS hSw
        (try dsimp only at hSw)
        (have m0 := hSw.1.cell 0; have m1 := hSw.1.cell 1; have m2 := hSw.1.cell 2; have m3 := hSw.1.cell 3; have m4 := hSw.1.cell 4; have m5 := hSw.1.cell 5; have n0 := hSw.2.cell 0; have n1 := hSw.2.cell 1; simp only [List.getElem?_cons_zero, List.getElem?_cons_succ] at m0 m1 m2 m3 m4 m5 n0 n1; clear hSw; go_simp)
        (try (with_reducible rfl))
      (try simp only [List.getElem_toArray, List.getElem_cons_zero, List.getElem_cons_succ, Act.put, List.setIfInBounds_toArray, List.set_cons_zero, List.set_cons_succ])
      refine wpAnyH_ready (rs := [18]) (by kernel_rfl) (by simp) ?_
      refine AllReadyH.cons rfl (fun K9 hK9 => ?_) AllReadyH.nil
      (try simp only [List.getElem_toArray, List.getElem_cons_zero, List.getElem_cons_succ])
      go_simp
      refine (HI.out _).mono ?_
      rintro en w5 ⟨rfl, rfl⟩
      refine hK9.out _ _ (⟨K13.out, K23.out⟩) (fun hHeld9 => ?_)
      clear hK9 K9
      (try simp only [List.getElem_toArray, List.getElem_cons_zero, List.getElem_cons_succ, Act.put, List.setIfInBounds_toArray, List.set_cons_zero, List.set_cons_succ])
      refine' wpAnyH_take (i := 19) (v := _) rfl (by kernel_rfl) (by kernel_rfl) (by kernel_rfl) (fun _ _ _ h => h) (Or.inl ⟨by rfl, ?taq36⟩) (by assumption) ?tbq36
      case taq36 =>
        intro wS hSw
        (try dsimp only at hSw)
        (have m0 := hSw.1.cell 0; have m1 := hSw.1.cell 1; have m2 := hSw.1.cell 2; have m3 := hSw.1.cell 3; have m4 := hSw.1.cell 4; have m5 := hSw.1.cell 5; have n0 := hSw.2.cell 0; have n1 := hSw.2.cell 1; simp only [List.getElem?_cons_zero, List.getElem?_cons_succ] at m0 m1 m2 m3 m4 m5 n0 n1; clear hSw; go_simp)
        (try (with_reducible rfl))
      (try simp only [List.getElem_toArray, List.getElem_cons_zero, List.getElem_cons_succ, Act.put, List.setIfInBounds_toArray, List.set_cons_zero, List.set_cons_succ])
      refine' wpAnyH_take (i := 20) (v := _) rfl (by kernel_rfl) (by kernel_rfl) (by kernel_rfl) (fun _ _ _ h => h) (Or.inl ⟨by rfl, ?taq37⟩) (by assumption) ?tbq37
      case taq37 =>
        intro wS hSw
        (try dsimp only at hSw)
        (have m0 := hSw.1.cell 0; have m1 := hSw.1.cell 1; have m2 := hSw.1.cell 2; have m3 := hSw.1.cell 3; have m4 := hSw.1.cell 4; have m5 := hSw.1.cell 5; have n0 := hSw.2.cell 0; have n1 := hSw.2.cell 1; simp only [List.getElem?_cons_zero, List.getElem?_cons_succ] at m0 m1 m2 m3 m4 m5 n0 n1; clear hSw; go_simp)
        (try (with_reducible rfl))
      (try simp only [List.getElem_toArray, List.getElem_cons_zero, List.getElem_cons_succ, Act.put, List.setIfInBounds_toArray, List.set_cons_zero, List.set_cons_succ])
      refine wpAnyH_done (by kernel_rfl) ?_ _
      go_wp2
      go_ret
      exact ⟨by rw [HQ.out]; rfl, HB3.out⟩
  · have ts : ((data.length : Int) == S) = false := by simpa using hs
    have HQ2 : Hid (r = false) := Lib.hid (by rw [HQ.out, ts, Bool.false_and])
    clear hs HQ
    have HQ := HQ2
    go_enter Try.func42, Try.ntmps42
    go_wp2_with fail
    have K1d := Lib.hid K1.out.drew
    have K2d := Lib.hid K2.out.drew
    have HBd := Lib.hid HB.out.drew
    generalize hWW : ((w.alloc (.cells #[.int .i64 a, .int .i64 b, .int .i64 c, .int .i64 ex, .int .i64 cl, .slice A m k] 33)).alloc (.cells #[.slice Ad data.length cd, .int .i64 lab] 45)) = w2 at K1d K2d HBd ⊢
    clear hWW HB K1 K2
    refine wp_region_held_drew (S := (fun w' => Blk w' w.heap.size 33 [.int .i64 a, .int .i64 b, .int .i64 c, .int .i64 ex, .int .i64 cl, .slice A m k] ∧ Blk w' (w.heap.size + 1) 45 [.slice Ad data.length cd, .int .i64 lab])) (by kernel_rfl) (⟨K1d.out, K2d.out⟩) (fun hHeld => ?_)
    refine' wpAnyH_take (i := 0) (v := _) rfl (by kernel_rfl) (by kernel_rfl) (by kernel_rfl) (fun _ _ _ h => h) (Or.inl ⟨by rfl, ?taq38⟩) (by assumption) ?tbq38
    case taq38 =>
      intro wS hSw
      (try dsimp only at hSw)
      (have m0 := hSw.1.cell 0; have m1 := hSw.1.cell 1; have m2 := hSw.1.cell 2; have m3 := hSw.1.cell 3; have m4 := hSw.1.cell 4; have m5 := hSw.1.cell 5; have n0 := hSw.2.cell 0; have n1 := hSw.2.cell 1; simp only [List.getElem?_cons_zero, List.getElem?_cons_succ] at m0 m1 m2 m3 m4 m5 n0 n1; clear hSw; go_simp)
      (try (with_reducible rfl))
    (try simp only [List.getElem_toArray, List.getElem_cons_zero, List.getElem_cons_succ, Act.put, List.setIfInBounds_toArray, List.set_cons_zero, List.set_cons_succ])
    refine' wpAnyH_take (i := 1) (v := _) rfl (by kernel_rfl) (by kernel_rfl) (by kernel_rfl) (fun _ _ _ h => h) (Or.inl ⟨by rfl, ?taq39⟩) (by assumption) ?tbq39
    case taq39 =>
      intro wS hSw
      (try dsimp only at hSw)
      (have m0 := hSw.1.cell 0; have m1 := hSw.1.cell 1; have m2 := hSw.1.cell 2; have m3 := hSw.1.cell 3; have m4 := hSw.1.cell 4; have m5 := hSw.1.cell 5; have n0 := hSw.2.cell 0; have n1 := hSw.2.cell 1; simp only [List.getElem?_cons_zero, List.getElem?_cons_succ] at m0 m1 m2 m3 m4 m5 n0 n1; clear hSw; go_simp)
      (try (with_reducible rfl))
    (try simp only [List.getElem_toArray, List.getElem_cons_zero, List.getElem_cons_succ, Act.put, List.setIfInBounds_toArray, List.set_cons_zero, List.set_cons_succ])
    refine' wpAnyH_take (i := 2) (v := _) rfl (by kernel_rfl) (by kernel_rfl) (by kernel_rfl) (fun _ _ _ h => h) (Or.inl ⟨by rfl, ?taq40⟩) (by assumption) ?tbq40
    case taq40 =>
      intro wS hSw
      (try dsimp only at hSw)
      (have m0 := hSw.1.cell 0; have m1 := hSw.1.cell 1; have m2 := hSw.1.cell 2; have m3 := hSw.1.cell 3; have m4 := hSw.1.cell 4; have m5 := hSw.1.cell 5; have n0 := hSw.2.cell 0; have n1 := hSw.2.cell 1; simp only [List.getElem?_cons_zero, List.getElem?_cons_succ] at m0 m1 m2 m3 m4 m5 n0 n1; clear hSw; go_simp)
      (try (with_reducible rfl))
    (try simp only [List.getElem_toArray, List.getElem_cons_zero, List.getElem_cons_succ, Act.put, List.setIfInBounds_toArray, List.set_cons_zero, List.set_cons_succ])
    refine' wpAnyH_take (i := 3) (v := _) rfl (by kernel_rfl) (by kernel_rfl) (by kernel_rfl) (fun _ _ _ h => h) (Or.inl ⟨by rfl, ?taq41⟩) (by assumption) ?tbq41
    case taq41 =>
      intro wS hSw
      (try dsimp only at hSw)
      (have m0 := hSw.1.cell 0; have m1 := hSw.1.cell 1; have m2 := hSw.1.cell 2; have m3 := hSw.1.cell 3; have m4 := hSw.1.cell 4; have m5 := hSw.1.cell 5; have n0 := hSw.2.cell 0; have n1 := hSw.2.cell 1; simp only [List.getElem?_cons_zero, List.getElem?_cons_succ] at m0 m1 m2 m3 m4 m5 n0 n1; clear hSw; go_simp)
      (try (with_reducible rfl))
    (try simp only [List.getElem_toArray, List.getElem_cons_zero, List.getElem_cons_succ, Act.put, List.setIfInBounds_toArray, List.set_cons_zero, List.set_cons_succ])
    refine wpAnyH_ready (rs := [4]) (by kernel_rfl) (by simp) ?_
    refine AllReadyH.cons rfl (fun K9 hK9 => ?_) AllReadyH.nil
    (try simp only [List.getElem_toArray, List.getElem_cons_zero, List.getElem_cons_succ])
    go_simp
    refine (HSZ.out w2.drew).mono ?_
    rintro en w3 ⟨rfl, hb⟩
    have K13 := Lib.hid (K1d.out.below hb K1d.out.lt)
    have K23 := Lib.hid (K2d.out.below hb K2d.out.lt)
    have HB3 := Lib.hid (HBd.out.trans (hb.mono HBd.out.size))
    clear hb
    refine hK9.out _ _ (⟨K13.out, K23.out⟩) (fun hHeld9 => ?_)
    clear hK9 K9
    (try simp only [List.getElem_toArray, List.getElem_cons_zero, List.getElem_cons_succ, Act.put, List.setIfInBounds_toArray, List.set_cons_zero, List.set_cons_succ])
    refine' wpAnyH_take (i := 5) (v := _) rfl (by kernel_rfl) (by kernel_rfl) (by kernel_rfl) (fun _ _ _ h => h) (Or.inl ⟨by rfl, ?taq42⟩) (by assumption) ?tbq42
    case taq42 =>
      intro wS hSw
      (try dsimp only at hSw)
      (have m0 := hSw.1.cell 0; have m1 := hSw.1.cell 1; have m2 := hSw.1.cell 2; have m3 := hSw.1.cell 3; have m4 := hSw.1.cell 4; have m5 := hSw.1.cell 5; have n0 := hSw.2.cell 0; have n1 := hSw.2.cell 1; simp only [List.getElem?_cons_zero, List.getElem?_cons_succ] at m0 m1 m2 m3 m4 m5 n0 n1; clear hSw; go_simp)
      (try (with_reducible rfl))
    (try simp only [List.getElem_toArray, List.getElem_cons_zero, List.getElem_cons_succ, Act.put, List.setIfInBounds_toArray, List.set_cons_zero, List.set_cons_succ])
    refine' wpAnyH_take (i := 6) (v := _) rfl (by kernel_rfl) (by kernel_rfl) (by kernel_rfl) (fun _ _ _ h => h) (Or.inl ⟨by rfl, ?taq43⟩) (by assumption) ?tbq43
    case taq43 =>
      intro wS hSw
      (try dsimp only at hSw)
      (have m0 := hSw.1.cell 0; have m1 := hSw.1.cell 1; have m2 := hSw.1.cell 2; have m3 := hSw.1.cell 3; have m4 := hSw.1.cell 4; have m5 := hSw.1.cell 5; have n0 := hSw.2.cell 0; have n1 := hSw.2.cell 1; simp only [List.getElem?_cons_zero, List.getElem?_cons_succ] at m0 m1 m2 m3 m4 m5 n0 n1; clear hSw; go_simp)
      (try (with_reducible rfl))
    (try simp only [List.getElem_toArray, List.getElem_cons_zero, List.getElem_cons_succ, Act.put, List.setIfInBounds_toArray, List.set_cons_zero, List.set_cons_succ])
    refine' wpAnyH_take (i := 7) (v := _) rfl (by kernel_rfl) (by kernel_rfl) (by kernel_rfl) (fun _ _ _ h => h) (Or.inr ⟨by rfl, rfl⟩) (by assumption) ?tbq44
    (try simp only [List.getElem_toArray, List.getElem_cons_zero, List.getElem_cons_succ, Act.put, List.setIfInBounds_toArray, List.set_cons_zero, List.set_cons_succ])
    refine' wpAnyH_take (i := 8) (v := _) rfl (by kernel_rfl) (by kernel_rfl) (by kernel_rfl) (fun _ _ _ h => h) (Or.inr ⟨by rfl, rfl⟩) (by assumption) ?tbq45
    (try simp only [List.getElem_toArray, List.getElem_cons_zero, List.getElem_cons_succ, Act.put, List.setIfInBounds_toArray, List.set_cons_zero, List.set_cons_succ])
    refine' wpAnyH_take (i := 9) (v := _) rfl (by kernel_rfl) (by kernel_rfl) (by kernel_rfl) (fun _ _ _ h => h) (Or.inr ⟨by rfl, rfl⟩) (by assumption) ?tbq46
    (try simp only [List.getElem_toArray, List.getElem_cons_zero, List.getElem_cons_succ, Act.put, List.setIfInBounds_toArray, List.set_cons_zero, List.set_cons_succ])
    refine' wpAnyH_take (i := 10) (v := _) rfl (by kernel_rfl) (by kernel_rfl) (by kernel_rfl) (fun _ _ _ h => h) (Or.inr ⟨by rfl, rfl⟩) (by assumption) ?tbq47
    (try simp only [List.getElem_toArray, List.getElem_cons_zero, List.getElem_cons_succ, Act.put, List.setIfInBounds_toArray, List.set_cons_zero, List.set_cons_succ])
    refine' wpAnyH_take (i := 11) (v := _) rfl (by kernel_rfl) (by kernel_rfl) (by kernel_rfl) (fun _ _ _ h => h) (Or.inl ⟨by rfl, ?taq48⟩) (by assumption) ?tbq48
    case taq48 =>
      intro wS hSw
      (try dsimp only at hSw)
      (have m0 := hSw.1.cell 0; have m1 := hSw.1.cell 1; have m2 := hSw.1.cell 2; have m3 := hSw.1.cell 3; have m4 := hSw.1.cell 4; have m5 := hSw.1.cell 5; have n0 := hSw.2.cell 0; have n1 := hSw.2.cell 1; simp only [List.getElem?_cons_zero, List.getElem?_cons_succ] at m0 m1 m2 m3 m4 m5 n0 n1; clear hSw; go_simp)
      (try (with_reducible rfl))
    (try simp only [List.getElem_toArray, List.getElem_cons_zero, List.getElem_cons_succ, Act.put, List.setIfInBounds_toArray, List.set_cons_zero, List.set_cons_succ])
    refine' wpAnyH_take (i := 12) (v := _) rfl (by kernel_rfl) (by kernel_rfl) (by kernel_rfl) (fun _ _ _ h => h) (Or.inl ⟨by rfl, ?taq49⟩) (by assumption) ?tbq49
    case taq49 =>
      intro wS hSw
      (try dsimp only at hSw)
      (have m0 := hSw.1.cell 0; have m1 := hSw.1.cell 1; have m2 := hSw.1.cell 2; have m3 := hSw.1.cell 3; have m4 := hSw.1.cell 4; have m5 := hSw.1.cell 5; have n0 := hSw.2.cell 0; have n1 := hSw.2.cell 1; simp only [List.getElem?_cons_zero, List.getElem?_cons_succ] at m0 m1 m2 m3 m4 m5 n0 n1; clear hSw; go_simp)
      (try (with_reducible rfl))
    (try simp only [List.getElem_toArray, List.getElem_cons_zero, List.getElem_cons_succ, Act.put, List.setIfInBounds_toArray, List.set_cons_zero, List.set_cons_succ])
    refine' wpAnyH_take (i := 13) (v := _) rfl (by kernel_rfl) (by kernel_rfl) (by kernel_rfl) (fun _ _ _ h => h) (Or.inr ⟨by rfl, rfl⟩) (by assumption) ?tbq50
    (try simp only [List.getElem_toArray, List.getElem_cons_zero, List.getElem_cons_succ, Act.put, List.setIfInBounds_toArray, List.set_cons_zero, List.set_cons_succ])
    refine' wpAnyH_take (i := 14) (v := _) rfl (by kernel_rfl) (by kernel_rfl) (by kernel_rfl) (fun _ _ _ h => h) (Or.inr ⟨by rfl, rfl⟩) (by assumption) ?tbq51
    (try simp only [List.getElem_toArray, List.getElem_cons_zero, List.getElem_cons_succ, Act.put, List.setIfInBounds_toArray, List.set_cons_zero, List.set_cons_succ])
    refine' wpAnyH_take (i := 15) (v := _) rfl (by kernel_rfl) (by kernel_rfl) (by kernel_rfl) (fun _ _ _ h => h) (Or.inr ⟨by rfl, rfl⟩) (by assumption) ?tbq52
    (try simp only [List.getElem_toArray, List.getElem_cons_zero, List.getElem_cons_succ, Act.put, List.setIfInBounds_toArray, List.set_cons_zero, List.set_cons_succ])
    refine' wpAnyH_take (i := 16) (v := _) rfl (by kernel_rfl) (by kernel_rfl) (by kernel_rfl) (fun _ _ _ h => h) (Or.inr ⟨by rfl, rfl⟩) (by assumption) ?tbq53
    (try simp only [List.getElem_toArray, List.getElem_cons_zero, List.getElem_cons_succ, Act.put, List.setIfInBounds_toArray, List.set_cons_zero, List.set_cons_succ])
    refine' wpAnyH_take (i := 17) (v := _) rfl (by kernel_rfl) (by kernel_rfl) (by kernel_rfl) (fun _ _ _ h => h) (Or.inr ⟨by rfl, rfl⟩) (by assumption) ?tbq54
    (try simp only [List.getElem_toArray, List.getElem_cons_zero, List.getElem_cons_succ, Act.put, List.setIfInBounds_toArray, List.set_cons_zero, List.set_cons_succ])
    refine' wpAnyH_take (i := 18) (v := _) rfl (by kernel_rfl) (by kernel_rfl) (by kernel_rfl) (fun _ _ _ h => h) (Or.inr ⟨by rfl, rfl⟩) (by assumption) ?tbq55
    (try simp only [List.getElem_toArray, List.getElem_cons_zero, List.getElem_cons_succ, Act.put, List.setIfInBounds_toArray, List.set_cons_zero, List.set_cons_succ])
    refine' wpAnyH_take (i := 19) (v := _) rfl (by kernel_rfl) (by kernel_rfl) (by kernel_rfl) (fun _ _ _ h => h) (Or.inl ⟨by rfl, ?taq56⟩) (by assumption) ?tbq56
    case taq56 =>
      intro wS hSw
      (try dsimp only at hSw)
      (have m0 := hSw.1.cell 0; have m1 := hSw.1.cell 1; have m2 := hSw.1.cell 2; have m3 := hSw.1.cell 3; have m4 := hSw.1.cell 4; have m5 := hSw.1.cell 5; have n0 := hSw.2.cell 0; have n1 := hSw.2.cell 1; simp only [List.getElem?_cons_zero, List.getElem?_cons_succ] at m0 m1 m2 m3 m4 m5 n0 n1; clear hSw; go_simp)
      (try (with_reducible rfl))
    (try simp only [List.getElem_toArray, List.getElem_cons_zero, List.getElem_cons_succ, Act.put, List.setIfInBounds_toArray, List.set_cons_zero, List.set_cons_succ])
    refine' wpAnyH_take (i := 20) (v := _) rfl (by kernel_rfl) (by kernel_rfl) (by kernel_rfl) (fun _ _ _ h => h) (Or.inl ⟨by rfl, ?taq57⟩) (by assumption) ?tbq57
    case taq57 =>
      intro wS hSw
      (try dsimp only at hSw)
      (have m0 := hSw.1.cell 0; have m1 := hSw.1.cell 1; have m2 := hSw.1.cell 2; have m3 := hSw.1.cell 3; have m4 := hSw.1.cell 4; have m5 := hSw.1.cell 5; have n0 := hSw.2.cell 0; have n1 := hSw.2.cell 1; simp only [List.getElem?_cons_zero, List.getElem?_cons_succ] at m0 m1 m2 m3 m4 m5 n0 n1; clear hSw; go_simp)
      (try (with_reducible rfl))
    (try simp only [List.getElem_toArray, List.getElem_cons_zero, List.getElem_cons_succ, Act.put, List.setIfInBounds_toArray, List.set_cons_zero, List.set_cons_succ])
    refine wpAnyH_done (by kernel_rfl) ?_ _
    go_wp2
    go_ret
    exact ⟨by rw [HQ.out]; rfl, HB3.out⟩
end Go.Proofs.Ytfhlailhcfjjaaa
