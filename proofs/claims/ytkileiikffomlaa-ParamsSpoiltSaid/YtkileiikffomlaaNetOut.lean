/- Contracts of shape.Out, check.product, dense.Fits. -/
import Derived.Test.YtkileiikffomlaaNetMay2
import Derived.Test.YtkileiikffomlaaNetPlain2
namespace Go.Proofs.Ytkileiikffomlaa
open Go.RowKit
set_option linter.unusedVariables false
set_option linter.unusedSimpArgs false

set_option maxHeartbeats 1600000 in
theorem sout_any (n k s p : Int) (hk : inW k) (r : Int) (hr : outI n k s p = r) (w : World) :
    Calls Try.prog 72 #[.int .i64 n, .int .i64 k, .int .i64 s, .int .i64 p] w fun en w' => en = .returned (.int .i64 r) ∧ w = w' := by
  obtain ⟨c1, h1⟩ : ∃ x, inI n 1 16 = x := ⟨_, rfl⟩
  obtain ⟨c2, h2⟩ : ∃ x, inI k 1 5 = x := ⟨_, rfl⟩
  obtain ⟨c3, h3⟩ : ∃ x, inI s 1 4 = x := ⟨_, rfl⟩
  obtain ⟨c4, h4⟩ : ∃ x, inI p 0 (k - 1) = x := ⟨_, rfl⟩
  have HQ : Hid (r = if (((c1 && c2) && c3) && c4) && decide (k ≤ n + 2 * p) then (n + 2 * p - k) / s + 1 else 0) := Lib.hid (by rw [← hr, ← h1, ← h2, ← h3, ← h4]; rfl)
  have H1 := Lib.hid (sin_any n 1 16 c1 h1)
  have H2 := Lib.hid (sin_any k 1 5 c2 h2)
  have H3 := Lib.hid (sin_any s 1 4 c3 h3)
  have H4 := Lib.hid (sin_any p 0 (k - 1) c4 h4)
  have I1 : Hid (c1 = true → 1 ≤ n ∧ n ≤ 16) := Lib.hid (fun h => inI_of (by rw [h1, h]))
  have I2 : Hid (c2 = true → 1 ≤ k ∧ k ≤ 5) := Lib.hid (fun h => inI_of (by rw [h2, h]))
  have I3 : Hid (c3 = true → 1 ≤ s ∧ s ≤ 4) := Lib.hid (fun h => inI_of (by rw [h3, h]))
  have I4 : Hid (c4 = true → 0 ≤ p ∧ p ≤ k - 1) := Lib.hid (fun h => inI_of (by rw [h4, h]))
  clear h1 h2 h3 h4 hr hk
  cases c1 with
  | false =>
    go_enter Try.func72, Try.ntmps72
    go_wp2_with (go_at_call 76; (with_reducible refine (H1.out _).mono ?_); rintro en w' ⟨rfl, rfl⟩)
    go_ret
    exact ⟨by rw [HQ.out]; rfl, rfl⟩
  | true =>
    cases c2 with
    | false =>
      go_enter Try.func72, Try.ntmps72
      go_wp2_with (first | (go_at_call 76; (with_reducible refine (H1.out _).mono ?_); rintro en w' ⟨rfl, rfl⟩) | (go_at_call 76; (with_reducible refine (H2.out _).mono ?_); rintro en w' ⟨rfl, rfl⟩))
      go_ret
      exact ⟨by rw [HQ.out]; rfl, rfl⟩
    | true =>
      obtain ⟨k0, k1⟩ := I2.out rfl
      obtain ⟨n0, n1⟩ := I1.out rfl
      cases c3 with
      | false =>
        go_enter Try.func72, Try.ntmps72
        go_wp2_with (first | (go_at_call 76; (with_reducible refine (H1.out _).mono ?_); rintro en w' ⟨rfl, rfl⟩) | (go_at_call 76; (with_reducible refine (H2.out _).mono ?_); rintro en w' ⟨rfl, rfl⟩) | (go_at_call 76; (with_reducible refine (H3.out _).mono ?_); rintro en w' ⟨rfl, rfl⟩))
        go_ret
        exact ⟨by rw [HQ.out]; rfl, rfl⟩
      | true =>
        obtain ⟨s0, s1⟩ := I3.out rfl
        cases c4 with
        | false =>
          go_enter Try.func72, Try.ntmps72
          go_wp2_with (first | (go_at_call 76; (with_reducible refine (H1.out _).mono ?_); rintro en w' ⟨rfl, rfl⟩) | (go_at_call 76; (with_reducible refine (H2.out _).mono ?_); rintro en w' ⟨rfl, rfl⟩) | (go_at_call 76; (with_reducible refine (H3.out _).mono ?_); rintro en w' ⟨rfl, rfl⟩) | (go_at_call 76; (with_reducible refine (H4.out _).mono ?_); rintro en w' ⟨rfl, rfl⟩))
          go_ret
          exact ⟨by rw [HQ.out]; rfl, rfl⟩
        | true =>
          obtain ⟨p0, p1⟩ := I4.out rfl
          by_cases hc : k ≤ n + 2 * p
          · have t1 : decide (n + 2 * p < k) = false := by simp; omega
            have HC := Lib.hid hc
            have d0 : 0 ≤ (n + 2 * p - k) / s := Int.ediv_nonneg (by omega) (by omega)
            have d1 : (n + 2 * p - k) / s ≤ n + 2 * p - k := Int.ediv_le_self _ (by omega)
            have d2 : (n + 2 * p - k) / s ≤ 100 := by omega
            clear d1
            go_enter Try.func72, Try.ntmps72
            go_wp2_with (first | (go_at_call 76; (with_reducible refine (H1.out _).mono ?_); rintro en w' ⟨rfl, rfl⟩) | (go_at_call 76; (with_reducible refine (H2.out _).mono ?_); rintro en w' ⟨rfl, rfl⟩) | (go_at_call 76; (with_reducible refine (H3.out _).mono ?_); rintro en w' ⟨rfl, rfl⟩) | (go_at_call 76; (with_reducible refine (H4.out _).mono ?_); rintro en w' ⟨rfl, rfl⟩))
            go_ret
            refine ⟨?_, rfl⟩
            have hd : decide (k ≤ n + 2 * p) = true := by simpa using HC.out
            rw [HQ.out, hd]
            rfl
          · have t1 : decide (n + 2 * p < k) = true := by simp; omega
            have HC := Lib.hid hc
            clear hc
            go_enter Try.func72, Try.ntmps72
            go_wp2_with (first | (go_at_call 76; (with_reducible refine (H1.out _).mono ?_); rintro en w' ⟨rfl, rfl⟩) | (go_at_call 76; (with_reducible refine (H2.out _).mono ?_); rintro en w' ⟨rfl, rfl⟩) | (go_at_call 76; (with_reducible refine (H3.out _).mono ?_); rintro en w' ⟨rfl, rfl⟩) | (go_at_call 76; (with_reducible refine (H4.out _).mono ?_); rintro en w' ⟨rfl, rfl⟩))
            go_ret
            refine ⟨?_, rfl⟩
            have hd : decide (k ≤ n + 2 * p) = false := by simpa using HC.out
            rw [HQ.out, hd]
            rfl

theorem GoodD.pre {d : List Int} (h : GoodD d) (k : Nat) : 1 ≤ prodI (d.take k) ∧ prodI (d.take k) ≤ 4096 := by
  rcases h with ⟨c, p, q, rfl, h1, h2, h3, h4, h5, h6⟩ | ⟨n, rfl, h1, h2⟩
  · match k with
    | 0 => simp [prodI]
    | 1 => simp [prodI]; omega
    | 2 =>
      have := mul3_in h1 h2 h3 h4 (Int.le_refl 1) (by omega : (1 : Int) ≤ 20)
      simpa [prodI] using this
    | k + 3 =>
      have := mul3_in h1 h2 h3 h4 h5 h6
      simpa [prodI] using this
  · match k with
    | 0 => simp [prodI]
    | k + 1 => simp [prodI]; omega
theorem prod_next {d : List Int} {k : Nat} {x : Int} (h : d[k]? = some x) : prodI (d.take (k + 1)) = prodI (d.take k) * x := by
  rw [List.take_add_one, h]
  exact prodI_snoc x _
theorem cprod_any (d : List Int) (v : Value) (w : World) (B : Nat) (h : Reads w B v (ints .i64 d)) (hg : GoodD d) :
    Calls Try.prog 31 #[v] w fun en w' => en = .returned (.int .i64 (prodI d)) ∧ w = w' := by
  obtain ⟨A, c, rfl, _, _⟩ := h.form
  simp only [length_ints] at *
  have hlen := hg.pos.2
  have HR := Lib.hid h
  have HG := Lib.hid hg
  clear h hg
  go_enter Try.func31, Try.ntmps31
  go_wp2_with fail
  go_loop [8, 3] (fun i n => ∃ k : Nat, k ≤ d.length ∧ i = .int .i64 k ∧ n = .int .i64 (prodI (d.take k))) (fun i _ => d.length - (intOf i).toNat)
  case atStart => exact ⟨0, by omega, rfl, rfl⟩
  case round =>
    obtain ⟨k, hk, rfl, rfl⟩ := hrel
    by_cases hlt : k < d.length
    · obtain ⟨x, hx⟩ : ∃ x, d[k]? = some x := ⟨d[k], List.getElem?_eq_getElem hlt⟩
      have hn := prod_next hx
      have hp := HG.out.pre k
      have hp1 := HG.out.pre (k + 1)
      rw [hn] at hp1
      have HN := Lib.hid hn
      obtain ⟨AA, n1, cc, hva, hn1, hcc, hmm, ha⟩ := HR.out
      injection hva with q1 q2 q3
      subst q1 q2 q3
      obtain ⟨g, o, rfl, hg, hx2⟩ := ha.out (by omega)
      have z1 := hx2 k (.int .i64 x) (by rw [ints, List.getElem?_map, hx]; rfl)
      have i1 : (0 : Int) ≤ (k : Int) := by omega
      have i2 : (k : Int) < (d.length : Int) := by omega
      obtain ⟨p0, p1⟩ := hp
      obtain ⟨p2, p3⟩ := hp1
      generalize prodI (d.take k) = P at *
      clear hn hx hx2 ha hcc hmm hg hn1
      go_wp2
      go_round
      case rel => exact ⟨k + 1, by omega, by go_num, by rw [HN.out]⟩
      case measure => simp [intOf]; omega
    · rw [List.take_of_length_le (by omega)]
      go_wp2
      go_ret
      exact ⟨rfl, rfl⟩

theorem fits_any (n : Int) (r : Bool) (hr : fitsI n = r) (w : World) : Calls Try.prog 19 #[.int .i64 n] w fun en w' => en = .returned (.bool r) ∧ w = w' := by
  subst hr
  unfold fitsI
  by_cases h0 : 0 ≤ n
  · have t0 : decide (0 ≤ n) = true := by simpa using h0
    by_cases h1 : n ≤ 1023
    · have t1 : decide (n ≤ 1023) = true := by simpa using h1
      by_cases h2 : n < 960
      · have t2 : decide (n * 16384 + 1048576 < 16777216) = true := by simp; omega
        have t3 : decide (n < 960) = true := by simpa using h2
        go_enter Try.func19, Try.ntmps19
        go_wp2
        go_ret
        exact ⟨by first | rfl | (rw [t0, t3]; rfl), rfl⟩
      · have t2 : decide (n * 16384 + 1048576 < 16777216) = false := by simp; omega
        have t3 : decide (n < 960) = false := by simpa using h2
        go_enter Try.func19, Try.ntmps19
        go_wp2
        go_ret
        exact ⟨by first | rfl | (rw [t0, t3]; rfl), rfl⟩
    · have t1 : decide (n ≤ 1023) = false := by simpa using h1
      have t3 : decide (n < 960) = false := by simp; omega
      go_enter Try.func19, Try.ntmps19
      go_wp2
      go_ret
      exact ⟨by first | rfl | (rw [t0, t3]; rfl), rfl⟩
  · have t0 : decide (0 ≤ n) = false := by simpa using h0
    go_enter Try.func19, Try.ntmps19
    go_wp2
    go_ret
    exact ⟨by first | rfl | (rw [t0]; rfl), rfl⟩
end Go.Proofs.Ytkileiikffomlaa
