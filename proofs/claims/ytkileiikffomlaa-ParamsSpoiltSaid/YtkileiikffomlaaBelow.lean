/- Contracts of prng.Below and the reference's. -/
import Derived.Test.YtkileiikffomlaaMix
import Derived.Test.YtkileiikffomlaaBelowPlain
import Derived.ScopeJumps
import Derived.Lib.Hide
namespace Go.Proofs.Ytkileiikffomlaa
open Go.RowKit
set_option linter.unusedVariables false
set_option linter.unusedSimpArgs false

theorem below_out (s t i n : Int) (h : n < 1 ∨ 2147483648 < n) (w : World) :
    Calls Try.prog 28 #[.int .u64 s, .int .u64 t, .int .u64 i, .int .i64 n] w fun e w' => e = .returned (.int .i64 (belowI s t i n)) ∧ w = w' := by
  have H := below_bad s t i n h
  have HH := Lib.hid H
  clear H
  rcases h with h | h
  · go_enter Try.func28, Try.ntmps28
    go_wp2
    go_step3
    go_wp2
    rw [Exit.noGoto_ret]
    go_ret
    exact ⟨ret_int HH.out.symm, rfl⟩
  · have h1 : ¬ n < 1 := by omega
    go_enter Try.func28, Try.ntmps28
    go_wp2
    go_step3
    go_wp2
    rw [Exit.noGoto_ret]
    go_ret
    exact ⟨ret_int HH.out.symm, rfl⟩

def BInv (s t i n : Int) (w : World) (a' : Act) (w' : World) : Prop :=
  w' = w ∧ ∃ (k : Nat) (x : Int) (u13 u14 u15 u16 u17 u18 u19 u20 u21 u22 u23 u24 u25 u26 u27 u28 u29 u30 u31 u32 u33 u34 u35 u36 u37 u38 u39 u40 u41 : Value), a' = { tmps := #[.int .u64 s, .int .u64 t, .int .u64 i, .int .i64 n, undef, undef, undef, undef, .int .i64 0, .int .u64 n, .int .u64 (leastI n), .int .u64 x, .int .i64 ((k : Int) + 1), u13, u14, u15, u16, u17, u18, u19, u20, u21, u22, u23, u24, u25, u26, u27, u28, u29, u30, u31, u32, u33, u34, u35, u36, u37, u38, u39, u40, u41], defers := [] } ∧ 0 ≤ x ∧ x < 18446744073709551616 ∧ (k : Int) < 100 ∧ tries (leastI n) n (k + 1) x = belowI s t i n
def BMu (a' : Act) (_w : World) : Nat := (intOf (a'.tmps.getD 12 undef)).toNat
theorem BMu_lt (k k' : Int) (h : k < k') (h' : 0 < k') {u13 u14 u15 u16 u17 u18 u19 u20 u21 u22 u23 u24 u25 u26 u27 u28 u29 u30 u31 u32 u33 u34 u35 u36 u37 u38 u39 u40 u41 v13 v14 v15 v16 v17 v18 v19 v20 v21 v22 v23 v24 v25 v26 v27 v28 v29 v30 v31 v32 v33 v34 v35 v36 v37 v38 v39 v40 v41 s t i n z m l x s' t' i' n' z' m' l' x' e0 e1 e2 e3 f0 f1 f2 f3 : Value} (w w' : World) :
    BMu { tmps := #[s, t, i, n, e0, e1, e2, e3, z, m, l, x, .int .i64 k, u13, u14, u15, u16, u17, u18, u19, u20, u21, u22, u23, u24, u25, u26, u27, u28, u29, u30, u31, u32, u33, u34, u35, u36, u37, u38, u39, u40, u41], defers := [] } w < BMu { tmps := #[s', t', i', n', f0, f1, f2, f3, z', m', l', x', .int .i64 k', v13, v14, v15, v16, v17, v18, v19, v20, v21, v22, v23, v24, v25, v26, v27, v28, v29, v30, v31, v32, v33, v34, v35, v36, v37, v38, v39, v40, v41], defers := [] } w' := by
  show k.toNat < k'.toNat
  omega

set_option maxRecDepth 1000000 in
theorem below_in (s t i n : Int) (h0 : 0 ≤ s) (h1 : s < 18446744073709551616) (h2 : 0 ≤ t) (h3 : t < 18446744073709551616) (h4 : 0 ≤ i) (h5 : i < 18446744073709551616) (n0 : 1 ≤ n) (n1 : n ≤ 2147483648) (w : World) :
    Calls Try.prog 28 #[.int .u64 s, .int .u64 t, .int .u64 i, .int .i64 n] w fun e w' => e = .returned (.int .i64 (belowI s t i n)) ∧ w = w' := by
  have k1 : decide (n < 1) = false := by simp; omega
  have k2 : decide (2147483648 < n) = false := by simp; omega
  go_enter Try.func28, Try.ntmps28
  have hl0 := leastI_lo n n0
  have hl1 := leastI_hi n n0
  have hneg := wrap_neg n n0 n1
  have hn0 := negI_lo n n1
  have hnl := neg_least n n0 n1
  have ha0 := atI_lo s t i
  have ha1 := atI_hi s t i
  go_wp2
  refine wp_scope_jumps 0 (BInv s t i n w) BMu rfl ?_ ?_
  · go_wp2_with (go_at_call 54; refine (at_any _ _ _ (by omega) (by omega) (by omega) (by omega) (by omega) (by omega) _).mono ?_; rintro e w' ⟨rfl, rfl⟩)
    go_step3
    clear hneg hn0 hnl h0 h1 h2 h3 h4 h5
    have hs := (below_good s t i n n0 n1).symm
    by_cases hx : leastI n ≤ atI s t i
    · have e1 : decide (leastI n ≤ atI s t i) = true := by simpa using hx
      have hq : atI s t i % n = belowI s t i n := by rw [← hs]; exact (tries_yes hx).symm
      have HQ := Lib.hid hq
      clear hs hq hx
      have hm0 : 0 ≤ atI s t i % n := Int.emod_nonneg _ (by omega)
      have hm1 : atI s t i % n < n := Int.emod_lt_of_pos _ (by omega)
      go_wp2_with fail
      simp only [Exit.jump]
      go_ret
      exact ⟨ret_int HQ.out, rfl⟩
    · have e1 : decide (leastI n ≤ atI s t i) = false := by simpa using hx
      have hq : tries (leastI n) n 99 (mix (atI s t i)) = belowI s t i n := by rw [← hs]; exact (tries_no hx).symm
      have HQ := Lib.hid hq
      clear hs hx hq
      go_wp2_with (go_at_call 55; refine (mix_any _ (by omega) (by omega) _).mono ?_; rintro e w' ⟨rfl, rfl⟩)
      go_step3
      exact ⟨rfl, rfl, 98, _, _, _, _, _, _, _, _, _, _, _, _, _, _, _, _, _, _, _, _, _, _, _, _, _, _, _, _, _, _, rfl, mix_lo _, mix_hi _, by omega, HQ.out⟩
  · rintro a' w' ⟨rfl, k, x, u13, u14, u15, u16, u17, u18, u19, u20, u21, u22, u23, u24, u25, u26, u27, u28, u29, u30, u31, u32, u33, u34, u35, u36, u37, u38, u39, u40, u41, rfl, hx0, hx1, hk, hs⟩
    clear hneg hn0 hnl ha0 ha1 h0 h1 h2 h3 h4 h5
    by_cases hx : leastI n ≤ x
    · have e1 : decide (leastI n ≤ x) = true := by simpa using hx
      have hq : x % n = belowI s t i n := by rw [← hs]; exact (tries_yes hx).symm
      have HQ := Lib.hid hq
      clear hs hq hx
      have hm0 : 0 ≤ x % n := Int.emod_nonneg _ (by omega)
      have hm1 : x % n < n := Int.emod_lt_of_pos _ (by omega)
      go_wp2_with fail
      simp only [Exit.jump]
      go_ret
      exact ⟨ret_int HQ.out, rfl⟩
    · have e1 : decide (leastI n ≤ x) = false := by simpa using hx
      have hq : tries (leastI n) n k (mix x) = belowI s t i n := by rw [← hs]; exact (tries_no hx).symm
      clear hs hx
      cases k with
      | zero =>
        have HQ := Lib.hid hq
        clear hq
        go_wp2_with fail
        simp only [Exit.jump]
        go_ret
        exact ⟨ret_int HQ.out, rfl⟩
      | succ k =>
        have HQ := Lib.hid hq
        clear hq
        go_wp2_with (go_at_call 55; refine (mix_any _ (by omega) (by omega) _).mono ?_; rintro e w' ⟨rfl, rfl⟩)
        go_step3
        exact ⟨rfl, ⟨rfl, k, _, _, _, _, _, _, _, _, _, _, _, _, _, _, _, _, _, _, _, _, _, _, _, _, _, _, _, _, _, _, rfl, mix_lo _, mix_hi _, by omega, HQ.out⟩, BMu_lt _ _ (by omega) (by omega) _ _⟩

theorem below_any (s t i n : Int) (h0 : 0 ≤ s) (h1 : s < 18446744073709551616) (h2 : 0 ≤ t) (h3 : t < 18446744073709551616) (h4 : 0 ≤ i) (h5 : i < 18446744073709551616) (w : World) :
    Calls Try.prog 28 #[.int .u64 s, .int .u64 t, .int .u64 i, .int .i64 n] w fun e w' => e = .returned (.int .i64 (belowI s t i n)) ∧ w = w' := by
  by_cases h : n < 1 ∨ 2147483648 < n
  · exact below_out s t i n h w
  · exact below_in s t i n h0 h1 h2 h3 h4 h5 (by omega) (by omega) w

end Go.Proofs.Ytkileiikffomlaa
