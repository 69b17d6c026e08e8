/- batch.Steps, batch.Which for any numbers; the reference's. -/
import Derived.Test.YtfhlailhcfjjaaaBatch
import Derived.Test.YtfhlailhcfjjaaaDataRef
namespace Go.Proofs.Ytfhlailhcfjjaaa
open Go.RowKit
set_option linter.unusedVariables false
set_option linter.unusedSimpArgs false
attribute [local go_sem high] run_min_keep

set_option maxHeartbeats 1600000 in
set_option maxRecDepth 100000 in
theorem which2_any (seed : Int) (n s ep i : Nat) (w : World) (h0 : 0 ≤ seed) (h1 : seed < 18446744073709551616) (hn : 1 ≤ n) (hn' : n ≤ 64) (hs : 1 ≤ s) (hs' : s ≤ 8) (he : ep * stepsN n s + i ≤ 1000000) (hi : i < stepsN n s) :
    Calls Try.prog 13 #[.int .u64 seed, .int .i64 n, .int .i64 s, .int .i64 ((ep * stepsN n s + i : Nat) : Int)] w (New_int w (chunkI (orderI seed n ep) s i)) := by
  have hK := steps_pos hn hs
  have hK' := steps_le hn hs
  have hlt := steps_lt hn hs hi
  have HS := Lib.hid (steps_any n s w hn hn' hs hs')
  obtain ⟨K, hKe⟩ : ∃ K, stepsN n s = K := ⟨_, rfl⟩
  rw [hKe] at hi hK hK' HS he ⊢
  have hstep : ep * K + i ≤ 1000000 := he
  have hep : ep ≤ 1000000 := by
    have : ep * 1 ≤ ep * K := Nat.mul_le_mul_left ep hK
    omega
  clear he
  have hq : ((ep * K + i : Nat) : Int) / (K : Int) = (ep : Int) := by
    rw [← Int.natCast_ediv]
    congr 1
    rw [Nat.mul_comm, Nat.mul_add_div (by omega), Nat.div_eq_of_lt hi, Nat.add_zero]
  have hr : ((ep * K + i : Nat) : Int) % (K : Int) = (i : Int) := by
    rw [← Int.natCast_emod]
    congr 1
    rw [Nat.mul_comm, Nat.mul_add_mod, Nat.mod_eq_of_lt hi]
  obtain ⟨st, hst⟩ : ∃ st, ep * K + i = st := ⟨_, rfl⟩
  rw [hst] at hq hr hstep ⊢
  obtain ⟨f, hf⟩ : ∃ f, i * s = f := ⟨_, rfl⟩
  have hf' : (i : Int) * (s : Int) = (f : Int) := by rw [← hf]; simp
  rw [hf] at hlt
  obtain ⟨hh, hhe⟩ : ∃ h : Nat, h = min (f + s) n := ⟨_, rfl⟩
  have hmn : min ((f : Int) + (s : Int)) (n : Int) = (hh : Int) := by omega
  have hh0 : f ≤ hh := by omega
  have hh1 : hh ≤ n := by omega
  have hiK : i ≤ 64 := by omega
  have t1 : ((K : Int) == 0) = false := by simp; omega
  have t2 : decide ((st : Int) < 0) = false := by simp
  have t3 : decide (1000000 < (st : Int)) = false := by simp; omega
  have hne : ¬ (K : Int) = 0 := by omega
  have HP := Lib.hid (perm_any seed (1099511627776 + (ep : Int)) n h0 h1 (by omega) (by omega) w)
  have hpl := length_perm seed (1099511627776 + (ep : Int)) n hn (by omega)
  have hch : chunkI (orderI seed n ep) s i = ((permI seed (1099511627776 + (ep : Int)) n).drop f).take (hh - f) := by
    unfold chunkI orderI
    rw [hf, List.take_eq_take_iff, List.length_drop, hpl]
    omega
  rw [hch]
  generalize permI seed (1099511627776 + (ep : Int)) n = xs at HP hpl hch ⊢
  have HPL := Lib.hid hpl
  obtain ⟨ys, hys⟩ : ∃ ys, (xs.drop f).take (hh - f) = ys := ⟨_, rfl⟩
  rw [hys]
  have HYS := Lib.hid hys
  clear hys hch hpl hst hf hhe hKe hi
  go_enter Try.func13, Try.ntmps13
  go_wp2_with fail
  refine HS.out.mono ?_
  rintro en w' ⟨rfl, rfl⟩
  go_wp2_with fail
  refine HP.out.mono ?_
  rintro en w3 ⟨v, rfl, hown, hb3⟩
  obtain ⟨g, cap, rest, rfl, hg0, hg1, hcap, hcm, hrl, hxl, hblk⟩ := own_blk hown (by have := HPL.out; omega)
  have hxn := HPL.out
  rw [hxn] at hcap ⊢
  have c0 : (0 : Int) ≤ (f : Int) := by omega
  have c1 : (f : Int) ≤ (hh : Int) := by omega
  have c2 : (hh : Int) ≤ (cap : Int) := by omega
  have HB := Lib.hid hb3
  have HK := Lib.hid hblk
  clear hown hb3 hblk hxn hxl hrl
  go_wp2_with fail
  have hxl := HPL.out
  have hrd : Reads w3 w3.heap.size (.slice (some ⟨g, f, none⟩) (hh - f) (cap - f)) (ints .i64 ys) := by
    rw [← HYS.out]
    refine ⟨_, _, _, rfl, by rw [length_ints, List.length_take, List.length_drop]; omega, by omega, by omega, Lib.hid (fun _ => ⟨g, f, rfl, hg1, fun j u hu => ?_⟩)⟩
    rw [HK.out.cell]
    rw [ints, List.getElem?_map, List.getElem?_take] at hu
    split at hu
    · rename_i hj
      rw [List.getElem?_drop] at hu
      rw [List.getElem?_append_left (by rw [length_ints]; omega), ints, List.getElem?_map]
      exact hu
    · cases hu
  have hcl : ys.length = hh - f := by rw [← HYS.out, List.length_take, List.length_drop]; omega
  have HC := Lib.hid (clone_int w3 w3.heap.size _ _ hrd (Nat.le_refl _) (by rw [hcl]; omega))
  clear hrd hcl hxl
  refine HC.out.mono ?_
  rintro en w5 ⟨A5, c5, rfl, hown5, hb5⟩
  go_wp2
  go_ret
  exact ⟨A5, c5, rfl, own_lower hown5 HB.out.size, HB.out.trans (hb5.mono HB.out.size)⟩


def stepsI (n s : Int) : Int := if 1 ≤ n ∧ n ≤ 64 ∧ 1 ≤ s ∧ s ≤ 8 then ((stepsN n.toNat s.toNat : Nat) : Int) else 0
theorem stepsI_in {n s : Nat} (hn : 1 ≤ n) (hn' : n ≤ 64) (hs : 1 ≤ s) (hs' : s ≤ 8) : stepsI (n : Int) (s : Int) = (stepsN n s : Nat) := by
  unfold stepsI
  rw [if_pos (by omega), Int.toNat_natCast, Int.toNat_natCast]
theorem stepsI_out {n s : Int} (h : ¬ (1 ≤ n ∧ n ≤ 64 ∧ 1 ≤ s ∧ s ≤ 8)) : stepsI n s = 0 := by unfold stepsI; rw [if_neg h]
theorem steps_out (n s : Int) (w : World) (h : ¬ (1 ≤ n ∧ n ≤ 64 ∧ 1 ≤ s ∧ s ≤ 8)) : Calls Try.prog 12 #[.int .i64 n, .int .i64 s] w fun en w' => en = .returned (.int .i64 0) ∧ w = w' := by
  by_cases h1 : n < 1
  · have t1 : decide (n < 1) = true := by simpa using h1
    clear h h1
    go_enter Try.func12, Try.ntmps12
    go_wp2
    go_ret
    exact ⟨rfl, rfl⟩
  · have t1 : decide (n < 1) = false := by simpa using h1
    by_cases h2 : 64 < n
    · have t2 : decide (64 < n) = true := by simpa using h2
      clear h h1 h2
      go_enter Try.func12, Try.ntmps12
      go_wp2
      go_ret
      exact ⟨rfl, rfl⟩
    · have t2 : decide (64 < n) = false := by simpa using h2
      by_cases h3 : s < 1
      · have t3 : decide (s < 1) = true := by simpa using h3
        clear h h1 h2 h3
        go_enter Try.func12, Try.ntmps12
        go_wp2
        go_ret
        exact ⟨rfl, rfl⟩
      · have t3 : decide (s < 1) = false := by simpa using h3
        have t4 : decide (8 < s) = true := by simp; omega
        clear h h1 h2 h3
        go_enter Try.func12, Try.ntmps12
        go_wp2
        go_ret
        exact ⟨rfl, rfl⟩
theorem steps_gen (n s : Int) (w : World) : Calls Try.prog 12 #[.int .i64 n, .int .i64 s] w fun en w' => en = .returned (.int .i64 (stepsI n s)) ∧ w = w' := by
  by_cases h : 1 ≤ n ∧ n ≤ 64 ∧ 1 ≤ s ∧ s ≤ 8
  · obtain ⟨m, rfl⟩ := Int.eq_ofNat_of_zero_le (show 0 ≤ n by omega)
    obtain ⟨k, rfl⟩ := Int.eq_ofNat_of_zero_le (show 0 ≤ s by omega)
    rw [stepsI_in (by omega) (by omega) (by omega) (by omega)]
    exact steps_any m k w (by omega) (by omega) (by omega) (by omega)
  · rw [stepsI_out h]
    exact steps_out n s w h
def whichI (seed n s step : Int) : List Int := if 1 ≤ n ∧ n ≤ 64 ∧ 1 ≤ s ∧ s ≤ 8 ∧ 0 ≤ step ∧ step ≤ 1000000 then chunkI (orderI seed n.toNat (step.toNat / stepsN n.toNat s.toNat)) s.toNat (step.toNat % stepsN n.toNat s.toNat) else []
def WhichOf (w : World) (xs : List Int) (en : Ending) (w' : World) : Prop := (∃ A c, en = .returned (.slice A xs.length c) ∧ Reads w' w'.heap.size (.slice A xs.length c) (ints .i64 xs)) ∧ Below w.heap.size w w'
theorem WhichOf.nil_ (w : World) : WhichOf w [] (.returned (.slice none 0 0)) w := ⟨⟨Option.none, 0, rfl, Reads.nil_ _ _⟩, Below.refl _ _⟩
theorem which_no (seed n s step : Int) (w : World) (h : stepsI n s = 0 ∨ step < 0 ∨ 1000000 < step) : Calls Try.prog 13 #[.int .u64 seed, .int .i64 n, .int .i64 s, .int .i64 step] w (WhichOf w []) := by
  have HS := Lib.hid (steps_gen n s w)
  have HW := Lib.hid (WhichOf.nil_ w)
  generalize stepsI n s = K at HS h
  by_cases h1 : K = 0
  · have t1 : (K == 0) = true := by simpa using h1
    clear h h1
    go_enter Try.func13, Try.ntmps13
    go_wp2_with fail
    refine HS.out.mono ?_
    rintro en w' ⟨rfl, rfl⟩
    go_wp2
    go_ret
    exact HW.out
  · have t1 : (K == 0) = false := by simpa using h1
    by_cases h2 : step < 0
    · have t2 : decide (step < 0) = true := by simpa using h2
      clear h h1 h2
      go_enter Try.func13, Try.ntmps13
      go_wp2_with fail
      refine HS.out.mono ?_
      rintro en w' ⟨rfl, rfl⟩
      go_wp2
      go_ret
      exact HW.out
    · have t2 : decide (step < 0) = false := by simpa using h2
      have t3 : decide (1000000 < step) = true := by simp; omega
      clear h h1 h2
      go_enter Try.func13, Try.ntmps13
      go_wp2_with fail
      refine HS.out.mono ?_
      rintro en w' ⟨rfl, rfl⟩
      go_wp2
      go_ret
      exact HW.out
theorem which_nil {seed n s step : Int} (h : ¬ (1 ≤ n ∧ n ≤ 64 ∧ 1 ≤ s ∧ s ≤ 8 ∧ 0 ≤ step ∧ step ≤ 1000000)) : whichI seed n s step = [] := by unfold whichI; rw [if_neg h]
theorem which_out {n s step : Int} (h : ¬ (1 ≤ n ∧ n ≤ 64 ∧ 1 ≤ s ∧ s ≤ 8 ∧ 0 ≤ step ∧ step ≤ 1000000)) : stepsI n s = 0 ∨ step < 0 ∨ 1000000 < step := by
  by_cases h1 : 1 ≤ n ∧ n ≤ 64 ∧ 1 ≤ s ∧ s ≤ 8
  · right; omega
  · exact .inl (stepsI_out h1)
theorem which_split (st K : Nat) : st / K * K + st % K = st := by rw [Nat.mul_comm]; exact Nat.div_add_mod st K
theorem which_gen (seed n s step : Int) (w : World) (h0 : 0 ≤ seed) (h1 : seed < 18446744073709551616) : Calls Try.prog 13 #[.int .u64 seed, .int .i64 n, .int .i64 s, .int .i64 step] w (WhichOf w (whichI seed n s step)) := by
  by_cases h : 1 ≤ n ∧ n ≤ 64 ∧ 1 ≤ s ∧ s ≤ 8 ∧ 0 ≤ step ∧ step ≤ 1000000
  · obtain ⟨m, rfl⟩ := Int.eq_ofNat_of_zero_le (show 0 ≤ n by omega)
    obtain ⟨k, rfl⟩ := Int.eq_ofNat_of_zero_le (show 0 ≤ s by omega)
    obtain ⟨st, rfl⟩ := Int.eq_ofNat_of_zero_le (show 0 ≤ step by omega)
    have hK := steps_pos (n := m) (s := k) (by omega) (by omega)
    have e : whichI seed (m : Int) (k : Int) (st : Int) = chunkI (orderI seed m (st / stepsN m k)) k (st % stepsN m k) := by
      unfold whichI
      rw [if_pos h]
      simp only [Int.toNat_natCast]
    have hw := which2_any seed m k (st / stepsN m k) (st % stepsN m k) w h0 h1 (by omega) (by omega) (by omega) (by omega) (by rw [which_split]; omega) (Nat.mod_lt _ (by omega))
    rw [which_split, ← e] at hw
    refine hw.mono ?_
    rintro en w' ⟨A, c, rfl, hown, hb⟩
    exact ⟨⟨A, c, rfl, Reads.of_own hown⟩, hb⟩
  · rw [which_nil h]
    exact which_no seed n s step w (which_out h)
theorem rmays_any (n : Int) (r : Bool) (hr : (decide (0 ≤ n) && decide (n ≤ 1000000)) = r) (w : World) : Calls Try.prog 58 #[.int .i64 n] w fun en w' => en = .returned (.bool r) ∧ w = w' := by
  subst hr
  by_cases h0 : 0 ≤ n
  · have t0 : decide (0 ≤ n) = true := by simpa using h0
    rw [t0]
    clear h0
    go_enter Try.func58, Try.ntmps58
    go_wp2
    go_ret
    exact ⟨rfl, rfl⟩
  · have t0 : decide (0 ≤ n) = false := by simpa using h0
    rw [t0]
    clear h0
    go_enter Try.func58, Try.ntmps58
    go_wp2
    go_ret
    exact ⟨rfl, rfl⟩
theorem inD_iff (n lo hi : Int) : inD n lo hi = true ↔ lo ≤ n ∧ n ≤ hi := by
  unfold inD
  simp
theorem rsteps_gen (n s : Int) (w : World) : Calls Try.prog 25 #[.int .i64 n, .int .i64 s] w fun en w' => en = .returned (.int .i64 (stepsI n s)) ∧ w = w' := by
  obtain ⟨r1, h1⟩ : ∃ r, inD n 1 64 = r := ⟨_, rfl⟩
  obtain ⟨r2, h2⟩ : ∃ r, inD s 1 8 = r := ⟨_, rfl⟩
  have H1 := Lib.hid (rin_any n 1 64 r1 h1 w)
  have H2 := Lib.hid (rin_any s 1 8 r2 h2 w)
  cases r1 with
  | false =>
    have HE := Lib.hid (stepsI_out (n := n) (s := s) (fun h => by have := (inD_iff n 1 64).2 ⟨h.1, h.2.1⟩; rw [h1] at this; cases this))
    clear h1 h2 H2
    go_enter Try.func25, Try.ntmps25
    go_wp2_with fail
    refine H1.out.mono ?_
    rintro en w' ⟨rfl, rfl⟩
    go_wp2
    go_ret
    exact ⟨by rw [HE.out]; rfl, rfl⟩
  | true =>
    cases r2 with
    | false =>
      have HE := Lib.hid (stepsI_out (n := n) (s := s) (fun h => by have := (inD_iff s 1 8).2 ⟨h.2.2.1, h.2.2.2⟩; rw [h2] at this; cases this))
      clear h1 h2
      go_enter Try.func25, Try.ntmps25
      go_wp2_with fail
      refine H1.out.mono ?_
      rintro en w' ⟨rfl, rfl⟩
      go_wp2_with fail
      refine H2.out.mono ?_
      rintro en w' ⟨rfl, rfl⟩
      go_wp2
      go_ret
      exact ⟨by rw [HE.out]; rfl, rfl⟩
    | true =>
      obtain ⟨n1, n2⟩ := (inD_iff n 1 64).1 h1
      obtain ⟨s1, s2⟩ := (inD_iff s 1 8).1 h2
      obtain ⟨m, rfl⟩ := Int.eq_ofNat_of_zero_le (show 0 ≤ n by omega)
      obtain ⟨k, rfl⟩ := Int.eq_ofNat_of_zero_le (show 0 ≤ s by omega)
      have hq : ((m : Int) + (k : Int) - 1) / (k : Int) = stepsI (m : Int) (k : Int) := by
        rw [stepsI_in (by omega) (by omega) (by omega) (by omega)]
        unfold stepsN
        rw [Int.natCast_ediv]
        congr 1
        omega
      generalize stepsI (m : Int) (k : Int) = K at hq
      have hne : ¬ (k : Int) = 0 := by omega
      have HQ := Lib.hid hq
      clear hq h1 h2
      go_enter Try.func25, Try.ntmps25
      go_wp2_with fail
      refine H1.out.mono ?_
      rintro en w' ⟨rfl, rfl⟩
      go_wp2_with fail
      refine H2.out.mono ?_
      rintro en w' ⟨rfl, rfl⟩
      clear H1 H2
      go_wp2
      go_ret
      refine ⟨?_, rfl⟩
      rw [← HQ.out]
      rfl
set_option maxHeartbeats 1600000 in
set_option maxRecDepth 100000 in
theorem rwhich_in (seed : Int) (n s ep i : Nat) (w : World) (h0 : 0 ≤ seed) (h1 : seed < 18446744073709551616) (hn : 1 ≤ n) (hn' : n ≤ 64) (hs : 1 ≤ s) (hs' : s ≤ 8) (he : ep * stepsN n s + i ≤ 1000000) (hi : i < stepsN n s) :
    Calls Try.prog 26 #[.int .u64 seed, .int .i64 n, .int .i64 s, .int .i64 ((ep * stepsN n s + i : Nat) : Int)] w (WhichOf w (chunkI (orderI seed n ep) s i)) := by
  have hK := steps_pos hn hs
  have hK' := steps_le hn hs
  have hlt := steps_lt hn hs hi
  have hs0 := rsteps_gen (n : Int) (s : Int) w
  rw [stepsI_in hn hn' hs hs'] at hs0
  have HS := Lib.hid hs0
  clear hs0
  obtain ⟨K, hKe⟩ : ∃ K, stepsN n s = K := ⟨_, rfl⟩
  rw [hKe] at hi hK hK' HS he ⊢
  have hstep : ep * K + i ≤ 1000000 := he
  have hep : ep ≤ 1000000 := by
    have : ep * 1 ≤ ep * K := Nat.mul_le_mul_left ep hK
    omega
  clear he
  have hq : ((ep * K + i : Nat) : Int) / (K : Int) = (ep : Int) := by
    rw [← Int.natCast_ediv]
    congr 1
    rw [Nat.mul_comm, Nat.mul_add_div (by omega), Nat.div_eq_of_lt hi, Nat.add_zero]
  have hr : ((ep * K + i : Nat) : Int) % (K : Int) = (i : Int) := by
    rw [← Int.natCast_emod]
    congr 1
    rw [Nat.mul_comm, Nat.mul_add_mod, Nat.mod_eq_of_lt hi]
  obtain ⟨st, hst⟩ : ∃ st, ep * K + i = st := ⟨_, rfl⟩
  rw [hst] at hq hr hstep ⊢
  obtain ⟨f, hf⟩ : ∃ f, i * s = f := ⟨_, rfl⟩
  have hf' : (i : Int) * (s : Int) = (f : Int) := by rw [← hf]; simp
  rw [hf] at hlt
  obtain ⟨hh, hhe⟩ : ∃ h : Nat, h = min (f + s) n := ⟨_, rfl⟩
  have hmn : min ((f : Int) + (s : Int)) (n : Int) = (hh : Int) := by omega
  have hh0 : f ≤ hh := by omega
  have hh1 : hh ≤ n := by omega
  have hiK : i ≤ 64 := by omega
  have t1 : ((K : Int) == 0) = false := by simp; omega
  have HM := Lib.hid (rmays_any (st : Int) true (by simp; omega) w)
  have hne : ¬ (K : Int) = 0 := by omega
  have HP := Lib.hid (rperm_any seed (1099511627776 + (ep : Int)) n h0 h1 (by omega) (by omega) w)
  have hpl := length_perm seed (1099511627776 + (ep : Int)) n hn (by omega)
  have hch : chunkI (orderI seed n ep) s i = ((permI seed (1099511627776 + (ep : Int)) n).drop f).take (hh - f) := by
    unfold chunkI orderI
    rw [hf, List.take_eq_take_iff, List.length_drop, hpl]
    omega
  rw [hch]
  generalize permI seed (1099511627776 + (ep : Int)) n = xs at HP hpl hch ⊢
  have HPL := Lib.hid hpl
  obtain ⟨ys, hys⟩ : ∃ ys, (xs.drop f).take (hh - f) = ys := ⟨_, rfl⟩
  rw [hys]
  have HYS := Lib.hid hys
  clear hys hch hpl hst hf hhe hKe hi
  go_enter Try.func26, Try.ntmps26
  go_wp2_with fail
  refine HS.out.mono ?_
  rintro en w' ⟨rfl, rfl⟩
  go_wp2_with fail
  refine HM.out.mono ?_
  rintro en w' ⟨rfl, rfl⟩
  go_wp2_with fail
  refine HP.out.mono ?_
  rintro en w3 ⟨v, rfl, hown, hb3⟩
  obtain ⟨g, cap, rest, rfl, hg0, hg1, hcap, hcm, hrl, hxl, hblk⟩ := own_blk hown (by have := HPL.out; omega)
  have hxn := HPL.out
  rw [hxn] at hcap ⊢
  have c0 : (0 : Int) ≤ (f : Int) := by omega
  have c1 : (f : Int) ≤ (hh : Int) := by omega
  have c2 : (hh : Int) ≤ (cap : Int) := by omega
  have HB := Lib.hid hb3
  have HK := Lib.hid hblk
  clear hown hb3 hblk hxn hxl hrl
  have hxl := HPL.out
  have hrd : Reads w3 w3.heap.size (.slice (some ⟨g, f, none⟩) (hh - f) (cap - f)) (ints .i64 ys) := by
    rw [← HYS.out]
    refine ⟨_, _, _, rfl, by rw [length_ints, List.length_take, List.length_drop]; omega, by omega, by omega, Lib.hid (fun _ => ⟨g, f, rfl, hg1, fun j u hu => ?_⟩)⟩
    rw [HK.out.cell]
    rw [ints, List.getElem?_map, List.getElem?_take] at hu
    split at hu
    · rename_i hj
      rw [List.getElem?_drop] at hu
      rw [List.getElem?_append_left (by rw [length_ints]; omega), ints, List.getElem?_map]
      exact hu
    · cases hu
  have hcl : ys.length = hh - f := by rw [← HYS.out, List.length_take, List.length_drop]; omega
  have HRD := Lib.hid hrd
  have HCL := Lib.hid hcl
  clear hrd hcl hxl
  go_wp2
  go_ret
  exact ⟨⟨_, _, by rw [HCL.out]; rfl, by rw [HCL.out]; exact HRD.out⟩, HB.out⟩
theorem rwhich_no (seed n s step : Int) (w : World) (h : stepsI n s = 0 ∨ step < 0 ∨ 1000000 < step) : Calls Try.prog 26 #[.int .u64 seed, .int .i64 n, .int .i64 s, .int .i64 step] w (WhichOf w []) := by
  have HS := Lib.hid (rsteps_gen n s w)
  have HW := Lib.hid (WhichOf.nil_ w)
  generalize stepsI n s = K at HS h
  by_cases h1 : K = 0
  · have t1 : (K == 0) = true := by simpa using h1
    clear h h1
    go_enter Try.func26, Try.ntmps26
    go_wp2_with fail
    refine HS.out.mono ?_
    rintro en w' ⟨rfl, rfl⟩
    go_wp2
    go_ret
    exact HW.out
  · have t1 : (K == 0) = false := by simpa using h1
    have HM := Lib.hid (rmays_any step false (by simp; omega) w)
    clear h h1
    go_enter Try.func26, Try.ntmps26
    go_wp2_with fail
    refine HS.out.mono ?_
    rintro en w' ⟨rfl, rfl⟩
    go_wp2_with fail
    refine HM.out.mono ?_
    rintro en w' ⟨rfl, rfl⟩
    go_wp2
    go_ret
    exact HW.out
theorem rwhich_gen (seed n s step : Int) (w : World) (h0 : 0 ≤ seed) (h1 : seed < 18446744073709551616) : Calls Try.prog 26 #[.int .u64 seed, .int .i64 n, .int .i64 s, .int .i64 step] w (WhichOf w (whichI seed n s step)) := by
  by_cases h : 1 ≤ n ∧ n ≤ 64 ∧ 1 ≤ s ∧ s ≤ 8 ∧ 0 ≤ step ∧ step ≤ 1000000
  · obtain ⟨m, rfl⟩ := Int.eq_ofNat_of_zero_le (show 0 ≤ n by omega)
    obtain ⟨k, rfl⟩ := Int.eq_ofNat_of_zero_le (show 0 ≤ s by omega)
    obtain ⟨st, rfl⟩ := Int.eq_ofNat_of_zero_le (show 0 ≤ step by omega)
    have hK := steps_pos (n := m) (s := k) (by omega) (by omega)
    have e : whichI seed (m : Int) (k : Int) (st : Int) = chunkI (orderI seed m (st / stepsN m k)) k (st % stepsN m k) := by
      unfold whichI
      rw [if_pos h]
      simp only [Int.toNat_natCast]
    have hw := rwhich_in seed m k (st / stepsN m k) (st % stepsN m k) w h0 h1 (by omega) (by omega) (by omega) (by omega) (by rw [which_split]; omega) (Nat.mod_lt _ (by omega))
    rw [which_split, ← e] at hw
    exact hw
  · rw [which_nil h]
    exact rwhich_no seed n s step w (which_out h)
end Go.Proofs.Ytfhlailhcfjjaaa
