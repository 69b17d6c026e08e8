/- The walk of BatchOrders. -/
import Derived.Test.YtfhlailhcfjjaaaBatch
import Derived.Deep.DeepCutAuto
namespace Go.Proofs.Ytfhlailhcfjjaaa
open Go.RowKit
set_option linter.unusedVariables false

theorem u64w {x : Int} (w : (Lit.int .u64 x).wf = true) : 0 ≤ x ∧ x < 18446744073709551616 := by
  simp only [Lit.wf, IntKind.min, IntKind.max, IntKind.signed, IntKind.bits, Bool.and_eq_true] at w
  have h2 : (2:Int)^64 = 18446744073709551616 := by decide
  simp at w
  omega
theorem i64w {x : Int} (w : (Lit.int .i64 x).wf = true) : -9223372036854775808 ≤ x ∧ x ≤ 9223372036854775807 := by
  simp only [Lit.wf, IntKind.min, IntKind.max, IntKind.signed, IntKind.bits, Bool.and_eq_true] at w
  have h2 : (2:Int)^63 = 9223372036854775808 := by decide
  simp at w
  omega
theorem mod_in (a m : Int) (hm : 0 < m) (hm' : m ≤ 1000) : ∃ n : Nat, wrap64 ((IntKind.u64.wrap a).tmod m) = (n : Int) ∧ (n : Int) < m := by
  have h0 : 0 ≤ IntKind.u64.wrap a := by rw [IntKind.wrap_u64]; omega
  have h1 := Int.tmod_lt_of_pos (IntKind.u64.wrap a) hm
  have h2 := Int.tmod_nonneg m h0
  generalize (IntKind.u64.wrap a).tmod m = r at h1 h2
  obtain ⟨n, rfl⟩ := Int.eq_ofNat_of_zero_le h2
  exact ⟨n, IntWalk.wrap64_in _ (by omega), h1⟩
theorem one_in (a m : Int) (hm : 0 < m) (hm' : m ≤ 1000) : ∃ n : Nat, wrap64 (1 + wrap64 ((IntKind.u64.wrap a).tmod m)) = (n : Int) ∧ 1 ≤ n ∧ (n : Int) ≤ m := by
  obtain ⟨n, h1, h2⟩ := mod_in a m hm hm'
  refine ⟨1 + n, ?_, by omega, by omega⟩
  rw [h1, IntWalk.wrap64_in _ (by omega)]
  omega
theorem order_length (seed : Int) (n ep : Nat) (hn : 1 ≤ n) (hn' : n ≤ 64) : (orderI seed n ep).length = n := length_perm _ _ n hn (by omega)
theorem own_bel {w w' : World} {base n : Nat} {e : TypeId} {sz : Nat} {v : Value} {xs : List Value} (h : w.ownsRow base e sz v n xs) (hb : Below w.heap.size w w') : w'.ownsRow base e sz v n xs :=
  own_off h (Off.of_below (S := fun _ => False) hb (fun i h => .inr h)) (fun _ _ h => h)

set_option maxHeartbeats 3200000 in
set_option maxRecDepth 100000 in
theorem batchOrders_walk (a0 a1 a2 a3 a4 : Int) (w0 : (Lit.int .u64 a0).wf = true) (w1 : (Lit.int .i64 a1).wf = true) (w2 : (Lit.int .i64 a2).wf = true) (w3 : (Lit.int .i64 a3).wf = true) (w4 : (Lit.int .i64 a4).wf = true) (w : World) :
    Calls Try.prog 4 #[.int .u64 a0, .int .i64 a1, .int .i64 a2, .int .i64 a3, .int .i64 a4] w fun en w' => en = .returned (.bool true) ∧ Below w.heap.size w w' := by
  obtain ⟨s0, s1⟩ := u64w w0
  obtain ⟨b1, b1'⟩ := i64w w1
  obtain ⟨b2, b2'⟩ := i64w w2
  obtain ⟨b3, b3'⟩ := i64w w3
  obtain ⟨b4, b4'⟩ := i64w w4
  obtain ⟨N, hN, hN1, hN2⟩ := one_in a1 64 (by omega) (by omega)
  obtain ⟨P, hP, hP1, hP2⟩ := one_in a2 8 (by omega) (by omega)
  obtain ⟨Q, hQ, hQ1, hQ2⟩ := one_in a3 8 (by omega) (by omega)
  obtain ⟨E, hE, hE1⟩ := mod_in a4 100 (by omega) (by omega)
  have HN := Lib.hid hN
  have HP := Lib.hid hP
  have HQ := Lib.hid hQ
  have HE := Lib.hid hE
  have hN2' : N ≤ 64 := by omega
  have hP2' : P ≤ 8 := by omega
  have hQ2' : Q ≤ 8 := by omega
  have hE1' : E ≤ 1000 := by omega
  have hk1 := steps_pos hN1 hP1
  have hk1' := steps_le hN1 hP1
  have hk2 := steps_pos hN1 hQ1
  have hk2' := steps_le hN1 hQ1
  have ha1 := steps_all N P hP1
  have ha2 := steps_all N Q hQ1
  have HSP : Hid (∀ W : World, Calls Try.prog 12 #[.int .i64 N, .int .i64 P] W fun en w' => en = .returned (.int .i64 (stepsN N P : Nat)) ∧ W = w') := Lib.hid (fun W => steps_any N P W hN1 hN2' hP1 hP2')
  have HSQ : Hid (∀ W : World, Calls Try.prog 12 #[.int .i64 N, .int .i64 Q] W fun en w' => en = .returned (.int .i64 (stepsN N Q : Nat)) ∧ W = w') := Lib.hid (fun W => steps_any N Q W hN1 hN2' hQ1 hQ2')
  have HWP : Hid (∀ (W : World) (i : Nat), i < stepsN N P → Calls Try.prog 13 #[.int .u64 a0, .int .i64 N, .int .i64 P, .int .i64 ((E * stepsN N P + i : Nat) : Int)] W (New_int W (chunkI (orderI a0 N E) P i))) := Lib.hid (fun W i hi => which_any a0 N P E i W s0 s1 hN1 hN2' hP1 hP2' hE1' hi)
  have HWQ : Hid (∀ (W : World) (i : Nat), i < stepsN N Q → Calls Try.prog 13 #[.int .u64 a0, .int .i64 N, .int .i64 Q, .int .i64 ((E * stepsN N Q + i : Nat) : Int)] W (New_int W (chunkI (orderI a0 N E) Q i))) := Lib.hid (fun W i hi => which_any a0 N Q E i W s0 s1 hN1 hN2' hQ1 hQ2' hE1' hi)
  have HL := Lib.hid (order_length a0 N E hN1 hN2')
  generalize stepsN N P = K1 at *
  generalize stepsN N Q = K2 at *
  obtain ⟨M1, hM1⟩ : ∃ M, E * K1 = M := ⟨_, rfl⟩
  obtain ⟨M2, hM2⟩ : ∃ M, E * K2 = M := ⟨_, rfl⟩
  have hm1 : M1 ≤ 64000 := by
    have : E * K1 ≤ 1000 * 64 := Nat.mul_le_mul hE1' (by omega)
    omega
  have hm2 : M2 ≤ 64000 := by
    have : E * K2 ≤ 1000 * 64 := Nat.mul_le_mul hE1' (by omega)
    omega
  rw [hM1] at HWP
  rw [hM2] at HWQ
  have q1 : (E : Int) * (K1 : Int) = (M1 : Int) := by rw [← hM1]; simp
  have q2 : (E : Int) * (K2 : Int) = (M2 : Int) := by rw [← hM2]; simp
  have HA1 := Lib.hid ha1
  have HA2 := Lib.hid ha2
  have HQ1 := Lib.hid q1
  have HQ2 := Lib.hid q2
  obtain ⟨xs, hxs⟩ : ∃ xs, orderI a0 N E = xs := ⟨_, rfl⟩
  rw [hxs] at HL HWP HWQ
  clear w0 w1 w2 w3 w4 hN hP hQ hE ha1 ha2 hM1 hM2 hxs q1 q2
  go_enter Try.func4, Try.ntmps4
  go_upto_region 2 with fail
  rw [HN.out, HP.out, HQ.out, HE.out]
  go_wp2_with fail
  refine (HSP.out _).mono ?_
  rintro en w' ⟨rfl, rfl⟩
  go_wp2_with fail
  go_loopw [11, 37] (fun x i wr => ∃ (k : Nat) (u : Value), k ≤ K1 ∧ i = .int .i64 k ∧ x = u ∧ wr.ownsRow w.heap.size 3 1 u (xs.take (k * P)).length (ints .i64 (xs.take (k * P))) ∧ Below w.heap.size w wr) (fun _ i _ => K1 - (intOf i).toNat)
  case atStart => exact ⟨0, _, by omega, rfl, rfl, by simp [ints]; exact World.ownsRow_nil _ _ _ _, Below.refl _ _⟩
  case round =>
    obtain ⟨k, u, hk, rfl, rfl, hown, hbel⟩ := hrel
    by_cases hlt : k < K1
    · have HC := Lib.hid (HWP.out wr k hlt)
      have hnx := chunk_next xs P k
      have hl1 : (xs.take (k * P)).length ≤ 64 := by rw [List.length_take, HL.out]; omega
      have hl2 : (chunkI xs P k).length ≤ 64 := by rw [chunk_length, HL.out]; omega
      have hcast : ((M1 + k : Nat) : Int) = (M1 : Int) + (k : Int) := by omega
      rw [hcast] at HC
      have q1 := HQ1.out
      generalize xs.take (k * P) = zs at hown hnx hl1
      generalize chunkI xs P k = ys at HC hnx hl2
      have HNX := Lib.hid hnx
      have HOW := Lib.hid hown
      have HBL := Lib.hid hbel
      clear hnx hown hbel hcast
      go_wp2_with fail
      refine (HSP.out _).mono ?_
      rintro en w' ⟨rfl, rfl⟩
      go_wp2_with fail
      refine HC.out.mono ?_
      rintro en w5 ⟨A5, c5, rfl, hown5, hb5⟩
      have ho := own_bel HOW.out hb5
      have hr := Reads.of_own hown5
      have hs5 := hb5.size
      have hsb := HBL.out.size
      have HO := Lib.hid ho
      have HR := Lib.hid hr
      have HB := Lib.hid (HBL.out.trans (hb5.mono hsb))
      clear ho hr hown5 hb5
      go_wp2_with (at_builtin; refine wpList_extend elem_int _ rfl (.tmp 40) (.tmp 51) rfl w.heap.size zs.length _ (ints .i64 zs) rfl HO.out w5.heap.size _ (ints .i64 ys) rfl HR.out (ints_one _ _) (by rw [length_ints]; unfold maxLen; omega) (by rw [length_ints]; omega) (by omega) ?_; intro A9 c9 w6 hown6 hgrow hfr)
      have hbw := HB.out.grown hgrow HB.out.size (fun k hk => (HO.out.lt k hk).1)
      have hlen : zs.length + (ints .i64 ys).length = (xs.take ((k + 1) * P)).length := by rw [length_ints, ← List.length_append, HNX.out]
      rw [ints_append, HNX.out, hlen] at hown6
      rw [hlen]
      clear hlen
      go_wp2
      go_roundw
      case rel => exact ⟨k + 1, _, by omega, by go_num, rfl, hown6, hbw⟩
      case measure => simp [intOf]; omega
    · obtain rfl : k = K1 := by omega
      have hall : xs.take (k * P) = xs := List.take_of_length_le (by have := HL.out; have := HA1.out; omega)
      rw [hall] at hown
      obtain ⟨Ax, cx, rfl⟩ := own_form hown
      have HOX := Lib.hid hown
      have HBX := Lib.hid hbel
      clear hall hown hbel
      go_wp2_with fail
      refine (HSQ.out _).mono ?_
      rintro en w' ⟨rfl, rfl⟩
      go_wp2_with fail
      obtain ⟨W, hW⟩ : ∃ W, wr = W := ⟨_, rfl⟩
      rw [hW] at HOX HBX ⊢
      clear hW
      go_loopw [12, 57] (fun x i wr => ∃ (j : Nat) (u : Value), j ≤ K2 ∧ i = .int .i64 j ∧ x = u ∧ wr.ownsRow W.heap.size 3 1 u (xs.take (j * Q)).length (ints .i64 (xs.take (j * Q))) ∧ Below W.heap.size W wr) (fun _ i _ => K2 - (intOf i).toNat)
      case atStart => exact ⟨0, _, by omega, rfl, rfl, by simp [ints]; exact World.ownsRow_nil _ _ _ _, Below.refl _ _⟩
      case round =>
        obtain ⟨j, u, hj, rfl, rfl, hown, hbel⟩ := hrel
        by_cases hlt : j < K2
        · have HC := Lib.hid (HWQ.out wr j hlt)
          have hnx := chunk_next xs Q j
          have hl1 : (xs.take (j * Q)).length ≤ 64 := by rw [List.length_take, HL.out]; omega
          have hl2 : (chunkI xs Q j).length ≤ 64 := by rw [chunk_length, HL.out]; omega
          have hcast : ((M2 + j : Nat) : Int) = (M2 : Int) + (j : Int) := by omega
          rw [hcast] at HC
          have q2 := HQ2.out
          generalize xs.take (j * Q) = zs at hown hnx hl1
          generalize chunkI xs Q j = ys at HC hnx hl2
          have HNX := Lib.hid hnx
          have HOW := Lib.hid hown
          have HBL := Lib.hid hbel
          clear hnx hown hbel hcast
          go_wp2_with fail
          refine (HSQ.out _).mono ?_
          rintro en w' ⟨rfl, rfl⟩
          go_wp2_with fail
          refine HC.out.mono ?_
          rintro en w5 ⟨A5, c5, rfl, hown5, hb5⟩
          have ho := own_bel HOW.out hb5
          have hr := Reads.of_own hown5
          have hs5 := hb5.size
          have hsb := HBL.out.size
          have HO := Lib.hid ho
          have HR := Lib.hid hr
          have HB := Lib.hid (HBL.out.trans (hb5.mono hsb))
          clear ho hr hown5 hb5
          go_wp2_with (at_builtin; refine wpList_extend elem_int _ rfl (.tmp 60) (.tmp 71) rfl W.heap.size zs.length _ (ints .i64 zs) rfl HO.out w5.heap.size _ (ints .i64 ys) rfl HR.out (ints_one _ _) (by rw [length_ints]; unfold maxLen; omega) (by rw [length_ints]; omega) (by omega) ?_; intro A9 c9 w6 hown6 hgrow hfr)
          have hbw := HB.out.grown hgrow HB.out.size (fun k hk => (HO.out.lt k hk).1)
          have hlen : zs.length + (ints .i64 ys).length = (xs.take ((j + 1) * Q)).length := by rw [length_ints, ← List.length_append, HNX.out]
          rw [ints_append, HNX.out, hlen] at hown6
          rw [hlen]
          clear hlen
          go_wp2
          go_roundw
          case rel => exact ⟨j + 1, _, by omega, by go_num, rfl, hown6, hbw⟩
          case measure => simp [intOf]; omega
        · obtain rfl : j = K2 := by omega
          have hall : xs.take (j * Q) = xs := List.take_of_length_le (by have := HL.out; have := HA2.out; omega)
          rw [hall] at hown
          obtain ⟨Ay, cy, rfl⟩ := own_form hown
          have hox := own_bel HOX.out hbel
          have hS := sameints_any xs xs _ _ wr _ _ (Reads.of_own hox) (Reads.of_own hown)
          rw [show (xs == xs) = true by simp] at hS
          have HS := Lib.hid hS
          have BB := Lib.hid (HBX.out.trans (hbel.mono HBX.out.size))
          have hxl := HL.out
          have hxi : ((xs.length : Int) == (N : Int)) = true := by simp [hxl]
          clear hall hown hbel hox hS hxl
          go_wp2_with (first | (go_at_call 15; refine HS.out.mono ?_; rintro en w7 ⟨rfl, mm, rfl⟩) | (go_at_call 14; refine (awake23_any _).mono ?_; rintro en w15 ⟨rfl, hb15⟩))
          go_ret
          exact ⟨rfl, (below_drewN BB.out _).trans (hb15.mono BB.out.size)⟩
end Go.Proofs.Ytfhlailhcfjjaaa
