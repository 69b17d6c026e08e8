/- The walk of BatchEach. -/
import Derived.Test.YtfhlailhcfjjaaaBatchPlain
import Derived.Test.YtfhlailhcfjjaaaWalkBatch
namespace Go.Proofs.Ytfhlailhcfjjaaa
open Go.RowKit
set_option linter.unusedVariables false

set_option maxHeartbeats 3200000 in
set_option maxRecDepth 100000 in
theorem batchEach_walk (a0 a1 a2 a3 : Int) (w0 : (Lit.int .u64 a0).wf = true) (w1 : (Lit.int .i64 a1).wf = true) (w2 : (Lit.int .i64 a2).wf = true) (w3 : (Lit.int .i64 a3).wf = true) (w : World) :
    Calls Try.prog 3 #[.int .u64 a0, .int .i64 a1, .int .i64 a2, .int .i64 a3] w fun en w' => en = .returned (.bool true) ∧ Below w.heap.size w w' := by
  obtain ⟨s0, s1⟩ := u64w w0
  obtain ⟨b1, b1'⟩ := i64w w1
  obtain ⟨b2, b2'⟩ := i64w w2
  obtain ⟨b3, b3'⟩ := i64w w3
  obtain ⟨N, hN, hN1, hN2⟩ := one_in a1 64 (by omega) (by omega)
  obtain ⟨P, hP, hP1, hP2⟩ := one_in a2 8 (by omega) (by omega)
  obtain ⟨E, hE, hE1⟩ := mod_in a3 1000 (by omega) (by omega)
  have HN := Lib.hid hN
  have HP := Lib.hid hP
  have HE := Lib.hid hE
  have hN2' : N ≤ 64 := by omega
  have hP2' : P ≤ 8 := by omega
  have hE1' : E ≤ 1000 := by omega
  have hk1 := steps_pos hN1 hP1
  have hk1' := steps_le hN1 hP1
  have ha1 := steps_all N P hP1
  have HLT : Hid (∀ i, i < stepsN N P → i * P < N) := Lib.hid (fun i hi => steps_lt hN1 hP1 hi)
  have HLO : Hid (∀ i L, i < stepsN N P → L = min P (N - i * P) → L ≠ P → i = stepsN N P - 1 ∧ L + P * (stepsN N P - 1) = N) := Lib.hid (fun i L hi h1 h2 => last_one hN1 hP1 hi h1 h2)
  have HSP : Hid (∀ W : World, Calls Try.prog 12 #[.int .i64 N, .int .i64 P] W fun en w' => en = .returned (.int .i64 (stepsN N P : Nat)) ∧ W = w') := Lib.hid (fun W => steps_any N P W hN1 hN2' hP1 hP2')
  have HWP : Hid (∀ (W : World) (i : Nat), i < stepsN N P → Calls Try.prog 13 #[.int .u64 a0, .int .i64 N, .int .i64 P, .int .i64 ((E * stepsN N P + i : Nat) : Int)] W (New_int W (chunkI (orderI a0 N E) P i))) := Lib.hid (fun W i hi => which_any a0 N P E i W s0 s1 hN1 hN2' hP1 hP2' hE1' hi)
  have hdiv : ((N : Int) + (P : Int) - 1) / (P : Int) = (stepsN N P : Nat) := by
    unfold stepsN
    rw [Int.natCast_ediv]
    congr 1
    omega
  have HL := Lib.hid (order_length a0 N E hN1 hN2')
  have HEA : Hid (Each N (orderI a0 N E)) := Lib.hid (each_perm _ _ N hN1 (by omega))
  have HAL : Hid (HasAll N (orderI a0 N E)) := Lib.hid (all_perm _ _ N hN1 (by omega))
  generalize stepsN N P = K1 at *
  obtain ⟨M1, hM1⟩ : ∃ M, E * K1 = M := ⟨_, rfl⟩
  have hm1 : M1 ≤ 64000 := by
    have : E * K1 ≤ 1000 * 64 := Nat.mul_le_mul hE1' (by omega)
    omega
  rw [hM1] at HWP
  have q1 : (E : Int) * (K1 : Int) = (M1 : Int) := by rw [← hM1]; simp
  obtain ⟨R, hR⟩ : ∃ R, P * (K1 - 1) = R := ⟨_, rfl⟩
  have hr1 : R ≤ 512 := by
    have : P * (K1 - 1) ≤ 8 * 64 := Nat.mul_le_mul hP2' (by omega)
    omega
  have q3 : (P : Int) * ((K1 : Int) - 1) = (R : Int) := by
    rw [← hR]
    have : (K1 : Int) - 1 = ((K1 - 1 : Nat) : Int) := by omega
    rw [this]; simp
  rw [hR] at HLO
  have HA1 := Lib.hid ha1
  have HQ1 := Lib.hid q1
  have HQ3 := Lib.hid q3
  obtain ⟨xs, hxs⟩ : ∃ xs, orderI a0 N E = xs := ⟨_, rfl⟩
  rw [hxs] at HL HWP HEA HAL
  have hmk : ∀ (W : World), (Instr.makeSlice 24 (.int .i64 (N : Int)) (.int .i64 (N : Int))).run Try.prog W = .ok (.slice (some ⟨W.heap.size, 0, none⟩) N N) (W.alloc (.cells (zerosA (.int .i64 0) N) 3)) := fun W => by
    obtain ⟨i, hi, hz, hs, hb⟩ := info_parts elem_int.info
    exact run_make1 24 3 i _ elem_int.und hi hz hs rfl .i64 .i64 N (by rw [hb]; omega) (by omega) W
  have hne : ¬ (P : Int) = 0 := by omega
  have hkk : ((K1 : Int) != (K1 : Int)) = false := by simp
  clear w0 w1 w2 w3 hN hP hE ha1 hM1 hR hxs q1 q3
  go_enter Try.func3, Try.ntmps3
  go_upto_region 2 with fail
  rw [HN.out, HP.out, HE.out]
  go_wp2_with fail
  refine (HSP.out _).mono ?_
  rintro en w' ⟨rfl, rfl⟩
  go_wp2_with fail
  have kz : Blk (w.alloc (.cells (zerosA (.int .i64 0) N) 3)) w.heap.size 3 (ints .i64 (cntI N xs 0)) := by
    have h := Blk.freshA w 3 (zerosA (.int .i64 0) N)
    rw [zerosA_toList] at h
    rw [cnt_zero]
    simpa [ints] using h
  have hb0 : Below w.heap.size w (w.alloc (.cells (zerosA (.int .i64 0) N) 3)) := (Below.refl _ _).alloc (Nat.le_refl _) _
  generalize (w.alloc (.cells (zerosA (.int .i64 0) N) 3)) = wA at kz hb0 ⊢
  obtain ⟨S, hS⟩ : ∃ S, w.heap.size = S := ⟨_, rfl⟩
  rw [hS] at kz ⊢
  have HSS := Lib.hid hS
  have KZ := Lib.hid kz
  have HB0 := Lib.hid hb0
  clear hmk hdiv hkk hne kz hb0 hS
  go_loopw [45] (fun i wr => ∃ k : Nat, k ≤ K1 ∧ i = .int .i64 k ∧ Blk wr S 3 (ints .i64 (cntI N xs (k * P))) ∧ Below w.heap.size w wr) (fun i _ => K1 - (intOf i).toNat)
  case atStart => exact ⟨0, by omega, rfl, by simpa using KZ.out, HB0.out⟩
  case round =>
    obtain ⟨k, hk, rfl, hkb, hbel⟩ := hrel
    by_cases hlt : k < K1
    · have HC := Lib.hid (HWP.out wr k hlt)
      have hcl := chunk_length xs P k
      rw [HL.out] at hcl
      have hkp := HLT.out k hlt
      have hcast : ((M1 + k : Nat) : Int) = (M1 : Int) + (k : Int) := by omega
      rw [hcast] at HC
      have q1 := HQ1.out
      obtain ⟨ys, hys⟩ : ∃ ys, chunkI xs P k = ys := ⟨_, rfl⟩
      rw [hys] at HC hcl
      obtain ⟨L, hL⟩ : ∃ L, ys.length = L := ⟨_, rfl⟩
      have HYS := Lib.hid hys
      have HLL := Lib.hid hL
      rw [hL] at hcl
      have hlo := HLO.out k L hlt hcl
      have HCL := Lib.hid hcl
      have HKB := Lib.hid hkb
      have HBL := Lib.hid hbel
      have hL8 : L ≤ 8 := by omega
      have q3 := HQ3.out
      by_cases hLP : L = P
      · have e1 : ((L : Int) != (P : Int)) = false := by simp [hLP]
        clear hkb hbel hcast hys hL hcl hlo hLP q3
        go_wp2_with fail
        refine HC.out.mono ?_
        rintro en w5 ⟨A5, c5, rfl, hown5, hb5⟩
        rw [HLL.out] at hown5 ⊢
        have hkb5 := HKB.out.below hb5 HKB.out.lt
        have hbel5 := HBL.out.trans (hb5.mono HBL.out.size)
        have hSW := HKB.out.lt
        obtain ⟨W0, hW0⟩ : ∃ W0, wr.heap.size = W0 := ⟨_, rfl⟩
        rw [hW0] at hown5 hSW
        have HK5 := Lib.hid hkb5
        have HB5 := Lib.hid hbel5
        have HO5 := Lib.hid hown5
        clear hkb5 hbel5 hown5 hb5 hW0 HKB HBL HC
        go_wp2_with fail
        go_loopw [80] (fun i wq => ∃ j : Nat, j ≤ L ∧ i = .int .i64 j ∧ Blk wq S 3 (ints .i64 (cntI N xs (k * P + j))) ∧ wq.ownsRow W0 3 1 (.slice A5 L c5) L (ints .i64 ys) ∧ Below w.heap.size w wq) (fun i _ => L - (intOf i).toNat)
        case atStart => exact ⟨0, by omega, rfl, HK5.out, HO5.out, HB5.out⟩
        case round =>
          obtain ⟨j, hj, rfl, hkb, hown, hbel⟩ := hrel
          by_cases hlt2 : j < L
          · have hLn := HCL.out
            have hkj : k * P + j < N := by omega
            obtain ⟨x, hx, hxN⟩ := each_nat HEA.out hkj
            have hyx : ys[j]? = some (x : Int) := by
              obtain ⟨y, hy0⟩ : ∃ y, ys[j]? = some y := ⟨ys[j]'(by have := HLL.out; omega), List.getElem?_eq_getElem (by have := HLL.out; omega)⟩
              have hy1 := hy0
              rw [← HYS.out] at hy1
              rw [hy0, ← hx, chunk_at hy1]
            have hc0 := cnt_at N xs HEA.out (k * P + j) x hkj hxN hx
            have hcs := cnt_set N xs HEA.out (k * P + j) x hkj hx
            obtain ⟨g, cap, rest, hv, hg0, hg1, hcap, hcm, hrl, hxl, hblk⟩ := own_blk hown (by omega)
            injection hv with q1 q2 q3
            subst q1 q3
            have z1 : wr.cell? ⟨g, j, none⟩ = some (.int .i64 x) := by
              rw [hblk.cell, List.getElem?_append_left (by omega), ints, List.getElem?_map, hyx]
              rfl
            have d1 : wr.cell? ⟨S, x, none⟩ = some (.int .i64 0) := by
              rw [hkb.cell, ints, List.getElem?_map, hc0]
              rfl
            have f1 := hkb.free x
            have hput := hkb.put x (.int .i64 1)
            rw [ints_set, hcs] at hput
            have hoff : Off (fun i => i = S) wr (wr.setCell ⟨S, x, none⟩ (.int .i64 1)) := Off.setCell (p := ⟨S, x, none⟩) (Off.refl (fun i => i = S) wr) (.inl rfl) _
            have hown2 := own_off hown hoff (fun q hq he => by have := (hown.lt q hq).1; omega)
            have hbel2 := hbel.setCell (p := ⟨S, x, none⟩) (by show w.heap.size ≤ S; have := HSS.out; omega) (.int .i64 1)
            have HPUT := Lib.hid hput
            have HOW2 := Lib.hid hown2
            have HBE2 := Lib.hid hbel2
            have i1 : (0 : Int) ≤ (j : Int) := by omega
            have i2 : (j : Int) < (L : Int) := by omega
            have i3 : (0 : Int) ≤ (x : Int) := by omega
            have i4 : (x : Int) < (N : Int) := by omega
            have g1 : decide ((x : Int) < 0) = false := by simp
            have g2 : decide ((N : Int) ≤ (x : Int)) = false := by simp; omega
            clear hkb hown hbel hput hoff hown2 hbel2 hc0 hcs hyx hx hblk hrl hxl hLn hkj hcap hcm hg0
            go_wp2
            go_roundw
            case rel => exact ⟨j + 1, by omega, by go_num, HPUT.out, HOW2.out, HBE2.out⟩
            case measure => simp [intOf]; omega
          · obtain rfl : j = L := by omega
            have hcl := HCL.out
            have hnext : cntI N xs (k * P + j) = cntI N xs ((k + 1) * P) := by
              apply cnt_take
              rw [Nat.add_mul, Nat.one_mul, List.take_eq_take_iff, HL.out]
              omega
            rw [hnext] at hkb
            have HKB := Lib.hid hkb
            have HBL := Lib.hid hbel
            clear hnext hkb hbel hown hcl
            go_wp2
            go_roundw
            case rel => exact ⟨k + 1, by omega, by go_num, HKB.out, HBL.out⟩
            case measure => simp [intOf]; omega
      · have e1 : ((L : Int) != (P : Int)) = true := by simp; omega
        have hlo := hlo hLP
        have e2 : ((k : Int) != (K1 : Int) - 1) = false := by simp; omega
        have e3 : ((L : Int) != (N : Int) - (R : Int)) = false := by simp; omega
        clear hkb hbel hcast hys hL hcl hlo hLP
        go_wp2_with fail
        refine HC.out.mono ?_
        rintro en w5 ⟨A5, c5, rfl, hown5, hb5⟩
        rw [HLL.out] at hown5 ⊢
        have hkb5 := HKB.out.below hb5 HKB.out.lt
        have hbel5 := HBL.out.trans (hb5.mono HBL.out.size)
        have hSW := HKB.out.lt
        obtain ⟨W0, hW0⟩ : ∃ W0, wr.heap.size = W0 := ⟨_, rfl⟩
        rw [hW0] at hown5 hSW
        have HK5 := Lib.hid hkb5
        have HB5 := Lib.hid hbel5
        have HO5 := Lib.hid hown5
        clear hkb5 hbel5 hown5 hb5 hW0 HKB HBL HC
        go_wp2_with fail
        go_loopw [80] (fun i wq => ∃ j : Nat, j ≤ L ∧ i = .int .i64 j ∧ Blk wq S 3 (ints .i64 (cntI N xs (k * P + j))) ∧ wq.ownsRow W0 3 1 (.slice A5 L c5) L (ints .i64 ys) ∧ Below w.heap.size w wq) (fun i _ => L - (intOf i).toNat)
        case atStart => exact ⟨0, by omega, rfl, HK5.out, HO5.out, HB5.out⟩
        case round =>
          obtain ⟨j, hj, rfl, hkb, hown, hbel⟩ := hrel
          by_cases hlt2 : j < L
          · have hLn := HCL.out
            have hkj : k * P + j < N := by omega
            obtain ⟨x, hx, hxN⟩ := each_nat HEA.out hkj
            have hyx : ys[j]? = some (x : Int) := by
              obtain ⟨y, hy0⟩ : ∃ y, ys[j]? = some y := ⟨ys[j]'(by have := HLL.out; omega), List.getElem?_eq_getElem (by have := HLL.out; omega)⟩
              have hy1 := hy0
              rw [← HYS.out] at hy1
              rw [hy0, ← hx, chunk_at hy1]
            have hc0 := cnt_at N xs HEA.out (k * P + j) x hkj hxN hx
            have hcs := cnt_set N xs HEA.out (k * P + j) x hkj hx
            obtain ⟨g, cap, rest, hv, hg0, hg1, hcap, hcm, hrl, hxl, hblk⟩ := own_blk hown (by omega)
            injection hv with q1 q2 q3
            subst q1 q3
            have z1 : wr.cell? ⟨g, j, none⟩ = some (.int .i64 x) := by
              rw [hblk.cell, List.getElem?_append_left (by omega), ints, List.getElem?_map, hyx]
              rfl
            have d1 : wr.cell? ⟨S, x, none⟩ = some (.int .i64 0) := by
              rw [hkb.cell, ints, List.getElem?_map, hc0]
              rfl
            have f1 := hkb.free x
            have hput := hkb.put x (.int .i64 1)
            rw [ints_set, hcs] at hput
            have hoff : Off (fun i => i = S) wr (wr.setCell ⟨S, x, none⟩ (.int .i64 1)) := Off.setCell (p := ⟨S, x, none⟩) (Off.refl (fun i => i = S) wr) (.inl rfl) _
            have hown2 := own_off hown hoff (fun q hq he => by have := (hown.lt q hq).1; omega)
            have hbel2 := hbel.setCell (p := ⟨S, x, none⟩) (by show w.heap.size ≤ S; have := HSS.out; omega) (.int .i64 1)
            have HPUT := Lib.hid hput
            have HOW2 := Lib.hid hown2
            have HBE2 := Lib.hid hbel2
            have i1 : (0 : Int) ≤ (j : Int) := by omega
            have i2 : (j : Int) < (L : Int) := by omega
            have i3 : (0 : Int) ≤ (x : Int) := by omega
            have i4 : (x : Int) < (N : Int) := by omega
            have g1 : decide ((x : Int) < 0) = false := by simp
            have g2 : decide ((N : Int) ≤ (x : Int)) = false := by simp; omega
            clear hkb hown hbel hput hoff hown2 hbel2 hc0 hcs hyx hx hblk hrl hxl hLn hkj hcap hcm hg0
            go_wp2
            go_roundw
            case rel => exact ⟨j + 1, by omega, by go_num, HPUT.out, HOW2.out, HBE2.out⟩
            case measure => simp [intOf]; omega
          · obtain rfl : j = L := by omega
            have hcl := HCL.out
            have hnext : cntI N xs (k * P + j) = cntI N xs ((k + 1) * P) := by
              apply cnt_take
              rw [Nat.add_mul, Nat.one_mul, List.take_eq_take_iff, HL.out]
              omega
            rw [hnext] at hkb
            have HKB := Lib.hid hkb
            have HBL := Lib.hid hbel
            clear hnext hkb hbel hown hcl
            go_wp2
            go_roundw
            case rel => exact ⟨k + 1, by omega, by go_num, HKB.out, HBL.out⟩
            case measure => simp [intOf]; omega
    · obtain rfl : k = K1 := by omega
      have hall := cnt_all N xs HAL.out (k * P)
      have HKB := Lib.hid hkb
      have HBL := Lib.hid hbel
      have HCA : Hid (∀ j, j < N → (cntI N xs (k * P))[j]? = some 1) := Lib.hid (fun j hj => hall j (by have := HA1.out; omega) hj)
      clear hall hkb hbel
      go_wp2_with fail
      obtain ⟨W, hW⟩ : ∃ W, wr = W := ⟨_, rfl⟩
      rw [hW] at HKB HBL ⊢
      clear hW
      go_loopw [101] (fun i wq => ∃ j : Nat, j ≤ N ∧ i = .int .i64 j ∧ wq = W) (fun i _ => N - (intOf i).toNat)
      case atStart => exact ⟨0, by omega, rfl, rfl⟩
      case round =>
        obtain ⟨j, hj, rfl, rfl⟩ := hrel
        by_cases hlt2 : j < N
        · have z1 : wr.cell? ⟨S, j, none⟩ = some (.int .i64 1) := by
            rw [HKB.out.cell, ints, List.getElem?_map, HCA.out j hlt2]
            rfl
          have i1 : (0 : Int) ≤ (j : Int) := by omega
          have i2 : (j : Int) < (N : Int) := by omega
          go_wp2
          go_roundw
          case rel => exact ⟨j + 1, by omega, by go_num, by first | rfl | trivial⟩
          case measure => simp [intOf]; omega
        · go_wp2_with (go_at_call 14; refine (awake23_any _).mono ?_; rintro en w15 ⟨rfl, hb15⟩)
          go_ret
          exact ⟨rfl, HBL.out.trans (hb15.mono HBL.out.size)⟩
end Go.Proofs.Ytfhlailhcfjjaaa
