/- The walks of PrngPerms, PrngEach, PrngSwaps. -/
import Derived.Test.YtnchcddbdenllaaPerm
import Derived.Test.YtnchcddbdenllaaSame
import Derived.Test.YtnchcddbdenllaaWalkUnlike
namespace Go.Proofs.Ytnchcddbdenllaa
open Go.RowKit Go.ChangeShapes
set_option linter.unusedVariables false

theorem i64_of {x : Int} (w : (Lit.int .i64 x).wf = true) : -9223372036854775808 ≤ x ∧ x ≤ 9223372036854775807 := by
  simp only [Lit.wf, IntKind.min, IntKind.max, IntKind.signed, IntKind.bits, Bool.and_eq_true] at w
  have h2 : (2:Int)^63 = 9223372036854775808 := by decide
  simp at w
  omega

theorem prngPerms_walk (a0 a1 a2 : Int) (w0 : (Lit.int .u64 a0).wf = true) (w1 : (Lit.int .u64 a1).wf = true) (w2 : (Lit.int .i64 a2).wf = true) (w : World) :
    Calls Try.prog 8 #[.int .u64 a0, .int .u64 a1, .int .i64 a2] w fun e w' => e = .returned (.bool true) ∧ Below w.heap.size w w' := by
  obtain ⟨h0, h0'⟩ := u64_of w0
  obtain ⟨h1, h1'⟩ := u64_of w1
  obtain ⟨h2, h2'⟩ := i64_of w2
  clear w0 w1 w2
  by_cases hbig : 300 < a2
  all_goals
    have hp : 300 < a2 → 0 ≤ a2 := by omega
    have hq : 300 < a2 → decide (300 < a2) = true := by simp
    go_enter Try.func8, Try.ntmps8
    go_wp2_with fail
    refine (perm_any _ _ _ (by omega) (by omega) (by omega) (by omega) _).mono ?_
    rintro e w1 ⟨v, rfl, hown, hb1⟩
    go_wp2_with fail
    refine (rperm_any _ _ _ (by omega) (by omega) (by omega) (by omega) _).mono ?_
    rintro e w2 ⟨v2, rfl, hown2, hb2⟩
    go_wp2_with fail
    refine (sameints_any _ _ _ _ _ _ _ ((Reads.of_own hown).below hb2) (Reads.of_own hown2)).mono ?_
    rintro e w3 ⟨rfl, n, rfl⟩
    rw [beq_self_eq_true]
    have hb3 : Below w.heap.size w (w2.drewN n) := below_drewN (hb1.trans (hb2.mono hb1.size)) n
    clear hb1 hb2 hown hown2
    go_wp2_with (go_at_call 13; refine (awake1_any _).mono ?_; rintro e w' ⟨rfl, rfl⟩)
    go_ret
    exact ⟨rfl, hb3⟩

theorem info_bool : (Try.prog.info? 4).map (fun i => (i.zero, i.size, i.bytes)) = some (some (.bool false), 1, 1) := by kernel_rfl

set_option maxRecDepth 100000 in
theorem prngEach_walk (a0 a1 a2 : Int) (w0 : (Lit.int .u64 a0).wf = true) (w1 : (Lit.int .u64 a1).wf = true) (w2 : (Lit.int .i64 a2).wf = true) (w : World) :
    Calls Try.prog 9 #[.int .u64 a0, .int .u64 a1, .int .i64 a2] w fun e w' => e = .returned (.bool true) ∧ Below w.heap.size w w' := by
  obtain ⟨h0, h0'⟩ := u64_of w0
  obtain ⟨h1, h1'⟩ := u64_of w1
  clear w0 w1 w2
  have hw0 : 0 ≤ IntKind.u64.wrap a2 := by rw [wrap_I64]; exact I64_lo _
  obtain ⟨n, hn⟩ : ∃ n : Nat, IntKind.u64.wrap a2 % 300 = (n : Int) := ⟨(IntKind.u64.wrap a2 % 300).toNat, by omega⟩
  have hn300 : n < 300 := by omega
  obtain ⟨i0, hi, hz0, hz1, hz2⟩ := info_parts info_bool
  have hmk := run_make1 (P := Try.prog) 35 4 i0 (.bool false) Try.underlying35 hi hz0 hz1 rfl .i64 .i64 n (by rw [hz2]; omega) (by omega)
  go_enter Try.func9, Try.ntmps9
  go_wp2_with fail
  refine (perm_any _ _ _ (by omega) (by omega) (by omega) (by omega) _).mono ?_
  rintro e w1 ⟨v, rfl, hown, hb1⟩
  have hea : Each n (permI a0 a1 n) := by
    by_cases hn0 : n = 0
    · subst hn0
      rw [perm_bad _ _ _ (by omega)]
      exact each_iota 0
    · exact each_perm a0 a1 n (by omega) (by omega)
  have hrd := Reads.of_own hown
  generalize permI a0 a1 n = xs at hown hrd hea
  have hb2 : Below w1.heap.size w (w1.alloc (.cells (zerosA (.bool false) n) 4)) → True := fun _ => trivial
  obtain ⟨A, m, c, rfl, hm, hmc, hcm, hat⟩ := hrd
  rw [length_ints] at hm
  have hlen := hea.1
  obtain rfl : n = m := by omega
  have e1 : ((n : Int) != (n : Int)) = false := by simp
  have HL := Lib.hid hlen
  clear hown hlen hb2 hm
  have hbl := Blk.freshA w1 4 (zerosA (.bool false) n)
  have hbb : bools ((List.range n).map (fun j => seenB xs 0 j)) = (zerosA (.bool false) n).toList := by rw [seen_zero, zerosA_toList]; simp [bools]
  rw [← hbb] at hbl
  have hbe := (Below.refl w1.heap.size w1).alloc (Nat.le_refl _) (.cells (zerosA (.bool false) n) 4)
  have HBL := Lib.hid hbl
  have HBE := Lib.hid hbe
  clear hbb hbl hbe
  go_wp2
  clear hmk
  go_loopw [27] (fun i wr => ∃ k : Nat, k ≤ n ∧ i = .int .i64 k ∧ Blk wr w1.heap.size 4 (bools ((List.range n).map (fun j => seenB xs k j))) ∧ Below w1.heap.size w1 wr)
    (fun i _ => n - (intOf i).toNat)
  case atStart => exact ⟨0, by omega, rfl, HBL.out, HBE.out⟩
  case round =>
    clear HBL HBE
    obtain ⟨k, hk, rfl, hblk, hbel⟩ := hrel
    by_cases hlt : k < n
    · obtain ⟨g, o, rfl, hg, hx⟩ := hat.out (by omega)
      have hl := HL.out
      have hkl : k < xs.length := by omega
      have hbd := hea.2.1 k hlt
      rw [getD_lt _ _ hkl] at hbd
      obtain ⟨x, hxk⟩ := Int.eq_ofNat_of_zero_le hbd.1
      have hcx := (hbel.cell (p := ⟨g, o + k, none⟩) hg).trans (hx k _ (ints_at _ _ _ hkl))
      rw [hxk] at hcx hbd
      have hxs : xs[k]? = some (x : Int) := by rw [List.getElem?_eq_getElem hkl, hxk]
      have hxn : x < n := by omega
      have hc1 : wr.cell? ⟨w1.heap.size, x, none⟩ = some (.bool false) := by
        rw [hblk.cell, bools_at _ _ (by simp; omega)]
        simp [seen_not n xs hea k x hlt hxs]
      have hf1 := hblk.free x
      have hb2 := hblk.put x (.bool true)
      rw [bools_set, seen_set n xs hea k x hlt hxs] at hb2
      have hbel2 := hbel.setCell (p := ⟨w1.heap.size, x, none⟩) (Nat.le_refl _) (.bool true)
      have HB := Lib.hid hb2
      have t1 : decide ((x : Int) < 0) = false := by simp
      have t2 : decide ((n : Int) ≤ (x : Int)) = false := by simp; omega
      clear hb2 hblk hat hx hl hkl hbd hxk hxs
      go_wp2
      go_roundw
      case rel => exact ⟨k + 1, by omega, by go_num, HB.out, hbel2⟩
      case measure => simp [intOf]; omega
    · go_wp2_with (go_at_call 13; refine (awake1_any _).mono ?_; rintro e w' ⟨rfl, rfl⟩)
      go_ret
      exact ⟨rfl, hb1.trans (hbel.mono hb1.size)⟩

set_option maxRecDepth 100000 in
theorem prngSwaps_walk (a0 a1 a2 : Int) (w0 : (Lit.int .u64 a0).wf = true) (w1 : (Lit.int .u64 a1).wf = true) (w2 : (Lit.int .i64 a2).wf = true) (w : World) :
    Calls Try.prog 10 #[.int .u64 a0, .int .u64 a1, .int .i64 a2] w fun e w' => e = .returned (.bool true) ∧ Below w.heap.size w w' := by
  obtain ⟨h0, h0'⟩ := u64_of w0
  obtain ⟨h1, h1'⟩ := u64_of w1
  clear w0 w1 w2
  have hw0 : 0 ≤ IntKind.u64.wrap a2 := by rw [wrap_I64]; exact I64_lo _
  obtain ⟨m, hn⟩ : ∃ n : Nat, IntKind.u64.wrap a2 % 100 = (n : Int) := ⟨(IntKind.u64.wrap a2 % 100).toNat, by omega⟩
  have hm100 : m < 100 := by omega
  go_enter Try.func10, Try.ntmps10
  go_wp2_with fail
  rw [show (1 + (m : Int)) = ((m + 1 : Nat) : Int) from by omega]
  obtain ⟨n, hnm⟩ : ∃ n, m + 1 = n := ⟨_, rfl⟩
  rw [hnm]
  have n0 : 1 ≤ n := by omega
  have n1 : n ≤ 100 := by omega
  clear hnm hn hm100
  refine (perm_any _ _ _ (by omega) (by omega) (by omega) (by omega) _).mono ?_
  rintro e w1 ⟨v, rfl, hown, hb1⟩
  have hlen := length_perm a0 a1 n (by omega) (by omega)
  have hun := unshuf_perm a0 a1 n (by omega) (by omega)
  rw [hlen] at hown
  generalize permI a0 a1 n = xs at hown hlen hun
  obtain ⟨g, cap, rest, rfl, hg0, hg1, hcap, hcap2, hrest, hlen0, hblk⟩ := own_blk hown (by omega)
  have e1 : ((n : Int) != (n : Int)) = false := by simp
  have HL := Lib.hid hlen
  have HU := Lib.hid hun
  clear hown hrest hlen0 hlen hun
  go_wp2
  go_loopw [8] (fun i wr => ∃ k : Nat, 1 ≤ k ∧ k ≤ n ∧ i = .int .i64 k ∧ Blk wr g 3 (ints .i64 (unshuf a0 a1 (k - 1) xs) ++ rest) ∧ Below w.heap.size w wr)
    (fun i _ => n - (intOf i).toNat)
  case atStart => exact ⟨1, by omega, by omega, rfl, hblk, hb1⟩
  case round =>
    clear hblk hb1 hg1
    obtain ⟨k, hk1, hk, rfl, hblk, hbel⟩ := hrel
    by_cases hlt : k < n
    · obtain ⟨j, rfl⟩ : ∃ j, k = j + 1 := ⟨k - 1, by omega⟩
      rw [Nat.add_sub_cancel] at hblk
      obtain ⟨ys, hys⟩ : ∃ ys, unshuf a0 a1 j xs = ys := ⟨_, rfl⟩
      have hlen : ys.length = n := by rw [← hys, length_unshuf]; exact HL.out
      have hp := pickI_le a0 a1 (j + 1)
      have hpe := pickI_eq a0 a1 (j + 1)
      obtain ⟨q, hq⟩ : ∃ q, pickI a0 a1 (j + 1) = q := ⟨_, rfl⟩
      have hsh2 : unshuf a0 a1 (j + 1) xs = swp ys (j + 1) q := by rw [← hys, ← hq]; rfl
      rw [hq] at hp hpe
      have HSH := Lib.hid hsh2
      rw [show (((j + 1 : Nat) : Int)) = (j : Int) + 1 from by omega] at hpe
      have HPE := Lib.hid hpe
      rw [hys] at hblk
      obtain ⟨x, hx⟩ : ∃ x, ys[j + 1]? = some x := ⟨ys[j + 1], by simp⟩
      obtain ⟨y, hy⟩ : ∃ y, ys[q]? = some y := ⟨ys[q], by simp⟩
      have hc1 : wr.cell? ⟨g, j + 1, none⟩ = some (.int .i64 x) := by rw [hblk.cell, List.getElem?_append_left (by rw [length_ints]; omega), ints]; simp [hx]
      have hc2 : wr.cell? ⟨g, q, none⟩ = some (.int .i64 y) := by rw [hblk.cell, List.getElem?_append_left (by rw [length_ints]; omega), ints]; simp [hy]
      obtain ⟨z, hc3⟩ : ∃ z, (wr.setCell ⟨g, j + 1, none⟩ (.int .i64 y)).cell? ⟨g, q, none⟩ = some z := by
        rw [(hblk.put (j + 1) (.int .i64 y)).cell]
        exact ⟨_, List.getElem?_eq_getElem (by rw [List.length_set, List.length_append, length_ints]; omega)⟩
      have hf1 := hblk.free (j + 1)
      have hf2 := hblk.free q
      have hb2 := (hblk.put (j + 1) (.int .i64 y)).put q (.int .i64 x)
      rw [List.set_append_left _ _ (by rw [length_ints]; omega), ints_set, List.set_append_left _ _ (by rw [length_ints, List.length_set]; omega), ints_set] at hb2
      have e2 : (ys.set (j + 1) y).set q x = swp ys (j + 1) q := by unfold swp; simp [hx, hy]
      rw [e2, ← hsh2] at hb2
      have hbel2 := (hbel.setCell (p := ⟨g, j + 1, none⟩) hg0 (.int .i64 y)).setCell (p := ⟨g, q, none⟩) hg0 (.int .i64 x)
      have HB := Lib.hid hb2
      have t1 : decide ((q : Int) < 0) = false := by simp
      have t2 : decide ((j : Int) + 1 < (q : Int)) = false := by simp; omega
      clear hb2 hblk e2 hx hy hlen hys hsh2 hq hpe hk1
      go_wp2_with (go_at_call 16; refine (below_any _ _ _ _ (by omega) (by omega) (by omega) (by omega) (by omega) (by omega) _).mono ?_; rintro e w' ⟨rfl, rfl⟩; rw [HPE.out])
      clear HPE hbel
      go_region
      go_wp2
      go_roundw
      case rel => exact ⟨j + 2, by omega, by omega, by go_num, HB.out.drew, hbel2.drew⟩
      case measure => simp [intOf]; omega
    · obtain rfl : k = n := by omega
      rw [HU.out] at hblk
      clear hk1 hk hlt HU HL e1
      go_wp2
      go_loopw [60] (fun i wr => ∃ j : Nat, j ≤ k ∧ i = .int .i64 j ∧ Blk wr g 3 (ints .i64 (iotaI k) ++ rest) ∧ Below w.heap.size w wr)
        (fun i _ => k - (intOf i).toNat)
      case atStart => exact ⟨0, by omega, rfl, hblk, hbel⟩
      case round =>
        clear hblk hbel
        obtain ⟨j, hj, rfl, hblk, hbel⟩ := hrel
        by_cases hlt : j < k
        · have hc1 : wr.cell? ⟨g, j, none⟩ = some (.int .i64 j) := by
            rw [hblk.cell, List.getElem?_append_left (by rw [length_ints, length_iotaI]; omega), ints]; simp [iotaI, hlt]
          have e2 : ((j : Int) != (j : Int)) = false := by simp
          have HB := Lib.hid hblk
          clear hblk
          go_wp2
          go_roundw
          case rel => exact ⟨j + 1, by omega, by go_num, HB.out, hbel⟩
          case measure => simp [intOf]; omega
        · go_wp2_with (go_at_call 13; refine (awake1_any _).mono ?_; rintro e w' ⟨rfl, rfl⟩)
          go_ret
          exact ⟨rfl, hbel⟩
end Go.Proofs.Ytnchcddbdenllaa
