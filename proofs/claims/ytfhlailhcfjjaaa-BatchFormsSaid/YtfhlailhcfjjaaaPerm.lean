/- Contracts of prng.Perm and the reference's. -/
import Derived.Test.YtfhlailhcfjjaaaBelow
import Derived.Test.YtfhlailhcfjjaaaPermPlain
import Derived.Test.YtfhlailhcfjjaaaMem
import Derived.BigRegion
namespace Go.Proofs.Ytfhlailhcfjjaaa
open Go.RowKit
set_option linter.unusedVariables false
set_option linter.unusedSimpArgs false

/-- a new slice of these numbers; nothing that was there has turned -/
def NewInts (w : World) (e : TypeId) (k : IntKind) (xs : List Int) (en : Ending) (w' : World) : Prop :=
  ∃ v, en = .returned v ∧ w'.ownsRow w.heap.size e 1 v xs.length (ints k xs) ∧ Below w.heap.size w w'

theorem info_int : (Try.prog.info? 3).map (fun i => (i.zero, i.size, i.bytes)) = some (some (.int .i64 0), 1, 8) := by kernel_rfl

theorem perm_out (s t n : Int) (h : n < 1 ∨ 65536 < n) (w : World) :
    Calls Try.prog 31 #[.int .u64 s, .int .u64 t, .int .i64 n] w (NewInts w 3 .i64 (permI s t n)) := by
  rw [perm_bad s t n h]
  rcases h with h | h
  · go_enter Try.func31, Try.ntmps31
    go_wp2
    go_ret
    exact ⟨_, rfl, World.ownsRow_nil _ _ _ _, Below.refl _ _⟩
  · have h1 : ¬ n < 1 := by omega
    go_enter Try.func31, Try.ntmps31
    go_wp2
    go_ret
    exact ⟨_, rfl, World.ownsRow_nil _ _ _ _, Below.refl _ _⟩

set_option maxRecDepth 100000 in
theorem perm_in (s t : Int) (n : Nat) (h0 : 0 ≤ s) (h1 : s < 18446744073709551616) (h2 : 0 ≤ t) (h3 : t < 18446744073709551616) (n0 : 1 ≤ n) (n1 : n ≤ 65536) (w : World) :
    Calls Try.prog 31 #[.int .u64 s, .int .u64 t, .int .i64 n] w (NewInts w 3 .i64 (permI s t n)) := by
  have k1 : decide ((n : Int) < 1) = false := by simp; omega
  have k2 : decide (65536 < (n : Int)) = false := by simp; omega
  obtain ⟨i0, hi, hz0, hz1, hz2⟩ := info_parts info_int
  have hmk := run_make1 (P := Try.prog) 24 3 i0 (.int .i64 0) Try.underlying24 hi hz0 hz1 rfl .i64 .i64 n (by rw [hz2]; omega) (by omega)
  go_enter Try.func31, Try.ntmps31
  go_wp2
  clear hmk
  go_loopw [21] (fun i wr => ∃ k : Nat, k ≤ n ∧ i = .int .i64 k ∧ Blk wr w.heap.size 3 (ints .i64 (iotaI k ++ List.replicate (n - k) 0)) ∧ Below w.heap.size w wr)
    (fun i _ => n - (intOf i).toNat)
  case atStart =>
    refine ⟨0, by omega, rfl, ?_, (Below.refl _ _).alloc (Nat.le_refl _) _⟩
    have := Blk.freshA w 3 (zerosA (.int .i64 0) n)
    rw [zerosA_toList] at this
    simpa [iotaI, ints] using this
  case round =>
    obtain ⟨k, hk, rfl, hblk, hbel⟩ := hrel
    by_cases hlt : k < n
    · have hc : wr.cell? ⟨w.heap.size, k, none⟩ = some (.int .i64 0) := by
        rw [hblk.cell, ints_at _ _ _ (by simp [length_iotaI]; omega)]
        simp [length_iotaI]
      have hf := hblk.free k
      have hb2 := (hblk.put k (.int .i64 k))
      rw [ints_set, iota_set n k hlt] at hb2
      have hbel2 := hbel.setCell (p := ⟨w.heap.size, k, none⟩) (Nat.le_refl _) (.int .i64 k)
      have HB := Lib.hid hb2
      clear hb2
      go_wp2
      go_roundw
      case rel => exact ⟨k + 1, by omega, by go_num, HB.out, hbel2⟩
      case measure => simp [intOf]; omega
    · obtain rfl : k = n := by omega
      clear hk hlt hi hz0 hz1 hz2
      rw [Nat.sub_self, List.replicate_zero, List.append_nil] at hblk
      go_wp2
      go_loopw [9] (fun i w1 => ∃ (j : Nat) (xs : List Int), j < k ∧ i = .int .i64 j ∧ xs.length = k ∧ shuf s t j xs = permI s t k ∧ Blk w1 w.heap.size 3 (ints .i64 xs) ∧ Below w.heap.size w w1)
        (fun i _ => (intOf i).toNat)
      case atStart =>
        refine ⟨k - 1, iotaI k, by omega, by go_num, length_iotaI k, (perm_good s t k n0 n1).symm, hblk, hbel⟩
      case round =>
        clear hblk hbel
        obtain ⟨j, xs, hj, rfl, hlen, hsh, hblk, hbel⟩ := hrel
        cases j with
        | zero =>
          have hown := hblk.ownAll (n := k) (Nat.le_refl _) (by unfold maxLen; omega) (by rw [length_ints]; exact hlen)
          have HH := Lib.hid hsh
          clear hsh
          go_wp2
          go_ret
          have e : xs = permI s t k := HH.out
          rw [← e]
          exact ⟨_, rfl, by rw [hlen]; exact hown, hbel⟩
        | succ j =>
          have hp := pickI_le s t (j + 1)
          have hpe := pickI_eq s t (j + 1)
          obtain ⟨q, hq⟩ : ∃ q, pickI s t (j + 1) = q := ⟨_, rfl⟩
          have hsh2 : shuf s t j (swp xs (j + 1) q) = permI s t k := by rw [← hsh, ← hq]; rfl
          rw [hq] at hp hpe
          have HSH := Lib.hid hsh2
          rw [show (((j + 1 : Nat) : Int)) = (j : Int) + 1 from by omega] at hpe
          have HPE := Lib.hid hpe
          clear hsh hsh2 hq hpe
          obtain ⟨x, hx⟩ : ∃ x, xs[j + 1]? = some x := ⟨xs[j + 1], by simp⟩
          obtain ⟨y, hy⟩ : ∃ y, xs[q]? = some y := ⟨xs[q], by simp⟩
          have hc1 : wr.cell? ⟨w.heap.size, j + 1, none⟩ = some (.int .i64 x) := by rw [hblk.cell, ints]; simp [hx]
          have hc2 : wr.cell? ⟨w.heap.size, q, none⟩ = some (.int .i64 y) := by rw [hblk.cell, ints]; simp [hy]
          obtain ⟨z, hc3⟩ : ∃ z, (wr.setCell ⟨w.heap.size, j + 1, none⟩ (.int .i64 y)).cell? ⟨w.heap.size, q, none⟩ = some z := by
            rw [(hblk.put (j + 1) (.int .i64 y)).cell]
            exact ⟨_, List.getElem?_eq_getElem (by rw [List.length_set, length_ints]; omega)⟩
          have hf1 := hblk.free (j + 1)
          have hf2 := hblk.free q
          have hb2 := (hblk.put (j + 1) (.int .i64 y)).put q (.int .i64 x)
          rw [ints_set, ints_set] at hb2
          have e2 : (xs.set (j + 1) y).set q x = swp xs (j + 1) q := by unfold swp; simp [hx, hy]
          rw [e2] at hb2
          have hbel2 := (hbel.setCell (p := ⟨w.heap.size, j + 1, none⟩) (Nat.le_refl _) (.int .i64 y)).setCell (p := ⟨w.heap.size, q, none⟩) (Nat.le_refl _) (.int .i64 x)
          have HB := Lib.hid hb2
          have HX := Lib.hid hx
          have HY := Lib.hid hy
          have HL := Lib.hid hlen
          clear hb2 hblk e2 hx hy hlen
          go_wp2_with (go_at_call 65; refine (below_any _ _ _ _ (by omega) (by omega) (by omega) (by omega) (by omega) (by omega) _).mono ?_; rintro e w' ⟨rfl, rfl⟩)
          rw [HPE.out]
          clear HPE hbel k1 k2 h0 h1 h2 h3
          go_region
          go_wp2
          go_roundw
          case rel => exact ⟨j, _, by omega, by go_num, by rw [length_swp]; exact HL.out, HSH.out, HB.out.drew, hbel2.drew⟩
          case measure => simp [intOf]

theorem perm_any (s t n : Int) (h0 : 0 ≤ s) (h1 : s < 18446744073709551616) (h2 : 0 ≤ t) (h3 : t < 18446744073709551616) (w : World) :
    Calls Try.prog 31 #[.int .u64 s, .int .u64 t, .int .i64 n] w (NewInts w 3 .i64 (permI s t n)) := by
  by_cases h : n < 1 ∨ 65536 < n
  · exact perm_out s t n h w
  · obtain ⟨m, rfl⟩ := Int.eq_ofNat_of_zero_le (a := n) (by omega)
    exact perm_in s t m h0 h1 h2 h3 (by omega) (by omega) w

theorem rperm_out (s t n : Int) (h : n < 1 ∨ 65536 < n) (w : World) :
    Calls Try.prog 59 #[.int .u64 s, .int .u64 t, .int .i64 n] w (NewInts w 3 .i64 (permI s t n)) := by
  rw [perm_bad s t n h]
  rcases h with h | h
  · go_enter Try.func59, Try.ntmps59
    go_wp2
    go_ret
    exact ⟨_, rfl, World.ownsRow_nil _ _ _ _, Below.refl _ _⟩
  · have h1 : ¬ n < 1 := by omega
    go_enter Try.func59, Try.ntmps59
    go_wp2
    go_ret
    exact ⟨_, rfl, World.ownsRow_nil _ _ _ _, Below.refl _ _⟩

set_option maxRecDepth 100000 in
theorem rperm_in (s t : Int) (n : Nat) (h0 : 0 ≤ s) (h1 : s < 18446744073709551616) (h2 : 0 ≤ t) (h3 : t < 18446744073709551616) (n0 : 1 ≤ n) (n1 : n ≤ 65536) (w : World) :
    Calls Try.prog 59 #[.int .u64 s, .int .u64 t, .int .i64 n] w (NewInts w 3 .i64 (permI s t n)) := by
  have k1 : decide ((n : Int) < 1) = false := by simp; omega
  have k2 : decide (65536 < (n : Int)) = false := by simp; omega
  obtain ⟨i0, hi, hz0, hz1, hz2⟩ := info_parts info_int
  go_enter Try.func59, Try.ntmps59
  go_wp2
  go_loopw [7, 18] (fun v i wr => ∃ k : Nat, k ≤ n ∧ i = .int .i64 k ∧ wr.ownsRow w.heap.size 3 1 v k (ints .i64 (iotaI k)) ∧ Below w.heap.size w wr)
    (fun _ i _ => n - (intOf i).toNat)
  case atStart => exact ⟨0, by omega, rfl, World.ownsRow_nil _ _ _ _, Below.refl _ _⟩
  case round =>
    obtain ⟨k, hk, rfl, hown, hbel⟩ := hrel
    by_cases hlt : k < n
    · go_wp2_with (at_builtin; refine wpList_append_own _ rfl _ _ 24 rfl w.heap.size 3 i0 (.int .i64 0) 1 8 Try.underlying24 hi hz0 hz1 hz2 rfl (by decide) _ _ _ rfl (hown.alloc _) ⟨wr.heap.size, 0, none⟩ 1 1 [.int .i64 k] rfl rfl ?c1 ?c2 ?c3 ?c4 ?c5 ?_)
      case c1 =>
        intro j u hu
        match j, hu with
        | 0, hu => simp at hu; subst hu; simp [Addr.add]
      case c2 => intro u hu; simp at hu; subst hu; rfl
      case c3 => unfold maxLen; omega
      case c4 => omega
      case c5 => simp; have := hbel.size; omega
      intro v' w1 hown' hgrow _
      have hl := (World.ownsRow.lt (hown.alloc (.cells #[.int .i64 k] 3)))
      have hbel2 : Below w.heap.size w w1 := (hbel.alloc hbel.size _).grown hgrow (by simp; have := hbel.size; omega) (fun g hg => (hl g hg).1)
      have e : ints .i64 (iotaI k) ++ [.int .i64 k] = ints .i64 (iotaI (k + 1)) := by rw [iotaI_succ]; simp [ints]
      rw [e] at hown'
      clear hown hgrow hl hbel e
      go_wp2
      go_roundw
      case rel => exact ⟨k + 1, by omega, by go_num, hown', hbel2⟩
      case measure => simp [intOf]; omega
    · obtain rfl : k = n := by omega
      obtain ⟨g, cap, rest, rfl, hg0, hg1, hcap, hcap2, hrest, hlen0, hblk⟩ := own_blk hown (by omega)
      clear hk hlt hi hz0 hz1 hz2 hown hlen0
      go_wp2
      go_loopw [9] (fun i wr => ∃ (j : Nat) (xs : List Int), j < k ∧ i = .int .i64 j ∧ xs.length = k ∧ shuf s t j xs = permI s t k ∧ Blk wr g 3 (ints .i64 xs ++ rest) ∧ Below w.heap.size w wr)
        (fun i _ => (intOf i).toNat)
      case atStart =>
        refine ⟨k - 1, iotaI k, by omega, by go_num, length_iotaI k, (perm_good s t k n0 n1).symm, hblk, hbel⟩
      case round =>
        clear hblk hbel hg1
        obtain ⟨j, xs, hj, rfl, hlen, hsh, hblk, hbel⟩ := hrel
        cases j with
        | zero =>
          have hown := hblk.ownFit (n := k) (cap := cap) hg0 hcap hcap2 (by rw [length_ints]; exact hlen) hrest
          have HH := Lib.hid hsh
          clear hsh
          go_wp2
          go_ret
          have e : xs = permI s t k := HH.out
          rw [← e]
          exact ⟨_, rfl, by rw [hlen]; exact hown, hbel⟩
        | succ j =>
          have hp := pickI_le s t (j + 1)
          have hpe := pickI_eq s t (j + 1)
          obtain ⟨q, hq⟩ : ∃ q, pickI s t (j + 1) = q := ⟨_, rfl⟩
          have hsh2 : shuf s t j (swp xs (j + 1) q) = permI s t k := by rw [← hsh, ← hq]; rfl
          rw [hq] at hp hpe
          have HSH := Lib.hid hsh2
          rw [show (((j + 1 : Nat) : Int)) = (j : Int) + 1 from by omega] at hpe
          have HPE := Lib.hid hpe
          clear hsh hsh2 hq hpe
          obtain ⟨x, hx⟩ : ∃ x, xs[j + 1]? = some x := ⟨xs[j + 1], by simp⟩
          obtain ⟨y, hy⟩ : ∃ y, xs[q]? = some y := ⟨xs[q], by simp⟩
          have hc1 : wr.cell? ⟨g, j + 1, none⟩ = some (.int .i64 x) := by rw [hblk.cell, List.getElem?_append_left (by rw [length_ints]; omega), ints]; simp [hx]
          have hc2 : wr.cell? ⟨g, q, none⟩ = some (.int .i64 y) := by rw [hblk.cell, List.getElem?_append_left (by rw [length_ints]; omega), ints]; simp [hy]
          obtain ⟨z, hc3⟩ : ∃ z, (wr.setCell ⟨g, j + 1, none⟩ (.int .i64 y)).cell? ⟨g, q, none⟩ = some z := by
            rw [(hblk.put (j + 1) (.int .i64 y)).cell]
            exact ⟨_, List.getElem?_eq_getElem (by rw [List.length_set, List.length_append, length_ints]; omega)⟩
          have hf1 := hblk.free (j + 1)
          have hf2 := hblk.free q
          have hb2 := (hblk.put (j + 1) (.int .i64 y)).put q (.int .i64 x)
          rw [List.set_append_left _ _ (by rw [length_ints]; omega), ints_set, List.set_append_left _ _ (by rw [length_ints, List.length_set]; omega), ints_set] at hb2
          have e2 : (xs.set (j + 1) y).set q x = swp xs (j + 1) q := by unfold swp; simp [hx, hy]
          rw [e2] at hb2
          have hbel2 := (hbel.setCell (p := ⟨g, j + 1, none⟩) hg0 (.int .i64 y)).setCell (p := ⟨g, q, none⟩) hg0 (.int .i64 x)
          have HB := Lib.hid hb2
          have HX := Lib.hid hx
          have HY := Lib.hid hy
          have HL := Lib.hid hlen
          have HR := Lib.hid hrest
          clear hb2 hblk e2 hx hy hlen hrest
          go_wp2_with (go_at_call 77; refine (rbelow_any _ _ _ _ (by omega) (by omega) (by omega) (by omega) (by omega) (by omega) _).mono ?_; rintro e w' ⟨rfl, rfl⟩)
          rw [HPE.out]
          clear HPE hbel k1 k2 h0 h1 h2 h3
          go_region
          go_wp2
          go_roundw
          case rel => exact ⟨j, _, by omega, by go_num, by rw [length_swp]; exact HL.out, HSH.out, HB.out.drew, hbel2.drew⟩
          case measure => simp [intOf]

theorem rperm_any (s t n : Int) (h0 : 0 ≤ s) (h1 : s < 18446744073709551616) (h2 : 0 ≤ t) (h3 : t < 18446744073709551616) (w : World) :
    Calls Try.prog 59 #[.int .u64 s, .int .u64 t, .int .i64 n] w (NewInts w 3 .i64 (permI s t n)) := by
  by_cases h : n < 1 ∨ 65536 < n
  · exact rperm_out s t n h w
  · obtain ⟨m, rfl⟩ := Int.eq_ofNat_of_zero_le (a := n) (by omega)
    exact rperm_in s t m h0 h1 h2 h3 (by omega) (by omega) w
end Go.Proofs.Ytfhlailhcfjjaaa
