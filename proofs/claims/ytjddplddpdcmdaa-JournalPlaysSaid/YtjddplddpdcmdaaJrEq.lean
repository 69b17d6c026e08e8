/- slices.Equal at bytes. -/
import Derived.Test.YtjddplddpdcmdaaRows
import Derived.Test.YtjddplddpdcmdaaBytes
import Derived.BigQuiet
import Derived.Deep.QuietTactic
namespace Go.Proofs.Ytjddplddpdcmdaa
open Go.RowKit
set_option linter.unusedVariables false
set_option linter.unusedSimpArgs false

theorem take_extG {xs ys : List Int} {k : Nat} (h : xs.take k = ys.take k) (hx : xs[k]? = ys[k]?) : xs.take (k + 1) = ys.take (k + 1) := by
  rw [List.take_add_one, List.take_add_one, h, hx]

theorem equal_u8_len (xs ys : List Int) (va vb : Value) (w : World) (B B' : Nat) (ha : Reads w B va (ints .u8 xs)) (hb : Reads w B' vb (ints .u8 ys)) (hne : xs.length ≠ ys.length) :
    Calls Try.prog 52 #[va, vb] w (Quiet w (.bool false)) := by
  obtain ⟨A, n, c, rfl, hl, hc, hm, ha⟩ := ha
  obtain ⟨A', n', c', rfl, hl', hc', hm', hb⟩ := hb
  rw [length_ints] at hl hl'
  have e1 : ((n : Int) != (n' : Int)) = true := by simp; omega
  have hN : ¬ n = n' := by omega
  go_enter Try.func52, Try.ntmps52
  go_wp2
  go_ret
  exact Quiet.mk' 0

set_option maxRecDepth 100000 in
theorem equal_u8_any (xs ys : List Int) (va vb : Value) (w : World) (B B' : Nat) (ha : Reads w B va (ints .u8 xs)) (hb : Reads w B' vb (ints .u8 ys)) :
    Calls Try.prog 52 #[va, vb] w (Quiet w (.bool (xs == ys))) := by
  by_cases hne : xs.length ≠ ys.length
  · have : (xs == ys) = false := by
      rw [beq_eq_false_iff_ne]
      rintro rfl
      exact hne rfl
    rw [this]
    exact equal_u8_len xs ys va vb w B B' ha hb hne
  · obtain ⟨A, n, c, rfl, hl, hc, hm, ha⟩ := ha
    obtain ⟨A', n', c', rfl, hl', hc', hm', hb⟩ := hb
    rw [length_ints] at hl hl'
    obtain rfl : n = n' := by omega
    have e1 : ((n : Int) != (n : Int)) = false := by simp
    unfold maxLen at hm hm'
    have HL := Lib.hid hl
    have HL' := Lib.hid hl'
    have HN : n ≤ 9223372036854775807 := by omega
    clear hl hl' hne
    go_enter Try.func52, Try.ntmps52
    go_wp2
    go_loopw [13] (fun i wr => ∃ k : Nat, k ≤ n ∧ i = .int .i64 k ∧ xs.take k = ys.take k ∧ ∃ m, wr = w.drewN m) (fun i _ => n - (intOf i).toNat)
    case atStart => exact ⟨0, by omega, rfl, by simp, 0, rfl⟩
    case round =>
      obtain ⟨k, hk, rfl, htk, m, rfl⟩ := hrel
      by_cases hlt : k < n
      · obtain ⟨g, o, rfl, hg, hx⟩ := ha.out (by omega)
        obtain ⟨g', o', rfl, hg', hy⟩ := hb.out (by omega)
        have hl := HL.out
        have hl' := HL'.out
        have c1 := hx k (.int .u8 xs[k]) (ints_at _ _ _ (by omega))
        have c2 := hy k (.int .u8 ys[k]) (ints_at _ _ _ (by omega))
        obtain ⟨x, hx0⟩ : ∃ x, xs[k] = x := ⟨_, rfl⟩
        obtain ⟨y, hy0⟩ : ∃ y, ys[k] = y := ⟨_, rfl⟩
        rw [hx0] at c1
        rw [hy0] at c2
        have hxe : xs[k]? = some x := by rw [List.getElem?_eq_getElem (by omega), hx0]
        have hye : ys[k]? = some y := by rw [List.getElem?_eq_getElem (by omega), hy0]
        have HX := Lib.hid hxe
        have HY := Lib.hid hye
        have HT := Lib.hid htk
        clear ha hb hx hy hl hl' hx0 hy0 hxe hye htk
        have i1 : (0 : Int) ≤ (k : Int) := by omega
        have i2 : (k : Int) < (n : Int) := by omega
        by_cases hxy : x = y
        · have e2 : (x != y) = false := by simpa using hxy
          have HXY := Lib.hid hxy
          clear hxy
          go_wp2
          go_quiet (fail)
          go_wp2
          go_roundw
          case rel => exact ⟨k + 1, by omega, by go_num, take_extG HT.out (by rw [HX.out, HY.out, HXY.out]), _, rfl⟩
          case measure => simp [intOf]; omega
        · have e2 : (x != y) = true := by simpa using hxy
          have hq : (xs == ys) = false := by
            rw [beq_eq_false_iff_ne]
            rintro rfl
            have := HX.out.symm.trans HY.out
            injection this with this
            exact hxy this
          have HQ := Lib.hid hq
          clear hxy hq
          go_wp2
          go_quiet (fail)
          go_wp2
          go_ret
          rw [HQ.out]
          exact Quiet.mk2 _ _
      · have hq : (xs == ys) = true := by
          rw [beq_iff_eq]
          rw [List.take_of_length_le (by have := HL.out; omega), List.take_of_length_le (by have := HL'.out; omega)] at htk
          exact htk
        have HQ := Lib.hid hq
        clear hq htk
        go_wp2
        go_ret
        rw [HQ.out]
        exact Quiet.mk' _
theorem bytesV_ints (bs : List UInt8) : bytesV bs = ints .u8 (bs.map fun b => (b.toNat : Int)) := by simp [bytesV, ints]
theorem map_toNat_inj {a b : List UInt8} (h : a.map (fun b => (b.toNat : Int)) = b.map fun b => (b.toNat : Int)) : a = b := by
  induction a generalizing b with
  | nil => cases b <;> simp_all
  | cons x r ih =>
    cases b with
    | nil => simp at h
    | cons y s =>
      simp only [List.map_cons, List.cons.injEq] at h
      have h1 : x.toNat = y.toNat := by omega
      rw [UInt8.toNat_inj.1 h1, ih h.2]
theorem equal_bytes (a b : List UInt8) (va vb : Value) (w : World) (B B' : Nat) (ha : Reads w B va (bytesV a)) (hb : Reads w B' vb (bytesV b)) (e : Bool) (he : (a == b) = e) : Calls Try.prog 52 #[va, vb] w (Quiet w (.bool e)) := by
  rw [bytesV_ints] at ha hb
  have h := equal_u8_any _ _ va vb w B B' ha hb
  have hE : ((a.map fun b => (b.toNat : Int)) == b.map fun b => (b.toNat : Int)) = e := by
    subst he
    by_cases h2 : a = b
    · subst h2; simp
    · rw [beq_eq_false_iff_ne.2 h2, beq_eq_false_iff_ne.2 (fun h3 => h2 (map_toNat_inj h3))]
  rwa [hE] at h
end Go.Proofs.Ytjddplddpdcmdaa
