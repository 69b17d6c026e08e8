/- Contracts of sum.Crc and the reference's Crc. -/
import Derived.Test.YtjddplddpdcmdaaBytes
import Derived.Test.YtjddplddpdcmdaaJrCrcP
import Derived.Test.YtjddplddpdcmdaaRows
import Derived.WalkSpells
namespace Go.Proofs.Ytjddplddpdcmdaa
open Go.RowKit
set_option linter.unusedVariables false
set_option linter.unusedSimpArgs false

set_option maxHeartbeats 1600000 in
set_option maxRecDepth 100000 in
theorem crc_any (w : World) (B : Nat) (v : Value) (bs : List UInt8) (h : Reads w B v (bytesV bs)) : Calls Try.prog 60 #[v] w fun en w' => en = .returned (.int .u32 ((crcN bs : Nat) : Int)) ∧ w = w' := by
  obtain ⟨A, n, c, rfl, hl, hc, hm, ha⟩ := h
  rw [length_bytesV] at hl
  have hm9 : n ≤ 9223372036854775807 := by unfold maxLen at hm; omega
  have HL := Lib.hid hl
  have hcell : ∀ k, k < n → ∃ g o, A = some ⟨g, o, none⟩ ∧ ∃ b, bs[k]? = some b ∧ w.cell? ⟨g, o + k, none⟩ = some (.int .u8 (b.toNat : Int)) := fun k hk => by
    obtain ⟨g, o, e, _, hx⟩ := ha.out (by omega)
    exact ⟨g, o, e, bs[k]'(by omega), List.getElem?_eq_getElem _, hx k _ (bytesV_at bs k (by omega))⟩
  have HC := Lib.hid hcell
  clear hl hcell ha hc hm
  go_enter Try.func60, Try.ntmps60
  go_wp2
  go_loopw [8, 3] (fun i s wr => ∃ (k t : Nat), k ≤ n ∧ i = .int .i64 k ∧ s = .int .u32 (t : Int) ∧ Hid (t = crcRun (bs.take k)) ∧ Hid (t < 4294967296) ∧ wr = w) (fun i _ _ => n - (intOf i).toNat)
  case atStart => exact ⟨0, 4294967295, by omega, rfl, rfl, Lib.hid rfl, Lib.hid (by decide), rfl⟩
  case round =>
    obtain ⟨k, t, hk, rfl, rfl, hr, HT0, rfl⟩ := hrel
    by_cases hlt : k < n
    · obtain ⟨g, o, rfl, b, hb, hcl⟩ := HC.out k hlt
      have i0 : (0 : Int) ≤ (k : Int) := by omega
      have i1 : (k : Int) < (n : Int) := by omega
      have hx : bits .xor .u32 (t : Int) (b.toNat : Int) = ((t ^^^ b.toNat : Nat) : Int) := xor32 HT0.out (by have := b.toNat_lt; omega)
      have HRN : Hid (crcRun (bs.take (k + 1)) = crcBits 8 (t ^^^ b.toNat)) := Lib.hid (by
        rw [List.take_add_one, hb, hr.out]
        exact crcRun_snoc _ _)
      have HX0 : Hid (t ^^^ b.toNat < 4294967296) := Lib.hid (crcXor_lt HT0.out b)
      have hbl : (b.toNat : Int) < 256 := by have := b.toNat_lt; omega
      have hb0 : (0 : Int) ≤ (b.toNat : Int) := by omega
      generalize hx0 : t ^^^ b.toNat = x0 at hx HRN HX0
      clear hb hx0 hr HT0
      go_wp2
      go_loopw [16, 3] (fun j s wr' => ∃ (m t' : Nat), m ≤ 8 ∧ j = .int .i64 m ∧ s = .int .u32 (t' : Int) ∧ Hid (t' = crcBits m x0) ∧ Hid (t' < 4294967296) ∧ wr' = wr) (fun j _ _ => 8 - (intOf j).toNat)
      case atStart => exact ⟨0, x0, by omega, rfl, rfl, Lib.hid rfl, HX0, rfl⟩
      case round =>
        obtain ⟨m, t, hm, rfl, rfl, ht, HT, rfl⟩ := hrel
        clear hx hcl
        by_cases hmt : m < 8
        · rcases Nat.mod_two_eq_zero_or_one t with hp | hp
          · have e1 : bits .and .u32 (t : Int) 1 = 0 := by rw [and1_32 HT.out, hp]; rfl
            have e2 : bits .xor .u32 ((t : Int) / 2) 0 = (t : Int) / 2 := by have := xor32 (a := t / 2) (b := 0) (by have := HT.out; omega) (by decide); simpa using this
            have e3 : IntKind.u32.wrap (-0) = 0 := by decide
            have e4 := poly0
            have HB : Hid (crcBits (m + 1) x0 = t / 2) := Lib.hid (by show crcBit (crcBits m x0) = _; rw [← ht.out, crcBit, if_neg (by omega)])
            clear hp
            go_wp2
            go_roundw
            case rel => exact ⟨m + 1, t / 2, by omega, by go_num, by go_num, Lib.hid HB.out.symm, Lib.hid (by have := HT.out; omega), trivial⟩
            case measure => simp [intOf]; omega
          · have e1 : bits .and .u32 (t : Int) 1 = 1 := by rw [and1_32 HT.out, hp]; rfl
            have e2 : bits .xor .u32 ((t : Int) / 2) 3988292384 = ((t / 2 ^^^ 3988292384 : Nat) : Int) := by have := xor32 (a := t / 2) (b := 3988292384) (by have := HT.out; omega) (by decide); simpa using this
            have e3 : IntKind.u32.wrap (-1) = 4294967295 := by decide
            have e4 := poly1
            have HB : Hid (crcBits (m + 1) x0 = t / 2 ^^^ 3988292384) := Lib.hid (by show crcBit (crcBits m x0) = _; rw [← ht.out, crcBit, if_pos hp])
            clear hp
            go_wp2
            go_roundw
            case rel => exact ⟨m + 1, t / 2 ^^^ 3988292384, by omega, by go_num, by go_num, Lib.hid HB.out.symm, Lib.hid (by rw [← HB.out]; exact crcBits_lt _ HX0.out), trivial⟩
            case measure => simp [intOf]; omega
        · obtain rfl : m = 8 := by omega
          go_wp2
          go_roundw
          case rel => exact ⟨k + 1, t, by omega, by go_num, rfl, Lib.hid (by rw [HRN.out, ← ht.out]), HT, trivial⟩
          case measure => simp [intOf]; omega
    · obtain rfl : k = n := by omega
      have HE : Hid (crcN bs = t ^^^ 4294967295) := Lib.hid (by
        have := hr.out
        rw [List.take_of_length_le (by rw [HL.out]; exact Nat.le_refl _)] at this
        rw [crcN, this])
      have hx : bits .xor .u32 IntKind.u32.max (t : Int) = ((t ^^^ 4294967295 : Nat) : Int) := by
        have h9 := xor32 (a := 4294967295) (b := t) (by decide) HT0.out
        rw [Nat.xor_comm] at h9
        exact h9
      go_wp2
      go_ret
      rw [HE.out]
      exact ⟨rfl, rfl⟩
set_option maxHeartbeats 1600000 in
set_option maxRecDepth 100000 in
theorem rcrc_any (w : World) (B : Nat) (v : Value) (bs : List UInt8) (h : Reads w B v (bytesV bs)) : Calls Try.prog 43 #[v] w fun en w' => en = .returned (.int .u32 ((crcN bs : Nat) : Int)) ∧ w = w' := by
  obtain ⟨A, n, c, rfl, hl, hc, hm, ha⟩ := h
  rw [length_bytesV] at hl
  have hm9 : n ≤ 9223372036854775807 := by unfold maxLen at hm; omega
  have HL := Lib.hid hl
  have hcell : ∀ k, k < n → ∃ g o, A = some ⟨g, o, none⟩ ∧ ∃ b, bs[k]? = some b ∧ w.cell? ⟨g, o + k, none⟩ = some (.int .u8 (b.toNat : Int)) := fun k hk => by
    obtain ⟨g, o, e, _, hx⟩ := ha.out (by omega)
    exact ⟨g, o, e, bs[k]'(by omega), List.getElem?_eq_getElem _, hx k _ (bytesV_at bs k (by omega))⟩
  have HC := Lib.hid hcell
  clear hl hcell ha hc hm
  go_enter Try.func43, Try.ntmps43
  go_wp2
  go_loopw [8, 3] (fun i s wr => ∃ (k t : Nat), k ≤ n ∧ i = .int .i64 k ∧ s = .int .u32 (t : Int) ∧ Hid (t = crcRun (bs.take k)) ∧ Hid (t < 4294967296) ∧ wr = w) (fun i _ _ => n - (intOf i).toNat)
  case atStart => exact ⟨0, 4294967295, by omega, rfl, rfl, Lib.hid rfl, Lib.hid (by decide), rfl⟩
  case round =>
    obtain ⟨k, t, hk, rfl, rfl, hr, HT0, rfl⟩ := hrel
    by_cases hlt : k < n
    · obtain ⟨g, o, rfl, b, hb, hcl⟩ := HC.out k hlt
      have i0 : (0 : Int) ≤ (k : Int) := by omega
      have i1 : (k : Int) < (n : Int) := by omega
      have hx : bits .xor .u32 (t : Int) (b.toNat : Int) = ((t ^^^ b.toNat : Nat) : Int) := xor32 HT0.out (by have := b.toNat_lt; omega)
      have HRN : Hid (crcRun (bs.take (k + 1)) = crcBits 8 (t ^^^ b.toNat)) := Lib.hid (by
        rw [List.take_add_one, hb, hr.out]
        exact crcRun_snoc _ _)
      have HX0 : Hid (t ^^^ b.toNat < 4294967296) := Lib.hid (crcXor_lt HT0.out b)
      have hbl : (b.toNat : Int) < 256 := by have := b.toNat_lt; omega
      have hb0 : (0 : Int) ≤ (b.toNat : Int) := by omega
      generalize hx0 : t ^^^ b.toNat = x0 at hx HRN HX0
      clear hb hx0 hr HT0
      go_wp2
      go_loopw [16, 3] (fun j s wr' => ∃ (m t' : Nat), m ≤ 8 ∧ j = .int .i64 m ∧ s = .int .u32 (t' : Int) ∧ Hid (t' = crcBits m x0) ∧ Hid (t' < 4294967296) ∧ wr' = wr) (fun j _ _ => 8 - (intOf j).toNat)
      case atStart => exact ⟨0, x0, by omega, rfl, rfl, Lib.hid rfl, HX0, rfl⟩
      case round =>
        obtain ⟨m, t, hm, rfl, rfl, ht, HT, rfl⟩ := hrel
        clear hx hcl
        by_cases hmt : m < 8
        · rcases Nat.mod_two_eq_zero_or_one t with hp | hp
          · have e1 : bits .and .u32 (t : Int) 1 = 0 := by rw [and1_32 HT.out, hp]; rfl
            have e2 : bits .xor .u32 ((t : Int) / 2) 0 = (t : Int) / 2 := by have := xor32 (a := t / 2) (b := 0) (by have := HT.out; omega) (by decide); simpa using this
            have HB : Hid (crcBits (m + 1) x0 = t / 2) := Lib.hid (by show crcBit (crcBits m x0) = _; rw [← ht.out, crcBit, if_neg (by omega)])
            clear hp
            go_wp2
            go_roundw
            case rel => exact ⟨m + 1, t / 2, by omega, by go_num, by go_num, Lib.hid HB.out.symm, Lib.hid (by have := HT.out; omega), trivial⟩
            case measure => simp [intOf]; omega
          · have e1 : bits .and .u32 (t : Int) 1 = 1 := by rw [and1_32 HT.out, hp]; rfl
            have e2 : bits .xor .u32 ((t : Int) / 2) 3988292384 = ((t / 2 ^^^ 3988292384 : Nat) : Int) := by have := xor32 (a := t / 2) (b := 3988292384) (by have := HT.out; omega) (by decide); simpa using this
            have HB : Hid (crcBits (m + 1) x0 = t / 2 ^^^ 3988292384) := Lib.hid (by show crcBit (crcBits m x0) = _; rw [← ht.out, crcBit, if_pos hp])
            clear hp
            go_wp2
            go_roundw
            case rel => exact ⟨m + 1, t / 2 ^^^ 3988292384, by omega, by go_num, by go_num, Lib.hid HB.out.symm, Lib.hid (by rw [← HB.out]; exact crcBits_lt _ HX0.out), trivial⟩
            case measure => simp [intOf]; omega
        · obtain rfl : m = 8 := by omega
          go_wp2
          go_roundw
          case rel => exact ⟨k + 1, t, by omega, by go_num, rfl, Lib.hid (by rw [HRN.out, ← ht.out]), HT, trivial⟩
          case measure => simp [intOf]; omega
    · obtain rfl : k = n := by omega
      have HE : Hid (crcN bs = t ^^^ 4294967295) := Lib.hid (by
        have := hr.out
        rw [List.take_of_length_le (by rw [HL.out]; exact Nat.le_refl _)] at this
        rw [crcN, this])
      have hx : bits .xor .u32 IntKind.u32.max (t : Int) = ((t ^^^ 4294967295 : Nat) : Int) := by
        have h9 := xor32 (a := 4294967295) (b := t) (by decide) HT0.out
        rw [Nat.xor_comm] at h9
        exact h9
      go_wp2
      go_ret
      rw [HE.out]
      exact ⟨rfl, rfl⟩
end Go.Proofs.Ytjddplddpdcmdaa
