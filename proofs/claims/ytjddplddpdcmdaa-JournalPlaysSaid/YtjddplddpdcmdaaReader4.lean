/- Contracts of the reference's reader. -/
import Derived.Test.YtjddplddpdcmdaaReader3
namespace Go.Proofs.Ytjddplddpdcmdaa
open Go.RowKit
set_option linter.unusedVariables false
set_option linter.unusedSimpArgs false

theorem rnum_any (w : World) (p : Nat) (A : Option Addr) (c : Nat) (bs : List UInt8) (e : Int) (n : Nat) (hn : n ≤ 8) (hi : RdInv bs e) (h : Rd 84 w p A c bs e) (hl : bs.length ≤ 140737488355328) :
    Calls Try.prog 54 #[.pointer (some ⟨p, 0, none⟩), .int .i64 n] w (Read 84 w p A (.int .u64 (deB (takeOut bs e n))) (takeLeft bs e n) (takeErr bs e n)) := by
  have hol := takeOut_len bs e n
  have hT := rtake_any w p A c bs e n hi h hl
  revert hol hT
  generalize takeOut bs e n = out
  intro hol hT
  have HT := Lib.hid hT
  clear hT
  go_enter Try.func54, Try.ntmps54
  go_wp2_with fail
  refine HT.out.mono ?_
  rintro en w1 ⟨A1, c1, B, c2, rfl, hown, hrd, hbl, hoff⟩
  obtain ⟨A', n', c', e', hln, hc, hm, hat⟩ := Reads.of_own hown
  injection e' with e1 e2 e3
  subst e1 e2 e3
  have HR := Lib.hid hrd
  have HBL := Lib.hid hbl
  have HO := Lib.hid hoff
  clear hrd hbl hoff hown hln h
  go_wp2_with fail
  go_loop [5, 12] (fun x i => ∃ k : Nat, k ≤ out.length ∧ i = .int .i64 k ∧ x = .int .u64 (deB (out.take k))) (fun _ i => out.length - (intOf i).toNat)
  case atStart => exact ⟨0, by omega, rfl, by simp [deB]⟩
  case round =>
    obtain ⟨k, hk, rfl, rfl⟩ := hrel
    by_cases hlt : k < out.length
    · obtain ⟨g, o, rfl, hg, hx⟩ := hat.out (by omega)
      have hc1 := hx k _ (bytesV_at out k hlt)
      have hd := deB_lt k (out.take k) (by rw [List.length_take]; omega)
      have hd2 : deB (out.take k) < 72057594037927936 := by
        have h2 : 256 ^ k ≤ 256 ^ 7 := Nat.pow_le_pow_right (by omega) (by omega)
        have h3 : (256 : Nat) ^ 7 = 72057594037927936 := by decide
        omega
      have hs : deB (out.take (k + 1)) = deB (out.take k) * 256 + out[k].toNat := by
        rw [List.take_add_one, List.getElem?_eq_getElem hlt]
        exact deB_snoc _ _
      generalize out[k] = b at hc1 hs
      have hbt : b.toNat < 256 := b.toNat_lt
      generalize deB (out.take k) = d at hs hd2
      have hor := or_byte d b hd2
      have HS := Lib.hid hs
      clear hd hx hs hat
      go_wp2
      go_round
      case rel => exact ⟨k + 1, by omega, by go_num, by rw [HS.out]; go_num⟩
      case measure => simp [intOf]; omega
    · obtain rfl : k = out.length := by omega
      go_wp2
      go_ret
      exact ⟨rfl, B, c2, HR.out, HBL.out, HO.out⟩

theorem mu32_any (w : World) (p : Nat) (A : Option Addr) (c : Nat) (bs : List UInt8) (e : Int) (hi : RdInv bs e) (h : Rd 84 w p A c bs e) (hl : bs.length ≤ 140737488355328) :
    Calls Try.prog 42 #[.pointer (some ⟨p, 0, none⟩)] w (Read 84 w p A (.int .u32 (deB (takeOut bs e 4))) (takeLeft bs e 4) (takeErr bs e 4)) := by
  have hb := deB_256 bs e 4
  rw [show (256 : Nat) ^ 4 = 4294967296 from by decide] at hb
  have hN := rnum_any w p A c bs e 4 (by omega) hi h hl
  revert hb hN
  generalize takeOut bs e (4 : Nat) = out
  intro hb hN
  have HN := Lib.hid hN
  clear hN h
  go_enter Try.func42, Try.ntmps42
  go_wp2_with fail
  refine HN.out.mono ?_
  rintro en w1 ⟨rfl, hq⟩
  have HQ := Lib.hid hq
  clear hq
  go_wp2_with fail
  go_ret
  exact ⟨rfl, HQ.out⟩

end Go.Proofs.Ytjddplddpdcmdaa
