/- Contracts of octet.Reader's methods. -/
import Derived.Test.YtjddplddpdcmdaaReader
namespace Go.Proofs.Ytjddplddpdcmdaa
open Go.RowKit
set_option linter.unusedVariables false
set_option linter.unusedSimpArgs false

/-- the only error of a reader, behind which nothing is left -/
def RdInv (bs : List UInt8) (e : Int) : Prop := e = 0 ∨ (e = 4 ∧ bs = [])
theorem takeInv {bs : List UInt8} {e n : Int} (h : RdInv bs e) : RdInv (takeLeft bs e n) (takeErr bs e n) := by
  unfold RdInv takeLeft takeErr at *
  by_cases h1 : e ≠ 0 ∨ n ≤ 0
  · rw [if_pos h1, if_pos h1]; exact h
  · rw [if_neg h1, if_neg h1]
    by_cases h2 : (bs.length : Int) < n
    · rw [if_pos h2, if_pos h2]; exact .inr ⟨rfl, rfl⟩
    · rw [if_neg h2, if_neg h2]
      refine .inl ?_
      rcases Classical.em (e = 0) with h3 | h3
      · exact h3
      · exact absurd (.inl h3) h1
theorem takeLeft_le (bs : List UInt8) (e n : Int) : (takeLeft bs e n).length ≤ bs.length := by
  unfold takeLeft
  split
  · exact Nat.le_refl _
  · split
    · simp
    · simp
theorem takeOut_len (bs : List UInt8) (e : Int) (n : Nat) : (takeOut bs e n).length ≤ n := by
  unfold takeOut
  split
  · simp
  · split
    · simp
    · rw [List.length_take]; simp; omega

theorem take_any (w : World) (p : Nat) (A : Option Addr) (c : Nat) (bs : List UInt8) (e n : Int) (h : Rd 97 w p A c bs e) (hl : bs.length ≤ 140737488355328) :
    Calls Try.prog 56 #[.pointer (some ⟨p, 0, none⟩), .int .i64 n] w (Took 97 w p A (takeOut bs e n) (takeLeft bs e n) (takeErr bs e n)) := by
  unfold takeOut takeLeft takeErr
  by_cases h1 : e ≠ 0 ∨ n ≤ 0
  · rw [if_pos h1, if_pos h1, if_pos h1]
    exact take_none w p A c bs e n h h1
  · rw [if_neg h1, if_neg h1, if_neg h1]
    obtain rfl : e = 0 := by
      rcases Classical.em (e = 0) with h3 | h3
      · exact h3
      · exact absurd (.inl h3) h1
    have h0 : 0 < n := by
      rcases Int.lt_or_le 0 n with h3 | h3
      · exact h3
      · exact absurd (.inr h3) h1
    by_cases h2 : (bs.length : Int) < n
    · rw [if_pos h2, if_pos h2, if_pos h2]
      exact take_short w p A c bs n h h0 h2
    · rw [if_neg h2, if_neg h2, if_neg h2]
      obtain ⟨m, rfl⟩ := Int.eq_ofNat_of_zero_le (a := n) (by omega)
      exact take_some w p A c bs m h (by omega) (by omega) hl

/-- a number was read -/
def Read (T : TypeId) (w : World) (p : Nat) (A : Option Addr) (v : Value) (bs : List UInt8) (e : Int) (en : Ending) (w' : World) : Prop :=
  en = .returned v ∧ ∃ B c, Rd T w' p B c bs e ∧ (∀ a, B = some a → ∃ b, A = some b ∧ b.block = a.block) ∧ Off (fun i => i = p) w w'

theorem number_any (w : World) (p : Nat) (A : Option Addr) (c : Nat) (bs : List UInt8) (e : Int) (n : Nat) (hn : n ≤ 8) (h : Rd 97 w p A c bs e) (hl : bs.length ≤ 140737488355328) :
    Calls Try.prog 57 #[.pointer (some ⟨p, 0, none⟩), .int .i64 n] w (Read 97 w p A (.int .u64 (deB (takeOut bs e n))) (takeLeft bs e n) (takeErr bs e n)) := by
  have hol := takeOut_len bs e n
  have hT := take_any w p A c bs e n h hl
  revert hol hT
  generalize takeOut bs e n = out
  intro hol hT
  have HT := Lib.hid hT
  clear hT
  go_enter Try.func57, Try.ntmps57
  go_wp2_with fail
  refine HT.out.mono ?_
  rintro en w1 ⟨A1, c1, B, c2, rfl, hown, hrd, hbl, hoff⟩
  obtain ⟨A', n', c', e', hln, hc, hm, hat⟩ := Reads.of_own hown
  injection e' with e1 e2 e3
  subst e1 e2 e3
  have HR := Lib.hid hrd
  have HBL := Lib.hid hbl
  have HO := Lib.hid hoff
  clear hrd hbl hoff hown hln h
  go_wp2_with fail
  go_loop [5, 12] (fun x i => ∃ k : Nat, k ≤ out.length ∧ i = .int .i64 k ∧ x = .int .u64 (deB (out.take k))) (fun _ i => out.length - (intOf i).toNat)
  case atStart => exact ⟨0, by omega, rfl, by simp [deB]⟩
  case round =>
    obtain ⟨k, hk, rfl, rfl⟩ := hrel
    by_cases hlt : k < out.length
    · obtain ⟨g, o, rfl, hg, hx⟩ := hat.out (by omega)
      have hc1 := hx k _ (bytesV_at out k hlt)
      have hd := deB_lt k (out.take k) (by rw [List.length_take]; omega)
      have hd2 : deB (out.take k) < 72057594037927936 := by
        have h2 : 256 ^ k ≤ 256 ^ 7 := Nat.pow_le_pow_right (by omega) (by omega)
        have h3 : (256 : Nat) ^ 7 = 72057594037927936 := by decide
        omega
      have hs : deB (out.take (k + 1)) = deB (out.take k) * 256 + out[k].toNat := by
        rw [List.take_add_one, List.getElem?_eq_getElem hlt]
        exact deB_snoc _ _
      generalize out[k] = b at hc1 hs
      have hbt : b.toNat < 256 := b.toNat_lt
      generalize deB (out.take k) = d at hs hd2
      have hor := or_byte d b hd2
      have HS := Lib.hid hs
      clear hd hx hs hat
      go_wp2
      go_round
      case rel => exact ⟨k + 1, by omega, by go_num, by rw [HS.out]; go_num⟩
      case measure => simp [intOf]; omega
    · obtain rfl : k = out.length := by omega
      go_wp2
      go_ret
      exact ⟨rfl, B, c2, HR.out, HBL.out, HO.out⟩
end Go.Proofs.Ytjddplddpdcmdaa
