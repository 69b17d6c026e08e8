/- Numbers as bytes, the highest first: plain. -/
import Derived.Test.YtjddplddpdcmdaaBytes
namespace Go.Proofs.Ytjddplddpdcmdaa
open Go.RowKit
set_option linter.unusedVariables false
set_option linter.unusedSimpArgs false

theorem I64_hi' (n : Int) : IntKind.u64.wrap n < 18446744073709551616 := by rw [IntKind.wrap_u64]; omega
/-- the lowest bytes of a number, the highest of them first -/
def beB (n w : Nat) : List UInt8 := (List.range w).map fun i => UInt8.ofNat (n / 2 ^ (8 * (w - 1 - i)) % 256)
theorem length_beB (n w : Nat) : (beB n w).length = w := by simp [beB]
/-- the first k of them -/
theorem beB_step (n w k : Nat) (hk : k < w) : (beB n w).take (k + 1) = (beB n w).take k ++ [UInt8.ofNat (n / 2 ^ (8 * (w - 1 - k)) % 256)] := by
  rw [List.take_add_one]
  simp [beB, hk]
theorem beB_all (n w : Nat) : (beB n w).take w = beB n w := List.take_of_length_le (by rw [length_beB]; omega)
theorem beB_zero (n : Nat) : beB n 0 = [] := rfl
theorem beB_succ (n w : Nat) : beB n (w + 1) = beB (n / 256) w ++ [UInt8.ofNat (n % 256)] := by
  unfold beB
  rw [List.range_succ, List.map_append]
  congr 1
  · apply List.map_congr_left
    intro i hi
    rw [List.mem_range] at hi
    have e : 8 * (w + 1 - 1 - i) = 8 + 8 * (w - 1 - i) := by omega
    rw [e, Nat.pow_add, ← Nat.div_div_eq_div_mul]
  · simp
theorem beB_add (n : Nat) : ∀ a b, beB n (a + b) = beB (n / 256 ^ b) a ++ beB n b
  | a, 0 => by simp [beB_zero]
  | a, b + 1 => by
    rw [← Nat.add_assoc, beB_succ, beB_add (n / 256) a b, beB_succ n b, List.append_assoc, Nat.div_div_eq_div_mul, Nat.pow_succ, Nat.mul_comm (256 ^ b)]
theorem beB_mod (n : Nat) : ∀ w m, w ≤ m → beB (n % 256 ^ m) w = beB n w
  | 0, m, _ => rfl
  | w + 1, m + 1, h => by
    rw [beB_succ, beB_succ, ← beB_mod (n / 256) w m (by omega)]
    congr 2
    · rw [Nat.pow_succ, Nat.mul_comm, Nat.mod_mul_right_div_self]
    · rw [Nat.pow_succ, Nat.mul_comm, Nat.mod_mul_right_mod]
/-- one of them, as the walk has it -/
theorem byte_walk (n wd k : Nat) (hk : k < wd) : IntKind.u8.wrap ((n : Int) / 2 ^ (8 * ((wd : Int) - 1 - (k : Int))).toNat) = ((UInt8.ofNat (n / 2 ^ (8 * (wd - 1 - k)) % 256)).toNat : Int) := by
  have e : (8 * ((wd : Int) - 1 - (k : Int))).toNat = 8 * (wd - 1 - k) := by omega
  rw [e, IntKind.wrap_u8]
  have h2 : ((n : Int) / 2 ^ (8 * (wd - 1 - k))) = ((n / 2 ^ (8 * (wd - 1 - k)) : Nat) : Int) := by simp
  rw [h2]
  simp
/-- a number out of bytes -/
def deB (bs : List UInt8) : Nat := bs.foldl (fun n c => n * 256 + c.toNat) 0
theorem deB_snoc (bs : List UInt8) (c : UInt8) : deB (bs ++ [c]) = deB bs * 256 + c.toNat := by simp [deB]
theorem deB_lt : ∀ (w : Nat) (bs : List UInt8), bs.length = w → deB bs < 256 ^ w
  | 0, bs, h => by
    have : bs = [] := List.eq_nil_of_length_eq_zero h
    subst this
    simp [deB]
  | w + 1, bs, h => by
    have hne : bs ≠ [] := by rintro rfl; simp at h
    rw [← List.dropLast_concat_getLast hne, deB_snoc]
    have h1 := deB_lt w bs.dropLast (by simp [h])
    have h2 := (bs.getLast hne).toNat_lt
    rw [Nat.pow_succ]
    omega
theorem de_be (n : Nat) : ∀ w, deB (beB n w) = n % 256 ^ w
  | 0 => by simp [beB_zero, deB, Nat.mod_one]
  | w + 1 => by
    rw [beB_succ, deB_snoc, de_be (n / 256) w, Nat.pow_succ, Nat.mul_comm (256 ^ w) 256, Nat.mod_mul]
    have : (UInt8.ofNat (n % 256)).toNat = n % 256 := by simp
    rw [this]
    omega
end Go.Proofs.Ytjddplddpdcmdaa
