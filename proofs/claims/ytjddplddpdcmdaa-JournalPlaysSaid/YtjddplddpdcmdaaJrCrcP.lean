/- CRC-32, plain. -/
import Derived.Laws.BitsLemmas
namespace Go.Proofs.Ytjddplddpdcmdaa
set_option linter.unusedVariables false
set_option linter.unusedSimpArgs false

def crcBit (s : Nat) : Nat := if s % 2 = 1 then (s / 2) ^^^ 3988292384 else s / 2
def crcBits : Nat → Nat → Nat
  | 0, s => s
  | m + 1, s => crcBit (crcBits m s)
def crcByte (s : Nat) (c : UInt8) : Nat := crcBits 8 (s ^^^ c.toNat)
def crcRun (bs : List UInt8) : Nat := bs.foldl crcByte 4294967295
def crcN (bs : List UInt8) : Nat := crcRun bs ^^^ 4294967295
theorem crcBit_lt {s : Nat} (h : s < 4294967296) : crcBit s < 4294967296 := by
  unfold crcBit
  split
  · exact Nat.xor_lt_two_pow (n := 32) (by omega) (by decide)
  · omega
theorem crcBits_lt (m : Nat) {s : Nat} (h : s < 4294967296) : crcBits m s < 4294967296 := by
  induction m with
  | zero => exact h
  | succ m ih => exact crcBit_lt ih
theorem crcXor_lt {s : Nat} (h : s < 4294967296) (c : UInt8) : s ^^^ c.toNat < 4294967296 := Nat.xor_lt_two_pow (n := 32) h (by have := c.toNat_lt; omega)
theorem crcByte_lt {s : Nat} (h : s < 4294967296) (c : UInt8) : crcByte s c < 4294967296 := crcBits_lt 8 (crcXor_lt h c)
theorem crcFold_lt (bs : List UInt8) : ∀ {s : Nat}, s < 4294967296 → bs.foldl crcByte s < 4294967296 := by
  induction bs with
  | nil => intro s h; exact h
  | cons c r ih => intro s h; exact ih (crcByte_lt h c)
theorem crcN_lt (bs : List UInt8) : crcN bs < 4294967296 := Nat.xor_lt_two_pow (n := 32) (crcFold_lt bs (by decide)) (by decide)
theorem crcRun_snoc (bs : List UInt8) (c : UInt8) : crcRun (bs ++ [c]) = crcByte (crcRun bs) c := by simp [crcRun]
/-- what the walk writes for the operations on bits -/
theorem b32 (n : Nat) (h : n < 4294967296) : (BitVec.ofInt 32 (n : Int)).toNat = n := by
  rw [BitVec.toNat_ofInt]
  omega
theorem xor32 {a b : Nat} (ha : a < 4294967296) (hb : b < 4294967296) : bits .xor .u32 (a : Int) (b : Int) = ((a ^^^ b : Nat) : Int) := by
  have hx : a ^^^ b < 4294967296 := Nat.xor_lt_two_pow (n := 32) ha hb
  show IntKind.u32.wrap ((BitVec.ofInt 32 (a : Int) ^^^ BitVec.ofInt 32 (b : Int)).toNat : Nat) = _
  rw [BitVec.toNat_xor, b32 a ha, b32 b hb, IntKind.wrap_u32]
  omega
theorem and1_32 {a : Nat} (ha : a < 4294967296) : bits .and .u32 (a : Int) 1 = ((a % 2 : Nat) : Int) := by
  show IntKind.u32.wrap ((BitVec.ofInt 32 (a : Int) &&& BitVec.ofInt 32 1).toNat : Nat) = _
  rw [BitVec.toNat_and, b32 a ha, show (BitVec.ofInt 32 1).toNat = 2 ^ 1 - 1 by decide, Nat.and_two_pow_sub_one_eq_mod, IntKind.wrap_u32]
  omega
theorem poly0 : bits .and .u32 3988292384 0 = 0 := by decide
theorem poly1 : bits .and .u32 3988292384 4294967295 = 3988292384 := by decide
end Go.Proofs.Ytjddplddpdcmdaa
