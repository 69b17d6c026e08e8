/- Plain facts on 64-bit words: the mixture of chapter 1, over BitVec; no program in sight. -/
import Derived.WalkKit
import Derived.Laws.BitsAllLaws
namespace Go.Proofs.Ytkileiikffomlaa
open Go.RowKit

/-- an Int as a word, and back -/
def W64 (x : Int) : BitVec 64 := BitVec.ofInt 64 x
def I64 (v : BitVec 64) : Int := (v.toNat : Int)
theorem I64_lo (v : BitVec 64) : 0 ≤ I64 v := Int.natCast_nonneg _
theorem I64_hi (v : BitVec 64) : I64 v < 18446744073709551616 := by have := v.isLt; unfold I64; omega
theorem W64_I64 (v : BitVec 64) : W64 (I64 v) = v := by unfold W64 I64; apply BitVec.eq_of_toNat_eq; rw [ofInt_u64 _ v.isLt]
theorem I64_W64 {x : Int} (h0 : 0 ≤ x) (h1 : x < 18446744073709551616) : I64 (W64 x) = x := by
  unfold I64 W64
  obtain ⟨n, rfl⟩ := Int.eq_ofNat_of_zero_le h0
  rw [ofInt_u64 _ (by omega)]
theorem I64_inj {a b : BitVec 64} : I64 a = I64 b ↔ a = b := by
  unfold I64
  constructor
  · intro h; exact BitVec.eq_of_toNat_eq (by omega)
  · intro h; rw [h]
theorem wrap_I64 (x : Int) : IntKind.u64.wrap x = I64 (W64 x) := by
  unfold I64 W64
  rw [IntKind.wrap_u64, BitVec.toNat_ofInt]
  omega
theorem add_I64 (a b : BitVec 64) : IntKind.u64.wrap (I64 a + I64 b) = I64 (a + b) := by
  unfold I64; rw [IntKind.wrap_u64, BitVec.toNat_add]; omega
theorem mul_I64 (a b : BitVec 64) : IntKind.u64.wrap (I64 a * I64 b) = I64 (a * b) := by
  unfold I64; rw [IntKind.wrap_u64, BitVec.toNat_mul, ← Int.natCast_mul]; omega
theorem xor_I64 (a b : BitVec 64) : bits .xor .u64 (I64 a) (I64 b) = I64 (a ^^^ b) := by
  unfold I64; rw [u64_xor_nat _ _ a.isLt b.isLt, BitVec.toNat_xor]
theorem and_I64 (a b : BitVec 64) : bits .and .u64 (I64 a) (I64 b) = I64 (a &&& b) := by
  unfold I64; rw [u64_and_nat _ _ a.isLt b.isLt, BitVec.toNat_and]
theorem shr_I64 (a : BitVec 64) (k : Nat) (d : Int) (hd : d = 2 ^ k) : I64 a / d = I64 (a >>> k) := by
  subst hd
  unfold I64; rw [BitVec.toNat_ushiftRight, Nat.shiftRight_eq_div_pow]
  rw [Int.natCast_ediv]; simp

/-- the mixture -/
def mixB (x : BitVec 64) : BitVec 64 :=
  let a := x + 0x9e3779b97f4a7c15#64
  let b := (a ^^^ a >>> 30) * 0xbf58476d1ce4e5b9#64
  let c := (b ^^^ b >>> 27) * 0x94d049bb133111eb#64
  c ^^^ c >>> 31
def mix (x : Int) : Int := I64 (mixB (W64 x))
theorem mix_lo (x : Int) : 0 ≤ mix x := I64_lo _
theorem mix_hi (x : Int) : mix x < 18446744073709551616 := I64_hi _

theorem c1 : (11400714819323198485 : Int) = I64 0x9e3779b97f4a7c15#64 := by decide +kernel
theorem c2 : (13787848793156543929 : Int) = I64 0xbf58476d1ce4e5b9#64 := by decide +kernel
theorem c3 : (10723151780598845931 : Int) = I64 0x94d049bb133111eb#64 := by decide +kernel

/-- the walk's own form of the mixture -/
theorem mix_walk (x : Int) (h0 : 0 ≤ x) (h1 : x < 18446744073709551616) : 
    bits BinOp.xor IntKind.u64
      (IntKind.u64.wrap (bits BinOp.xor IntKind.u64 (IntKind.u64.wrap (bits BinOp.xor IntKind.u64 (IntKind.u64.wrap (x + 11400714819323198485)) (IntKind.u64.wrap (x + 11400714819323198485) / 1073741824) * 13787848793156543929))
          (IntKind.u64.wrap (bits BinOp.xor IntKind.u64 (IntKind.u64.wrap (x + 11400714819323198485)) (IntKind.u64.wrap (x + 11400714819323198485) / 1073741824) * 13787848793156543929) / 134217728) * 10723151780598845931))
      (IntKind.u64.wrap (bits BinOp.xor IntKind.u64 (IntKind.u64.wrap (bits BinOp.xor IntKind.u64 (IntKind.u64.wrap (x + 11400714819323198485)) (IntKind.u64.wrap (x + 11400714819323198485) / 1073741824) * 13787848793156543929))
          (IntKind.u64.wrap (bits BinOp.xor IntKind.u64 (IntKind.u64.wrap (x + 11400714819323198485)) (IntKind.u64.wrap (x + 11400714819323198485) / 1073741824) * 13787848793156543929) / 134217728) * 10723151780598845931) / 2147483648) = mix x := by
  obtain ⟨v, rfl⟩ : ∃ v, x = I64 v := ⟨W64 x, (I64_W64 h0 h1).symm⟩
  rw [c1, c2, c3]
  simp only [add_I64, mul_I64, xor_I64, shr_I64 _ 30 1073741824 rfl, shr_I64 _ 27 134217728 rfl, shr_I64 _ 31 2147483648 rfl]
  unfold mix
  rw [W64_I64]
  rfl

/-- AT -/
def atB (s t i : BitVec 64) : BitVec 64 := mixB (mixB (mixB s ^^^ t) ^^^ i)
def atI (s t i : Int) : Int := I64 (atB (W64 s) (W64 t) (W64 i))
theorem atI_lo (s t i : Int) : 0 ≤ atI s t i := I64_lo _
theorem atI_hi (s t i : Int) : atI s t i < 18446744073709551616 := I64_hi _
theorem xor_lo (a b : Int) (h0 : 0 ≤ a) (h1 : a < 18446744073709551616) (h2 : 0 ≤ b) (h3 : b < 18446744073709551616) : 0 ≤ bits .xor .u64 a b := by
  rw [← I64_W64 h0 h1, ← I64_W64 h2 h3, xor_I64]; exact I64_lo _
theorem xor_hi (a b : Int) (h0 : 0 ≤ a) (h1 : a < 18446744073709551616) (h2 : 0 ≤ b) (h3 : b < 18446744073709551616) : bits .xor .u64 a b < 18446744073709551616 := by
  rw [← I64_W64 h0 h1, ← I64_W64 h2 h3, xor_I64]; exact I64_hi _
theorem at_walk (s t i : Int) (_h0 : 0 ≤ s) (_h1 : s < 18446744073709551616) (h2 : 0 ≤ t) (h3 : t < 18446744073709551616) (h4 : 0 ≤ i) (h5 : i < 18446744073709551616) :
    mix (bits .xor .u64 (mix (bits .xor .u64 (mix s) t)) i) = atI s t i := by
  unfold atI atB mix
  conv => lhs; rw [← I64_W64 h2 h3, ← I64_W64 h4 h5]
  simp only [xor_I64, W64_I64]

/-! ### unlike numbers are mixed to unlike ones -/
theorem xorshift_inj {k : Nat} (hk : 0 < k) {a b : BitVec 64} (h : a ^^^ a >>> k = b ^^^ b >>> k) : a = b := by
  -- from the top bit down
  have key : ∀ n i, i < 64 → 64 - n ≤ i → a.getLsbD i = b.getLsbD i := by
    intro n
    induction n with
    | zero => intro i hi hn; omega
    | succ n ih =>
      intro i hi hn
      have hb := congrArg (fun v => v.getLsbD i) h
      simp only [BitVec.getLsbD_xor, BitVec.getLsbD_ushiftRight] at hb
      have e : a.getLsbD (k + i) = b.getLsbD (k + i) := by
        by_cases hki : k + i < 64
        · exact ih _ hki (by omega)
        · rw [BitVec.getLsbD_of_ge _ _ (by omega), BitVec.getLsbD_of_ge _ _ (by omega)]
      rw [e] at hb
      revert hb
      cases a.getLsbD i <;> cases b.getLsbD i <;> cases b.getLsbD (k + i) <;> simp
  apply BitVec.eq_of_getLsbD_eq
  intro i hi
  exact key 64 i hi (by omega)
theorem mul_inj {c d a b : BitVec 64} (hcd : c * d = 1#64) (h : a * c = b * c) : a = b := by
  have h2 := congrArg (· * d) h
  simp only [BitVec.mul_assoc, hcd, BitVec.mul_one] at h2
  exact h2
theorem add_inj {c a b : BitVec 64} (h : a + c = b + c) : a = b := by
  have h2 := congrArg (· - c) h
  simpa [BitVec.add_sub_cancel] using h2
theorem mixB_inj {a b : BitVec 64} (h : mixB a = mixB b) : a = b := by
  unfold mixB at h
  have h1 := xorshift_inj (by omega) h
  have h2 := mul_inj (c := 0x94d049bb133111eb#64) (d := 0x319642b2d24d8ec3#64) (by decide +kernel) h1
  have h3 := xorshift_inj (by omega) h2
  have h4 := mul_inj (c := 0xbf58476d1ce4e5b9#64) (d := 0x96de1b173f119089#64) (by decide +kernel) h3
  have h5 := xorshift_inj (by omega) h4
  exact add_inj h5
theorem xor_cancel_r {a b c : BitVec 64} (h : a ^^^ c = b ^^^ c) : a = b := by
  have h2 := congrArg (· ^^^ c) h
  simpa [BitVec.xor_assoc] using h2
theorem xor_cancel_l {a b c : BitVec 64} (h : c ^^^ a = c ^^^ b) : a = b := by
  have h2 := congrArg (c ^^^ ·) h
  simpa [← BitVec.xor_assoc] using h2
theorem mix_inj {a b : Int} (ha : 0 ≤ a) (ha' : a < 18446744073709551616) (hb : 0 ≤ b) (hb' : b < 18446744073709551616) : mix a = mix b ↔ a = b := by
  unfold mix
  rw [I64_inj]
  constructor
  · intro h
    have := mixB_inj h
    rw [← I64_W64 ha ha', ← I64_W64 hb hb', this]
  · intro h; rw [h]
theorem at_inj1 {a b c d : Int} (ha : 0 ≤ a) (ha' : a < 18446744073709551616) (hb : 0 ≤ b) (hb' : b < 18446744073709551616) : atI a c d = atI b c d ↔ a = b := by
  unfold atI atB
  rw [I64_inj]
  constructor
  · intro h
    have := mixB_inj (xor_cancel_r (mixB_inj (xor_cancel_r (mixB_inj h))))
    rw [← I64_W64 ha ha', ← I64_W64 hb hb', this]
  · intro h; rw [h]
theorem at_inj2 {a b c d : Int} (ha : 0 ≤ a) (ha' : a < 18446744073709551616) (hb : 0 ≤ b) (hb' : b < 18446744073709551616) : atI c a d = atI c b d ↔ a = b := by
  unfold atI atB
  rw [I64_inj]
  constructor
  · intro h
    have := xor_cancel_l (mixB_inj (xor_cancel_r (mixB_inj h)))
    rw [← I64_W64 ha ha', ← I64_W64 hb hb', this]
  · intro h; rw [h]
theorem at_inj3 {a b c d : Int} (ha : 0 ≤ a) (ha' : a < 18446744073709551616) (hb : 0 ≤ b) (hb' : b < 18446744073709551616) : atI c d a = atI c d b ↔ a = b := by
  unfold atI atB
  rw [I64_inj]
  constructor
  · intro h
    have := xor_cancel_l (mixB_inj h)
    rw [← I64_W64 ha ha', ← I64_W64 hb hb', this]
  · intro h; rw [h]
theorem mix_zero : mix 0 = 16294208416658607535 := by decide +kernel
end Go.Proofs.Ytkileiikffomlaa
