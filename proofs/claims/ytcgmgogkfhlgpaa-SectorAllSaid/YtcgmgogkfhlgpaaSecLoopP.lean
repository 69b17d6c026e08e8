/- What the loops of chapter 5's laws keep: plain. -/
import Derived.Test.YtcgmgogkfhlgpaaSecUp
import Derived.Laws.BitsLemmas
namespace Go.Proofs.Ytcgmgogkfhlgpaa
set_option linter.unusedVariables false

theorem i64_and7 (n : Int) : bits .and .i64 n 7 = n % 8 := by
  have h7 : (BitVec.ofInt 64 7).toNat = 2 ^ 3 - 1 := by decide
  have key : (BitVec.ofInt 64 n &&& BitVec.ofInt 64 7).toNat = (n % ((2 ^ 64 : Nat) : Int)).toNat % 2 ^ 3 := by
    rw [BitVec.toNat_and, BitVec.toNat_ofInt, h7, Nat.and_two_pow_sub_one_eq_mod]
  show IntKind.i64.wrap ((BitVec.ofInt 64 n &&& BitVec.ofInt 64 7).toNat : Nat) = n % 8
  rw [key, IntKind.wrap_i64]
  omega
theorem and7 (n : Int) : ∃ j : Nat, bits .and .i64 n 7 = (j : Int) ∧ j < 8 := ⟨(n % 8).toNat, by rw [i64_and7]; omega, by omega⟩
/-- eight sectors, up -/
structure S8 (k : Nat) (s : Dk) : Prop where
  ok : s.Ok
  up : s.up
  len : s.now.length = 8
  ops : s.ops ≤ k
theorem S8.new : S8 0 (Dk.new 8) := ⟨Dk.new_ok (by omega), Dk.up_new 8, by simp [Dk.new], by simp [Dk.new]⟩
theorem S8.flush {k : Nat} {s : Dk} (h : S8 k s) : s.flush = (s.oper.flushed, 0) ∧ S8 (k + 1) s.oper.flushed :=
  ⟨Dk.up_flush h.ok h.up, Dk.flushed_ok h.ok, Dk.up_flushed (Dk.up_oper h.ok h.up), h.len, by have := h.ops; show s.ops + 1 ≤ _; omega⟩
theorem S8.write {k : Nat} {s : Dk} (h : S8 k s) {j : Nat} (hj : j < 8) {b : List UInt8} (hb : b.length = 64) : s.write (j : Int) b = (s.oper.wrote j b, 0) ∧ S8 (k + 1) (s.oper.wrote j b) :=
  ⟨Dk.up_write h.ok h.up (by rw [h.len]; exact hj) hb, Dk.wrote_ok h.ok (by rw [h.len]; exact hj) hb, Dk.up_wrote (Dk.up_oper h.ok h.up) j b, by show (s.now.set j b).length = 8; rw [List.length_set]; exact h.len, by have := h.ops; show s.ops + 1 ≤ _; omega⟩
theorem S8.crash {k : Nat} {s : Dk} (h : S8 k s) (l : List UInt8) : S8 k (s.crash l) := by
  have ho := Dk.crash_ok h.ok l
  refine ⟨ho, Dk.up_crash s l, ?_, h.ops⟩
  have := crashI_ok s.log l s.sure h.ok.log ⟨h.ok.len, h.ok.sure⟩
  show (crashI s.log l s.sure).length = 8
  rw [this.1, h.len]
theorem S8.read {k : Nat} {s : Dk} (h : S8 k s) {j : Nat} (hj : j < 8) : s.read (j : Int) = (s.now.getD j [], 0) := Dk.up_read h.up (by rw [h.len]; exact hj)
theorem S8.more {k k' : Nat} {s : Dk} (h : S8 k s) (hk : k ≤ k') : S8 k' s := ⟨h.ok, h.up, h.len, by have := h.ops; omega⟩
/-- with a fuse: n operations, then down -/
structure F8 (n k : Nat) (s : Dk) : Prop where
  ok : s.Ok
  len : s.now.length = 8
  ops : s.ops = k
  fuse : s.fuse = n
  down : s.down = decide (n ≤ k)
theorem F8.new {n : Nat} (h1 : 1 ≤ n) (h2 : n ≤ 20) : F8 n 0 ((Dk.new 8).fused n) := by
  refine ⟨Dk.fused_ok (Dk.new_ok (by omega)) _, by simp [Dk.new, Dk.fused], rfl, ?_, ?_⟩
  · unfold Dk.fused
    simp only
    rw [if_pos ⟨by omega, by simp [Dk.new]; omega⟩]
    simp [Dk.new]
  · show false = _
    simp
    omega
theorem F8.oper {n k : Nat} {s : Dk} (h : F8 n k s) : F8 n (k + 1) s.oper := by
  refine ⟨Dk.oper_ok h.ok, h.len, ?_, h.fuse, ?_⟩
  · show s.ops + 1 = _
    rw [h.ops]; rfl
  · unfold Dk.oper
    simp only
    rw [h.down, h.ops, h.fuse]
    by_cases h1 : n ≤ k
    · simp [h1, show n ≤ k + 1 by omega]
    · by_cases h2 : n = k + 1
      · subst h2
        simp
      · have e : (((k : Int) + 1) == (n : Int)) = false := beq_eq_false_iff_ne.2 (by omega)
        rw [e]
        simp [h1, show ¬ n ≤ k + 1 by omega]
theorem F8.flush {n k : Nat} {s : Dk} (h : F8 n k s) : ∃ s', F8 n (k + 1) s' ∧ s.flush = (s', if n ≤ k + 1 then 9 else 0) := by
  have h1 := h.oper
  unfold Dk.flush
  rw [h1.down]
  by_cases h2 : n ≤ k + 1
  · exact ⟨_, h1, by simp [h2]⟩
  · exact ⟨_, ⟨Dk.flushed_ok h.ok, h1.len, h1.ops, h1.fuse, h1.down⟩, by simp [h2]⟩
theorem F8.write {n k : Nat} {s : Dk} (h : F8 n k s) {j : Nat} (hj : j < 8) {b : List UInt8} (hb : b.length = 64) : ∃ s', F8 n (k + 1) s' ∧ s.write (j : Int) b = (s', if n ≤ k + 1 then 9 else 0) := by
  have h1 := h.oper
  unfold Dk.write
  rw [if_pos ⟨Dk.hasI_of (by rw [h.len]; exact hj), hb⟩, h1.down]
  by_cases h2 : n ≤ k + 1
  · exact ⟨_, h1, by simp [h2]⟩
  · refine ⟨s.oper.wrote j b, ⟨Dk.wrote_ok h.ok (by rw [h.len]; exact hj) hb, ?_, h1.ops, h1.fuse, h1.down⟩, by simp [h2]⟩
    show (s.oper.now.set j b).length = 8
    rw [List.length_set]; exact h1.len
end Go.Proofs.Ytcgmgogkfhlgpaa
