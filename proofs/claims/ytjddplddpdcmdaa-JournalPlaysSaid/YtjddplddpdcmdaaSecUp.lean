/- A disk that is up: plain. -/
import Derived.Test.YtjddplddpdcmdaaSecPlain
namespace Go.Proofs.Ytjddplddpdcmdaa
set_option linter.unusedVariables false
set_option linter.unusedSimpArgs false

def Dk.up (s : Dk) : Prop := s.fuse = 0 ∧ s.down = false
theorem Dk.up_oper {s : Dk} (h : s.Ok) (hu : s.up) : s.oper.up := by
  refine ⟨hu.1, ?_⟩
  unfold Dk.oper
  simp only [hu.1, hu.2, Bool.false_or]
  exact beq_eq_false_iff_ne.2 (by have := h.ops0; omega)
theorem Dk.hasI_of {s : Dk} {k : Nat} (hk : k < s.now.length) : s.hasI (k : Int) = true := by
  unfold Dk.hasI
  simp
  omega
theorem Dk.up_write {s : Dk} (h : s.Ok) (hu : s.up) {k : Nat} (hk : k < s.now.length) {b : List UInt8} (hb : b.length = 64) : s.write (k : Int) b = (s.oper.wrote k b, 0) := by
  unfold Dk.write
  rw [if_pos ⟨Dk.hasI_of hk, hb⟩, if_neg (by rw [(Dk.up_oper h hu).2]; simp), Int.toNat_natCast]
theorem Dk.up_flush {s : Dk} (h : s.Ok) (hu : s.up) : s.flush = (s.oper.flushed, 0) := by
  unfold Dk.flush
  rw [if_neg (by rw [(Dk.up_oper h hu).2]; simp)]
theorem Dk.up_read {s : Dk} (hu : s.up) {k : Nat} (hk : k < s.now.length) : s.read (k : Int) = (s.now.getD k [], 0) := by
  unfold Dk.read
  rw [if_pos (Dk.hasI_of hk), if_neg (by rw [hu.2]; simp), Int.toNat_natCast]
theorem Dk.up_new (n : Nat) : (Dk.new n).up := ⟨rfl, rfl⟩
theorem Dk.up_wrote {s : Dk} (hu : s.up) (k : Nat) (b : List UInt8) : (s.wrote k b).up := hu
theorem Dk.up_flushed {s : Dk} (hu : s.up) : s.flushed.up := hu
theorem Dk.up_crash (s : Dk) (l : List UInt8) : (s.crash l).up := ⟨rfl, rfl⟩
end Go.Proofs.Ytjddplddpdcmdaa
