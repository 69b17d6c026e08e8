/- Contracts of the reference's U16, U32, U64. -/
import Derived.Test.YtjddplddpdcmdaaWriter2
namespace Go.Proofs.Ytjddplddpdcmdaa
open Go.RowKit
set_option linter.unusedVariables false
set_option linter.unusedSimpArgs false

theorem own_bel3 {w w' : World} {base n : Nat} {e : TypeId} {sz : Nat} {v : Value} {xs : List Value} (h : w.ownsRow base e sz v n xs) (hb : Below w.heap.size w w') : w'.ownsRow base e sz v n xs :=
  own_off h (Off.of_below (S := fun _ => False) hb (fun i h => .inr h)) (fun _ _ h => h)

theorem u8_lit (x : Int) (m : Nat) (h : IntKind.u8.wrap x = ((m % 256 : Nat) : Int)) : Value.int .u8 (IntKind.u8.wrap x) = .int .u8 ((UInt8.ofNat (m % 256)).toNat : Int) := by
  rw [h]
  simp
/-- a literal of these bytes is a new slice of them -/
theorem lit_new {w : World} {cs : List Value} {bs : List UInt8} (h : cs = bytesV bs) (hl : bs.length ≤ 8) (n : Nat) (hn : bs.length = n) :
    NewBytes w bs (.returned (.slice (some ⟨w.heap.size, 0, none⟩) n n)) (w.alloc (.cells cs.toArray 5)) := by
  subst h hn
  refine ⟨_, _, rfl, ?_, (Below.refl _ _).alloc (Nat.le_refl _) _⟩
  exact (Blk.fresh w 5 (bytesV bs)).ownAll (n := bs.length) (Nat.le_refl _) (by unfold maxLen; omega) (length_bytesV _)
theorem beB_two (m : Nat) : beB m 2 = [UInt8.ofNat (m / 256 % 256), UInt8.ofNat (m % 256)] := by
  simp [beB, List.range_succ]
theorem beB_four (m : Nat) : beB m 4 = [UInt8.ofNat (m / 16777216 % 256), UInt8.ofNat (m / 65536 % 256), UInt8.ofNat (m / 256 % 256), UInt8.ofNat (m % 256)] := by
  simp [beB, List.range_succ]
theorem ru32b_any (m : Nat) (hm : m < 4294967296) (w : World) :
    Calls Try.prog 55 #[.int .u32 (m : Int)] w (NewBytes w (beB m 4)) := by
  have e1 : Value.int .u8 ((m : Int) / 16777216) = .int .u8 ((UInt8.ofNat (m / 16777216 % 256)).toNat : Int) := by congr 1; simp; omega
  have e2 : Value.int .u8 ((m : Int) / 65536 % 256) = .int .u8 ((UInt8.ofNat (m / 65536 % 256)).toNat : Int) := by congr 1; simp
  have e3 : Value.int .u8 ((m : Int) / 256 % 256) = .int .u8 ((UInt8.ofNat (m / 256 % 256)).toNat : Int) := by congr 1; simp
  have e4 : Value.int .u8 ((m : Int) % 256) = .int .u8 ((UInt8.ofNat (m % 256)).toNat : Int) := by congr 1; simp
  have hb : [Value.int .u8 ((m : Int) / 16777216), .int .u8 ((m : Int) / 65536 % 256), .int .u8 ((m : Int) / 256 % 256), .int .u8 ((m : Int) % 256)] = bytesV (beB m 4) := by rw [e1, e2, e3, e4, beB_four]; rfl
  have HB := Lib.hid hb
  clear e1 e2 e3 e4 hb
  go_enter Try.func55, Try.ntmps55
  go_wp2
  go_ret
  exact lit_new HB.out (by rw [length_beB]; omega) 4 (length_beB _ _)
end Go.Proofs.Ytjddplddpdcmdaa
