/- Contracts of the reference's U16, U32, U64. -/
import Derived.Test.YtfhlailhcfjjaaaWriter2
namespace Go.Proofs.Ytfhlailhcfjjaaa
open Go.RowKit
set_option linter.unusedVariables false
set_option linter.unusedSimpArgs false

theorem own_bel3 {w w' : World} {base n : Nat} {e : TypeId} {sz : Nat} {v : Value} {xs : List Value} (h : w.ownsRow base e sz v n xs) (hb : Below w.heap.size w w') : w'.ownsRow base e sz v n xs :=
  own_off h (Off.of_below (S := fun _ => False) hb (fun i h => .inr h)) (fun _ _ h => h)

theorem u8_lit (x : Int) (m : Nat) (h : IntKind.u8.wrap x = ((m % 256 : Nat) : Int)) : Value.int .u8 (IntKind.u8.wrap x) = .int .u8 ((UInt8.ofNat (m % 256)).toNat : Int) := by
  rw [h]
  simp
/-- a literal of these bytes is a new slice of them -/
theorem lit_new {w : World} {cs : List Value} {bs : List UInt8} (h : cs = bytesV bs) (hl : bs.length ≤ 8) (n : Nat) (hn : bs.length = n) :
    NewBytes w bs (.returned (.slice (some ⟨w.heap.size, 0, none⟩) n n)) (w.alloc (.cells cs.toArray 5)) := by
  subst h hn
  refine ⟨_, _, rfl, ?_, (Below.refl _ _).alloc (Nat.le_refl _) _⟩
  exact (Blk.fresh w 5 (bytesV bs)).ownAll (n := bs.length) (Nat.le_refl _) (by unfold maxLen; omega) (length_bytesV _)
theorem beB_two (m : Nat) : beB m 2 = [UInt8.ofNat (m / 256 % 256), UInt8.ofNat (m % 256)] := by
  simp [beB, List.range_succ]
theorem beB_four (m : Nat) : beB m 4 = [UInt8.ofNat (m / 16777216 % 256), UInt8.ofNat (m / 65536 % 256), UInt8.ofNat (m / 256 % 256), UInt8.ofNat (m % 256)] := by
  simp [beB, List.range_succ]
theorem ru16b_any (x : Int) (m : Nat) (hx : IntKind.u64.wrap x = (m : Int)) (h0 : -9223372036854775808 ≤ x) (h1 : x ≤ 9223372036854775807) (w : World) :
    Calls Try.prog 33 #[.int .i64 x] w (NewBytes w (beB m 2)) := by
  have hx' := hx
  rw [IntKind.wrap_u64] at hx'
  have e1 := u8_lit (x / 256) (m / 256) (by rw [IntKind.wrap_u8]; omega)
  have e2 := u8_lit x m (by rw [IntKind.wrap_u8]; omega)
  have hb : [Value.int .u8 (IntKind.u8.wrap (x / 256)), .int .u8 (IntKind.u8.wrap x)] = bytesV (beB m 2) := by rw [e1, e2, beB_two]; rfl
  have HB := Lib.hid hb
  clear hx hx' e1 e2 hb
  go_enter Try.func33, Try.ntmps33
  go_wp2
  go_ret
  exact lit_new HB.out (by rw [length_beB]; omega) 2 (length_beB _ _)
end Go.Proofs.Ytfhlailhcfjjaaa
