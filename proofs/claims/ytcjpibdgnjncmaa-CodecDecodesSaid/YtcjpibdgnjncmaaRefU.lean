/- Contracts of the reference's U16, U32, U64. -/
import Derived.Test.YtcjpibdgnjncmaaWriter2
namespace Go.Proofs.Ytcjpibdgnjncmaa
open Go.RowKit
set_option linter.unusedVariables false
set_option linter.unusedSimpArgs false

theorem own_bel3 {w w' : World} {base n : Nat} {e : TypeId} {sz : Nat} {v : Value} {xs : List Value} (h : w.ownsRow base e sz v n xs) (hb : Below w.heap.size w w') : w'.ownsRow base e sz v n xs :=
  own_off h (Off.of_below (S := fun _ => False) hb (fun i h => .inr h)) (fun _ _ h => h)

theorem u8_lit (x : Int) (m : Nat) (h : IntKind.u8.wrap x = ((m % 256 : Nat) : Int)) : Value.int .u8 (IntKind.u8.wrap x) = .int .u8 ((UInt8.ofNat (m % 256)).toNat : Int) := by
  rw [h]
  simp
/-- a literal of these bytes is a new slice of them -/
theorem lit_new {w : World} {cs : List Value} {bs : List UInt8} (h : cs = bytesV bs) (hl : bs.length ≤ 8) (n : Nat) (hn : bs.length = n) :
    NewBytes w bs (.returned (.slice (some ⟨w.heap.size, 0, none⟩) n n)) (w.alloc (.cells cs.toArray 5)) := by
  subst h hn
  refine ⟨_, _, rfl, ?_, (Below.refl _ _).alloc (Nat.le_refl _) _⟩
  exact (Blk.fresh w 5 (bytesV bs)).ownAll (n := bs.length) (Nat.le_refl _) (by unfold maxLen; omega) (length_bytesV _)
theorem beB_two (m : Nat) : beB m 2 = [UInt8.ofNat (m / 256 % 256), UInt8.ofNat (m % 256)] := by
  simp [beB, List.range_succ]
theorem beB_four (m : Nat) : beB m 4 = [UInt8.ofNat (m / 16777216 % 256), UInt8.ofNat (m / 65536 % 256), UInt8.ofNat (m / 256 % 256), UInt8.ofNat (m % 256)] := by
  simp [beB, List.range_succ]
theorem ru16b_any (x : Int) (m : Nat) (hx : IntKind.u64.wrap x = (m : Int)) (h0 : -9223372036854775808 ≤ x) (h1 : x ≤ 9223372036854775807) (w : World) :
    Calls Try.prog 21 #[.int .i64 x] w (NewBytes w (beB m 2)) := by
  have hx' := hx
  rw [IntKind.wrap_u64] at hx'
  have e1 := u8_lit (x / 256) (m / 256) (by rw [IntKind.wrap_u8]; omega)
  have e2 := u8_lit x m (by rw [IntKind.wrap_u8]; omega)
  have hb : [Value.int .u8 (IntKind.u8.wrap (x / 256)), .int .u8 (IntKind.u8.wrap x)] = bytesV (beB m 2) := by rw [e1, e2, beB_two]; rfl
  have HB := Lib.hid hb
  clear hx hx' e1 e2 hb
  go_enter Try.func21, Try.ntmps21
  go_wp2
  go_ret
  exact lit_new HB.out (by rw [length_beB]; omega) 2 (length_beB _ _)
theorem ru32b_any (m : Nat) (hm : m < 4294967296) (w : World) :
    Calls Try.prog 20 #[.int .u32 (m : Int)] w (NewBytes w (beB m 4)) := by
  have e1 : Value.int .u8 ((m : Int) / 16777216) = .int .u8 ((UInt8.ofNat (m / 16777216 % 256)).toNat : Int) := by congr 1; simp; omega
  have e2 : Value.int .u8 ((m : Int) / 65536 % 256) = .int .u8 ((UInt8.ofNat (m / 65536 % 256)).toNat : Int) := by congr 1; simp
  have e3 : Value.int .u8 ((m : Int) / 256 % 256) = .int .u8 ((UInt8.ofNat (m / 256 % 256)).toNat : Int) := by congr 1; simp
  have e4 : Value.int .u8 ((m : Int) % 256) = .int .u8 ((UInt8.ofNat (m % 256)).toNat : Int) := by congr 1; simp
  have hb : [Value.int .u8 ((m : Int) / 16777216), .int .u8 ((m : Int) / 65536 % 256), .int .u8 ((m : Int) / 256 % 256), .int .u8 ((m : Int) % 256)] = bytesV (beB m 4) := by rw [e1, e2, e3, e4, beB_four]; rfl
  have HB := Lib.hid hb
  clear e1 e2 e3 e4 hb
  go_enter Try.func20, Try.ntmps20
  go_wp2
  go_ret
  exact lit_new HB.out (by rw [length_beB]; omega) 4 (length_beB _ _)
theorem ru64b_any (m : Nat) (hm : m < 18446744073709551616) (w : World) :
    Calls Try.prog 19 #[.int .u64 (m : Int)] w (NewBytes w (beB m 8)) := by
  have e0 : beB (m / 4294967296) 4 ++ beB (m % 4294967296) 4 = beB m 8 := by
    rw [show (4294967296 : Nat) = 256 ^ 4 from rfl, beB_mod m 4 4 (Nat.le_refl _)]
    exact (beB_add m 4 4).symm
  have H1 : Hid (∀ W : World, Calls Try.prog 20 #[.int .u32 ((m : Int) / 4294967296)] W (NewBytes W (beB (m / 4294967296) 4))) := Lib.hid (fun W => by rw [show ((m : Int) / 4294967296) = ((m / 4294967296 : Nat) : Int) from by simp]; exact ru32b_any _ (by omega) W)
  have H2 : Hid (∀ W : World, Calls Try.prog 20 #[.int .u32 ((m : Int) % 4294967296)] W (NewBytes W (beB (m % 4294967296) 4))) := Lib.hid (fun W => by rw [show ((m : Int) % 4294967296) = ((m % 4294967296 : Nat) : Int) from by simp]; exact ru32b_any _ (by omega) W)
  have E0 := Lib.hid e0
  have l1 := length_beB (m / 4294967296) 4
  have l2 := length_beB (m % 4294967296) 4
  generalize beB (m / 4294967296) 4 = xs at *
  generalize beB (m % 4294967296) 4 = ys at *
  clear e0
  have L1 := Lib.hid l1
  have L2 := Lib.hid l2
  clear l1 l2
  go_enter Try.func19, Try.ntmps19
  go_wp2_with fail
  refine (H1.out _).mono ?_
  rintro en w1 ⟨A1, c1, rfl, hown1, hb1⟩
  go_wp2_with fail
  refine (H2.out _).mono ?_
  rintro en w2 ⟨A2, c2, rfl, hown2, hb2⟩
  have hown1b := own_bel3 hown1 hb2
  have hs1 := hb1.size
  have hs2 := hb2.size
  go_wp2_with (at_builtin; refine wpList_extend elem_byte _ rfl (.tmp 6) (.tmp 9) rfl w.heap.size xs.length _ (bytesV xs) rfl hown1b w2.heap.size _ (bytesV ys) rfl (Reads.of_own hown2) (bytesV_one _) (by rw [length_bytesV, L1.out, L2.out]; unfold maxLen; omega) (by rw [length_bytesV, L1.out, L2.out]; omega) (by omega) ?_; intro A3 c3 w3 hown3 hgrow3 hfr3)
  go_ret
  refine ⟨A3, c3, ?_, ?_, (hb1.trans (hb2.mono (by omega))).grown hgrow3 (by omega) (fun k hk => (hown1.lt k hk).1)⟩
  · show Ending.returned (.slice A3 (xs.length + (bytesV ys).length) c3) = _
    rw [← E0.out, List.length_append, length_bytesV]
  · rw [← E0.out, ← bytesV_append, List.length_append]
    rw [length_bytesV] at hown3
    exact hown3
end Go.Proofs.Ytcjpibdgnjncmaa
