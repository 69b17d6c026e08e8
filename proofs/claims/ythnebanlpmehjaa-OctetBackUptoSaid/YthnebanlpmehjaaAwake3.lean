/- pedagoguelaw3.awake; OctetHalves. -/
import Derived.Test.YthnebanlpmehjaaWriter2
import Derived.Deep.RegionWith
import Derived.Deep.DrawnRows
import Derived.Test.YthnebanlpmehjaaPlain1
namespace Go.Proofs.Ythnebanlpmehjaa
open Go.RowKit Go.ChangeShapes
set_option linter.unusedVariables false

theorem u64_of {x : Int} (w : (Lit.int .u64 x).wf = true) : 0 ≤ x ∧ x < 18446744073709551616 := by
  simp only [Lit.wf, IntKind.min, IntKind.max, IntKind.signed, IntKind.bits, Bool.and_eq_true] at w
  have h2 : (2:Int)^64 = 18446744073709551616 := by decide
  simp at w
  omega
theorem run_str {w : World} {B : Nat} {v : Value} {bs : List UInt8} (h : Reads w B v (bytesV bs)) : (convert 24 9 v).run Try.prog w = .ok (.string ⟨bs.toArray⟩) w :=
  run_string _ _ 5 Try.underlying24 Try.underlying5 Try.underlying9 h
/-- .. and ever after -/
theorem run_str_later {w : World} {base n : Nat} {v : Value} {bs : List UInt8} (h : w.ownsRow base 5 1 v n (bytesV bs)) : ∀ W, Below w.heap.size w W → (convert 24 9 v).run Try.prog W = .ok (.string ⟨bs.toArray⟩) W :=
  fun W hW => run_str ((Reads.of_own h).below hW)
/-- a new writer -/
theorem Wr.fresh (w : World) (B : Nat) : Wr (w.alloc (.cells #[.slice none 0 0] 26)) B w.heap.size (.slice none 0 0) [] :=
  ⟨Blk.fresh w 26 [.slice none 0 0], World.ownsRow_nil _ _ _ _, by simp [Value.ownBlock]⟩

theorem awake3_any (w : World) : Calls Try.prog 14 #[] w fun e w' => e = .returned (.bool true) ∧ Below w.heap.size w w' := by
  have hw0 := Wr.fresh w w.heap.size
  have e2 : beB 258 2 = [1, 2] := by decide +kernel
  have hu : IntKind.u64.wrap 258 = ((258 : Nat) : Int) := by decide
  have HU := Lib.hid hu
  have HW := Lib.hid hw0
  have HE := Lib.hid e2
  clear hu hw0 e2
  go_enter Try.func14, Try.ntmps14
  go_wp2_with fail
  refine (u16_any _ w.heap.size w.heap.size _ [] HW.out (by simp) 258 258 HU.out (by simp)).mono ?_
  rintro e w1 ⟨rfl, v1, hw1, _, hoff1⟩
  rw [HE.out] at hw1
  have hb1 : Below w.heap.size w w1 := ((Below.refl w.heap.size w).alloc (Nat.le_refl _) _).trans (hoff1.below (by simp) (fun i hi => by rcases hi with rfl | hi; exact Nat.le_refl _; simp [Value.ownBlock] at hi))
  clear hoff1
  have HW1 := Lib.hid hw1
  have HB1 := Lib.hid hb1
  clear hw1 hb1 HW HE HU
  go_wp2_with fail
  refine (bytes_any w1 w.heap.size w.heap.size v1 _ HW1.out (by simp)).mono ?_
  rintro e w2 ⟨A2, c2, rfl, hown, hb2⟩
  have q1 : (convert 24 9 (.slice A2 2 c2)).run Try.prog w2 = .ok (.string ⟨#[1, 2]⟩) w2 := run_str (bs := [1, 2]) (Reads.of_own hown)
  have HB2 := Lib.hid hb2
  clear hown hb2
  go_wp2_with fail
  go_ret
  exact ⟨rfl, HB1.out.trans (HB2.out.mono HB1.out.size)⟩

theorem and255 (m : Nat) (h : m < 18446744073709551616) : bits .and .u64 (m : Int) 255 = ((m % 256 : Nat) : Int) := by
  have := u64_and_nat m 255 h (by omega)
  rw [show (255 : Nat) = 2 ^ 8 - 1 from rfl, Nat.and_two_pow_sub_one_eq_mod] at this
  exact this
theorem and65535 (m : Nat) (h : m < 18446744073709551616) : bits .and .u64 (m : Int) 65535 = ((m % 65536 : Nat) : Int) := by
  have := u64_and_nat m 65535 h (by omega)
  rw [show (65535 : Nat) = 2 ^ 16 - 1 from rfl, Nat.and_two_pow_sub_one_eq_mod] at this
  exact this
theorem halves_plain (m : Nat) : (((beB (m / 4294967296) 4 ++ beB (m / 65536 % 65536) 2) ++ beB (m / 256 % 256) 1) ++ beB (m % 256) 1) = beB m 8 := by
  have e1 := beB_add m 4 4
  have e2 := beB_add m 2 2
  have e3 := beB_add m 1 1
  have m1 := beB_mod (m / 65536) 2 2 (Nat.le_refl _)
  have m2 := beB_mod (m / 256) 1 1 (Nat.le_refl _)
  have m3 := beB_mod m 1 1 (Nat.le_refl _)
  simp only [show (256 : Nat) ^ 4 = 4294967296 from rfl, show (256 : Nat) ^ 2 = 65536 from rfl, Nat.pow_one] at e1 e2 e3 m1 m2 m3
  rw [show (8 : Nat) = 4 + 4 from rfl, e1, show (4 : Nat) = 2 + 2 from rfl, e2, show (2 : Nat) = 1 + 1 from rfl, e3, m1, m2, m3]
  simp only [List.append_assoc]

attribute [local go_sem ↓] Go.wp_at_zero Go.wp_at_succ in
set_option maxHeartbeats 1600000 in
set_option maxRecDepth 100000 in
theorem octetHalves_walk (a0 : Int) (w0 : (Lit.int .u64 a0).wf = true) (w : World) :
    Calls Try.prog 3 #[.int .u64 a0] w fun e w' => e = .returned (.bool true) ∧ Below w.heap.size w w' := by
  obtain ⟨h0, h0'⟩ := u64_of w0
  obtain ⟨m, rfl⟩ := Int.eq_ofNat_of_zero_le h0
  have hm : m < 18446744073709551616 := by omega
  have hT : Two ((w.alloc (.cells #[.slice none 0 0] 26)).alloc (.cells #[.slice none 0 0] 26)) w.heap.size w.heap.size (w.heap.size + 1) (.slice none 0 0) (.slice none 0 0) [] [] := by
    have hA := Wr.fresh w w.heap.size
    have hB := Wr.fresh (w.alloc (.cells #[.slice none 0 0] 26)) w.heap.size
    simp only [World.size_alloc] at hB
    refine ⟨?_, hB, by omega, by omega, by omega, by simp [Value.ownBlock], by simp [Value.ownBlock], by simp [Value.ownBlock]⟩
    exact ⟨hA.blk.alloc _, hA.own.alloc _, hA.ne⟩
  have hbel : Below w.heap.size w ((w.alloc (.cells #[.slice none 0 0] 26)).alloc (.cells #[.slice none 0 0] 26)) := ((Below.refl _ _).alloc (Nat.le_refl _) _).alloc (by simp) _
  have x1 : IntKind.u64.wrap (bits .and .u64 ((m : Int) / 65536) 65535) = ((m / 65536 % 65536 : Nat) : Int) := by
    rw [show ((m : Int) / 65536) = ((m / 65536 : Nat) : Int) from by simp, and65535 _ (by omega), IntKind.wrap_u64]; omega
  have x2 : IntKind.u64.wrap (bits .and .u64 ((m : Int) / 256) 255) = ((m / 256 % 256 : Nat) : Int) := by
    rw [show ((m : Int) / 256) = ((m / 256 : Nat) : Int) from by simp, and255 _ (by omega), IntKind.wrap_u64]; omega
  have x3 : IntKind.u64.wrap (bits .and .u64 (m : Int) 255) = ((m % 256 : Nat) : Int) := by
    rw [and255 _ (by omega), IntKind.wrap_u64]; omega
  have b1 : 0 ≤ bits .and .u64 ((m : Int) / 65536) 65535 ∧ bits .and .u64 ((m : Int) / 65536) 65535 < 65536 := by
    rw [show ((m : Int) / 65536) = ((m / 65536 : Nat) : Int) from by simp, and65535 _ (by omega)]; omega
  have b2 : 0 ≤ bits .and .u64 ((m : Int) / 256) 255 ∧ bits .and .u64 ((m : Int) / 256) 255 < 256 := by
    rw [show ((m : Int) / 256) = ((m / 256 : Nat) : Int) from by simp, and255 _ (by omega)]; omega
  have b3 : 0 ≤ bits .and .u64 (m : Int) 255 ∧ bits .and .u64 (m : Int) 255 < 256 := by
    rw [and255 _ (by omega)]; omega
  obtain ⟨b1, b1'⟩ := b1
  obtain ⟨b2, b2'⟩ := b2
  obtain ⟨b3, b3'⟩ := b3
  have X1 := Lib.hid x1
  have X2 := Lib.hid x2
  have X3 := Lib.hid x3
  have HT := Lib.hid hT
  have HB := Lib.hid hbel
  clear x1 x2 x3 hT hbel w0
  go_enter Try.func3, Try.ntmps3
  go_wp2_with fail
  refine (u64_any _ _ _ _ _ HT.out.a HT.out.size _ m rfl hm (by simp)).mono ?_
  rintro e w1 ⟨rfl, va, hwr, hf, ho⟩
  obtain ⟨hT1, hB1⟩ := HT.out.swap.step hwr hf ho
  have HT1 := Lib.hid hT1.swap
  have HB1 := Lib.hid (HB.out.trans hB1)
  clear hwr hf ho hT1 hB1 HT HB
  rw [List.nil_append] at HT1
  go_wp2_with fail
  refine (u32_any _ _ _ _ _ HT1.out.b HT1.out.size _ (m / 4294967296) (by simp) (by omega) (by simp)).mono ?_
  rintro e w2 ⟨rfl, vb, hwr, hf, ho⟩
  obtain ⟨hT1, hB1⟩ := HT1.out.step hwr hf ho
  have HT2 := Lib.hid hT1
  have HB2 := Lib.hid (HB1.out.trans hB1)
  clear hwr hf ho hT1 hB1 HT1 HB1
  go_wp2_with fail
  refine (u16_any _ _ _ _ _ HT2.out.b HT2.out.size _ _ X1.out (by simp [length_beB])).mono ?_
  rintro e w3 ⟨rfl, vb3, hwr, hf, ho⟩
  obtain ⟨hT1, hB1⟩ := HT2.out.step hwr hf ho
  have HT3 := Lib.hid hT1
  have HB3 := Lib.hid (HB2.out.trans hB1)
  clear hwr hf ho hT1 hB1 HT2 HB2
  go_wp2_with fail
  refine (u8_any _ _ _ _ _ HT3.out.b HT3.out.size _ _ X2.out (by simp [length_beB])).mono ?_
  rintro e w4 ⟨rfl, vb4, hwr, hf, ho⟩
  obtain ⟨hT1, hB1⟩ := HT3.out.step hwr hf ho
  have HT4 := Lib.hid hT1
  have HB4 := Lib.hid (HB3.out.trans hB1)
  clear hwr hf ho hT1 hB1 HT3 HB3
  go_wp2_with fail
  refine (u8_any _ _ _ _ _ HT4.out.b HT4.out.size _ _ X3.out (by simp [length_beB])).mono ?_
  rintro e w5 ⟨rfl, vb5, hwr, hf, ho⟩
  obtain ⟨hT1, hB1⟩ := HT4.out.step hwr hf ho
  rw [List.nil_append, halves_plain] at hT1
  have HT5 := Lib.hid hT1
  have HB5 := Lib.hid (HB4.out.trans hB1)
  clear hwr hf ho hT1 hB1 HT4 HB4 b1 b1' b2 b2' b3 b3' X1 X2 X3
  have e8 : (((beB m 8).length : Int) == 8) = true := by rw [length_beB]; rfl
  have l8 : (beB m 8).length ≤ 140737488355328 := by rw [length_beB]; omega
  generalize beB m 8 = bs at HT5 e8 l8
  generalize hP : w.heap.size = P at *
  have l5 := HT5.out.size
  go_wp2_with fail
  go_region_with (first
    | (go_at_call 14; refine (awake3_any _).mono ?_; rintro e w9 ⟨rfl, hb9⟩)
    | (go_at_call 13; (with_reducible refine (bytes_any w5.drew P P va bs HT5.out.a.drew l8).mono ?_); rintro e w6 ⟨A6, c6, rfl, hown6, hb6⟩; have q6 := run_str_later hown6; have r6 := Below.refl w6.heap.size w6; have HT6 := Lib.hid (HT5.out.below ((Below.refl _ w5).drew.trans hb6)))
    | (go_at_call 13; (with_reducible refine (bytes_any w6 P (P + 1) vb5 bs HT6.out.b l8).mono ?_); rintro e w7 ⟨A7, c7, rfl, hown7, hb7⟩; have q7 := run_str_later hown7; have r7 := Below.refl w7.heap.size w7; have HT7 := Lib.hid (HT6.out.below hb7))
    | (go_at_call 13; (with_reducible refine (bytes_any w7 P P va bs HT7.out.a l8).mono ?_); rintro e w8 ⟨A8, c8, rfl, hown8, hb8⟩))
  all_goals
    clear q6 q7 r6 r7 HT6 HT7 HT5 hown6 hown7 hown8
    go_wp2
    go_ret
    refine ⟨rfl, ?_⟩
    rw [hP]
    exact HB5.out.trans (((((Below.refl P _).drew.trans (hb6.mono l5)).trans (hb7.mono (by have := hb6.size; simp at this; omega))).trans (hb8.mono (by have := hb6.size; have := hb7.size; simp at *; omega))).trans (hb9.mono (by have := hb6.size; have := hb7.size; have := hb8.size; simp at *; omega)))
end Go.Proofs.Ythnebanlpmehjaa
