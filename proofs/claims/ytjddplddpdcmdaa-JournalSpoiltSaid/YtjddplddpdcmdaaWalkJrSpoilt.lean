/- The walk of JournalSpoilt. -/
import Derived.Test.YtjddplddpdcmdaaJrSpoilP
namespace Go.Proofs.Ytjddplddpdcmdaa
open Go.RowKit
set_option linter.unusedVariables false
set_option linter.unusedSimpArgs false

theorem conv_mod64 (a : Int) : ∃ k : Nat, wrap64 ((IntKind.u64.wrap a).tmod 64) = k ∧ k < 64 := by
  have hu : 0 ≤ IntKind.u64.wrap a := by rw [IntKind.wrap_u64]; omega
  have ht : (IntKind.u64.wrap a).tmod 64 = (IntKind.u64.wrap a) % 64 := Int.tmod_eq_emod_of_nonneg hu
  have h2 := Int.emod_nonneg (IntKind.u64.wrap a) (show (64 : Int) ≠ 0 by omega)
  have h3 := Int.emod_lt_of_pos (IntKind.u64.wrap a) (show (0 : Int) < 64 by omega)
  rw [ht]
  generalize (IntKind.u64.wrap a) % 64 = x at h2 h3
  refine ⟨x.toNat, ?_, by omega⟩
  unfold wrap64
  omega
theorem byte_of {a : Int} (wa : (Lit.int .u8 a).wf = true) : ∃ b : UInt8, a = (b.toNat : Int) := by
  have h : 0 ≤ a ∧ a < 256 := by
    simp only [Lit.wf, IntKind.min, IntKind.max, IntKind.signed, IntKind.bits, Bool.and_eq_true] at wa
    simp at wa
    omega
  refine ⟨UInt8.ofNat a.toNat, ?_⟩
  rw [UInt8.toNat_ofNat']
  omega
theorem xor_byte (a b : UInt8) : bits .xor .u8 (a.toNat : Int) (b.toNat : Int) = ((a ^^^ b).toNat : Int) := by
  have h1 := a.toNat_lt
  have h2 := b.toNat_lt
  have hx : a.toNat ^^^ b.toNat < 256 := Nat.xor_lt_two_pow (n := 8) h1 h2
  show IntKind.u8.wrap ((BitVec.ofInt 8 (a.toNat : Int) ^^^ BitVec.ofInt 8 (b.toNat : Int)).toNat : Nat) = _
  rw [BitVec.toNat_xor, BitVec.toNat_ofInt, BitVec.toNat_ofInt, IntKind.wrap_u8, UInt8.toNat_xor]
  have e1 : ((a.toNat : Int) % ((2 ^ 8 : Nat) : Int)).toNat = a.toNat := by omega
  have e2 : ((b.toNat : Int) % ((2 ^ 8 : Nat) : Int)).toNat = b.toNat := by omega
  rw [e1, e2]
  omega
set_option maxHeartbeats 12800000 in
set_option maxRecDepth 100000 in
theorem journalSpoilt_walk (v0 : Value) (a0 : List UInt8) (v1 : Value) (a1 : List UInt8) (a2 : Int) (a3 : Int) (w : World) (o0 : Reads w w.heap.size v0 (bytesV a0) ∧ a0.length ≤ 140737488351232) (o1 : Reads w w.heap.size v1 (bytesV a1) ∧ a1.length ≤ 140737488351232) (w2 : (Lit.int .i64 a2).wf = true) (w3 : (Lit.int .u8 a3).wf = true) :
    Calls Try.prog 4 #[v0, v1, .int .i64 a2, .int .u8 a3] w fun en w' => en = .returned (.bool true) ∧ Below w.heap.size w w' := by
  obtain ⟨A0, c0, rfl, _, _⟩ := o0.1.form
  obtain ⟨A1, c1, rfl, _, _⟩ := o1.1.form
  obtain ⟨x, rfl⟩ := byte_of w3
  obtain ⟨m, hm, hm64⟩ := conv_mod64 a2
  have hl0 := o0.2
  have hl1 := o1.2
  obtain ⟨n0, hn0⟩ : ∃ n, a0.length = n := ⟨_, rfl⟩
  obtain ⟨n1, hn1⟩ : ∃ n, a1.length = n := ⟨_, rfl⟩
  rw [length_bytesV, hn0] at o0
  rw [length_bytesV, hn1] at o1
  simp only [length_bytesV, hn0, hn1]
  rw [hn0] at hl0
  rw [hn1] at hl1
  have R0 := Lib.hid o0.1
  have R1 := Lib.hid o1.1
  have HM := Lib.hid hm
  have HM64 := Lib.hid hm64
  have N0 := Lib.hid hn0
  have N1 := Lib.hid hn1
  clear o0 o1 w2 w3 hn0 hn1 hm hm64
  by_cases h1 : 200 < n0
  · have t1 : decide ((200 : Int) < (n0 : Int)) = true := by simp; omega
    have t1n : decide (200 < n0) = true := by simp; omega
    clear h1
    go_enter Try.func4, Try.ntmps4
    go_wp2_with fail
    refine (awake6_any _).mono ?_
    rintro en w9 ⟨rfl, hb⟩
    have HB9 := Lib.hid hb
    clear hb
    go_wp2
    go_ret
    exact ⟨rfl, HB9.out⟩
  have t1 : decide ((200 : Int) < (n0 : Int)) = false := by simp; omega
  have t1n : decide (200 < n0) = false := by simp; omega
  by_cases h2 : 200 < n1
  · have t2 : decide ((200 : Int) < (n1 : Int)) = true := by simp; omega
    have t2n : decide (200 < n1) = true := by simp; omega
    clear h1 h2
    go_enter Try.func4, Try.ntmps4
    go_wp2_with fail
    refine (awake6_any _).mono ?_
    rintro en w9 ⟨rfl, hb⟩
    have HB9 := Lib.hid hb
    clear hb
    go_wp2
    go_ret
    exact ⟨rfl, HB9.out⟩
  have t2 : decide ((200 : Int) < (n1 : Int)) = false := by simp; omega
  have t2n : decide (200 < n1) = false := by simp; omega
  by_cases h3 : x = 0
  · subst h3
    clear h1 h2
    go_enter Try.func4, Try.ntmps4
    go_wp2_with fail
    refine (awake6_any _).mono ?_
    rintro en w9 ⟨rfl, hb⟩
    have HB9 := Lib.hid hb
    clear hb
    go_wp2
    go_ret
    exact ⟨rfl, HB9.out⟩
  have t3 : ((x.toNat : Int) == 0) = false := by
    rw [beq_eq_false_iff_ne]
    intro h
    exact h3 (UInt8.toNat_inj.1 (by show x.toNat = 0; omega))
  obtain ⟨s1, j1, s2, j2, s3, j3, hop, hc2, hc3, ho1, ho2, ho3, hrd, hsp⟩ := spoilt_law a0 a1 (by rw [N0.out]; omega) (by rw [N1.out]; omega)
  obtain ⟨s4, s5, hw4, ho4, hop5⟩ := hsp m x HM64.out h3
  have OP1 := Lib.hid hop
  have C2 := Lib.hid hc2
  have C3 := Lib.hid hc3
  have O1 := Lib.hid ho1
  have O2 := Lib.hid ho2
  have O3 := Lib.hid ho3
  have O4 := Lib.hid ho4
  have RD := Lib.hid hrd
  have W4 := Lib.hid hw4
  obtain ⟨j5, hj5, hl5, hg5⟩ : ∃ j5, openJ s4 = (s5, 0, j5) ∧ lastJ j5 = a0 ∧ j5.gen = 1 := ⟨_, hop5, rfl, rfl⟩
  have OP5 := Lib.hid hj5
  have L5 := Lib.hid hl5
  have G5 := Lib.hid hg5
  have tyy : (a0 == a0) = true := by simp
  have hz := getD_setB (headB 2 a1) m (by rw [headB_len]; exact HM64.out) x h3
  clear h1 h2 h3 hop hc2 hc3 ho1 ho2 ho3 hrd hsp hw4 ho4 hop5 hz hj5 hl5 hg5
  go_enter Try.func4, Try.ntmps4
  go_wp2_with fail
  refine (dm_new (DM.start w) 16 16 (by decide)).mono ?_
  rintro en w1 ⟨d, rfl, h⟩
  have D1 := Lib.hid h
  clear h
  go_wp2_with fail
  refine (jopen_any D1.out (by decide)).mono ?_
  rw [OP1.out]
  rintro en w2 h
  rcases h with ⟨h, _⟩ | ⟨_, q, rs1, rfl, _, hj⟩
  · exact absurd rfl h
  have J1 := Lib.hid hj
  clear hj D1 OP1
  dsimp only
  go_wp2_with fail
  refine (jcommit_any J1.out O1.out _ a0 (.inl R0.out) (by rw [N0.out]; omega)).mono ?_
  rw [C2.out]
  rintro en w3 ⟨rfl, rs2, _, hj⟩
  have J2 := Lib.hid hj
  clear hj J1 C2
  dsimp only
  go_wp2_with fail
  refine (jcommit_any J2.out O2.out _ a1 (.inl R1.out) (by rw [N1.out]; omega)).mono ?_
  rw [C3.out]
  rintro en w4 ⟨rfl, rs3, _, hj⟩
  have D3 := Lib.hid hj.dm
  clear hj J2 C3
  dsimp only
  go_wp2_with fail
  refine (dm_read D3.out 8 _ RD.out).mono ?_
  rintro en w5 ⟨g, rfl, hxl, h⟩
  have hblk := h.blk (.head _)
  simp only at hblk
  have HBL := Lib.hid hblk
  have D4 := Lib.hid h
  have c0 : ∃ y : UInt8, w5.cell? ⟨g, m, none⟩ = some (.int .u8 (y.toNat : Int)) ∧ (headB 2 a1).getD m 0 = y := by
    obtain ⟨y, hy⟩ : ∃ y, (headB 2 a1)[m]? = some y := ⟨(headB 2 a1)[m]'(by rw [hxl]; exact HM64.out), List.getElem?_eq_getElem _⟩
    refine ⟨y, ?_, by rw [List.getD_eq_getElem?_getD, hy]; rfl⟩
    rw [hblk.cell]
    simp [bytesV, hy]
  obtain ⟨y, c0, hy⟩ := c0
  have HY := Lib.hid hy
  have f0 := hblk.free m
  obtain ⟨z, hz⟩ : ∃ z, y ^^^ x = z := ⟨_, rfl⟩
  have hxr := xor_byte y x
  rw [hz] at hxr
  have HZ := Lib.hid hz
  have em := HM.out
  have i0 : (0 : Int) ≤ (m : Int) := by omega
  have i1 : (m : Int) < 64 := by have := HM64.out; omega
  clear h hblk hxl hy D3 HM hz
  dsimp only
  go_upto_region 11 with fail
  have hk5 := HBL.out.put m (.int .u8 (z.toNat : Int))
  rw [bytesV_set] at hk5
  have ho5 : Off (fun i => i = g) w5 (w5.setCell ⟨g, m, none⟩ (.int .u8 (z.toNat : Int))) := Off.setCell (S := fun i => i = g) (Off.refl _ _) (p := ⟨g, m, none⟩) (.inl rfl) _
  have hd5 := D4.out.turn ho5 hk5
  have W5 : Hid (s3.write 8 ((headB 2 a1).set m z) = (s4, 0)) := Lib.hid (by rw [← HZ.out, ← HY.out]; exact W4.out)
  have D5 := Lib.hid hd5
  clear hd5 ho5 hk5 c0 f0 hxr em D4 HBL W4 HY HZ
  generalize (w5.setCell ⟨g, m, none⟩ (.int .u8 (z.toNat : Int))) = w6 at D5 ⊢
  generalize hhh : (headB 2 a1).set m z = hh at D5 W5
  have HHL : Hid (hh.length = 64) := Lib.hid (by rw [← hhh, List.length_set, headB_len])
  clear hhh
  go_wp2_with fail
  refine (dm_write D5.out (by have := O3.out; omega) 8 _ hh (.inr (.inl ⟨g, _, 64, rfl, HHL.out, by omega, .head _⟩))).mono ?_
  rw [W5.out]
  rintro en w7 ⟨rfl, h⟩
  have D6 := Lib.hid h
  clear h D5 W5
  dsimp only
  go_wp2_with fail
  refine (jopen_any D6.out (by have := O4.out; omega)).mono ?_
  rw [OP5.out]
  rintro en w8 h
  rcases h with ⟨h, _⟩ | ⟨_, q5, rs5, rfl, _, hj⟩
  · exact absurd rfl h
  have J5 := Lib.hid hj
  have hl := jlast_any hj
  rw [G5.out, L5.out, show decide ((1 : Nat) ≠ 0) = true from rfl] at hl
  have HL := Lib.hid hl
  clear hj D6 OP5 hl
  dsimp only
  go_wp2_with fail
  refine HL.out.mono ?_
  rintro en w9 ⟨A7, n7, c7, rfl, hb7, hr7⟩
  have J7 := Lib.hid (J5.out.below hb7)
  have s7 := run_strJ hr7.reads
  have s8 := run_strJ (R0.out.below J7.out.bel)
  clear hb7 hr7 J5 HL
  dsimp only
  go_wp2_with fail
  refine (jgen_any J7.out).mono ?_
  rw [G5.out]
  rintro en w10 ⟨rfl, rfl⟩
  go_wp2_with fail
  refine (awake6_any _).mono ?_
  rintro en w11 ⟨rfl, hb⟩
  have J9 := Lib.hid (J7.out.below hb)
  clear hb
  go_wp2
  go_ret
  exact ⟨rfl, J9.out.bel⟩
end Go.Proofs.Ytjddplddpdcmdaa
