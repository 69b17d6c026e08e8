/- The walk of JournalDown. -/
import Derived.Test.YtjddplddpdcmdaaWalkJrCounts
import Derived.Test.YtjddplddpdcmdaaJrLaw4P
namespace Go.Proofs.Ytjddplddpdcmdaa
open Go.RowKit
set_option linter.unusedVariables false
set_option linter.unusedSimpArgs false

theorem conv_mod8 (a : Int) : ∃ k : Nat, wrap64 (1 + wrap64 ((IntKind.u64.wrap a).tmod 8)) = k ∧ 1 ≤ k ∧ k ≤ 8 := by
  have hu : 0 ≤ IntKind.u64.wrap a := by rw [IntKind.wrap_u64]; omega
  have ht : (IntKind.u64.wrap a).tmod 8 = (IntKind.u64.wrap a) % 8 := Int.tmod_eq_emod_of_nonneg hu
  have h2 := Int.emod_nonneg (IntKind.u64.wrap a) (show (8 : Int) ≠ 0 by omega)
  have h3 := Int.emod_lt_of_pos (IntKind.u64.wrap a) (show (0 : Int) < 8 by omega)
  rw [ht]
  generalize (IntKind.u64.wrap a) % 8 = x at h2 h3
  refine ⟨(1 + x).toNat, ?_, by omega, by omega⟩
  unfold wrap64
  omega
section
variable {w0 w W W' : World} {ds ds' : List (Nat × Dk)} {bs bs' : List (Nat × TypeId × List Value)} {rs rs' rs0 : List (Nat × Value × List Value)} {d q q2 g k n sz : Nat} {s s' : Dk} {j j' j2 : Jr} {v u lv : Value} {t : TypeId} {cs xs : List Value}
theorem jd_fuse (h : JD w0 W ds d s q j bs rs) (ho : s.ops < 1000000000) (n : Int) (hn : -9223372036854775808 ≤ n ∧ n ≤ 9223372036854775807) :
    Calls Try.prog 21 #[.pointer (some ⟨d, 0, none⟩), .int .i64 n] W fun en W' => en = .returned (.tuple #[]) ∧ JD w0 W' ds d (s.fused n) q j bs rs := by
  obtain ⟨lv, h1, h2, h3⟩ := h
  exact (dm_fuse h1 (by omega) n hn).mono fun en W' ⟨he, h⟩ => ⟨he, lv, h, h2, h3⟩
end
set_option maxHeartbeats 12800000 in
set_option maxRecDepth 100000 in
theorem journalDown_walk (a0 : Int) (v1 : Value) (a1 : List UInt8) (v2 : Value) (a2 : List UInt8) (w : World) (w0 : (Lit.int .i64 a0).wf = true) (o1 : Reads w w.heap.size v1 (bytesV a1) ∧ a1.length ≤ 140737488351232) (o2 : Reads w w.heap.size v2 (bytesV a2) ∧ a2.length ≤ 140737488351232) :
    Calls Try.prog 8 #[.int .i64 a0, v1, v2] w fun en w' => en = .returned (.bool true) ∧ Below w.heap.size w w' := by
  obtain ⟨A1, c1, rfl, _, _⟩ := o1.1.form
  obtain ⟨A2, c2, rfl, _, _⟩ := o2.1.form
  have hl1 := o1.2
  have hl2 := o2.2
  obtain ⟨n1, hn1⟩ : ∃ n, a1.length = n := ⟨_, rfl⟩
  obtain ⟨n2, hn2⟩ : ∃ n, a2.length = n := ⟨_, rfl⟩
  rw [length_bytesV, hn1] at o1
  rw [length_bytesV, hn2] at o2
  simp only [length_bytesV, hn1, hn2]
  rw [hn1] at hl1
  rw [hn2] at hl2
  have R1 := Lib.hid o1.1
  have R2 := Lib.hid o2.1
  have N1 := Lib.hid hn1
  have N2 := Lib.hid hn2
  clear o1 o2 w0 hn1 hn2
  by_cases h1 : 200 < n1
  · have t1 : decide ((200 : Int) < (n1 : Int)) = true := by simp; omega
    have t1n : decide (200 < n1) = true := by simp; omega
    clear h1
    go_enter Try.func8, Try.ntmps8
    go_wp2_with fail
    refine (awake6_any _).mono ?_
    rintro en w9 ⟨rfl, hb⟩
    have HB9 := Lib.hid ( hb)
    clear hb
    go_wp2
    go_ret
    exact ⟨rfl, HB9.out⟩
  · have t1 : decide ((200 : Int) < (n1 : Int)) = false := by simp; omega
    have t1n : decide (200 < n1) = false := by simp; omega
    by_cases h2 : 200 < n2
    · have t2 : decide ((200 : Int) < (n2 : Int)) = true := by simp; omega
      have t2n : decide (200 < n2) = true := by simp; omega
      clear h1 h2
      go_enter Try.func8, Try.ntmps8
      go_wp2_with fail
      refine (awake6_any _).mono ?_
      rintro en w9 ⟨rfl, hb⟩
      have HB9 := Lib.hid ( hb)
      clear hb
      go_wp2
      go_ret
      exact ⟨rfl, HB9.out⟩
    · have t2 : decide ((200 : Int) < (n2 : Int)) = false := by simp; omega
      have t2n : decide (200 < n2) = false := by simp; omega
      obtain ⟨s1, j1, hop, hjs, hup, hg0, hhf, hops, hsl1⟩ := open_new 16 (by decide) (by decide)
      have hroom : ∀ {j : Jr}, j.half = 8 → roomJ j = 448 := fun h => by unfold roomJ; rw [h]
      -- the first commit
      obtain ⟨j2, s2, e2, hc2, hends2, hcu2, _, hco2⟩ := commit_law hjs (b := a1) (by rw [hroom (by omega), N1.out]; omega) (by omega)
      obtain ⟨rfl, hu2⟩ := hcu2 hup
      rcases hends2 with ⟨_, hj2, hjs2⟩ | ⟨h9, _⟩
      case inr => exact absurd h9 (by decide)
      have hg2 : j2.gen = 1 := by rw [hj2]; simp only; omega
      have hh2 : j2.half = 8 := by rw [hj2]; exact hhf
      have hl2' : lastJ j2 = a1 := by rw [hj2]; unfold lastJ; simp only; rw [if_neg (by omega)]
      have OP1 := Lib.hid hop
      have C2 := Lib.hid hc2
      have OPS1 : Hid (s1.ops < 900000000) := Lib.hid (by omega)
      have OPS2 : Hid (s2.ops ≤ 3001) := Lib.hid (by omega)
      have B1 : Hid (a1.length ≤ 140737488355328) := Lib.hid (by rw [N1.out]; omega)
      have B2 : Hid (a2.length ≤ 140737488355328) := Lib.hid (by rw [N2.out]; omega)
      obtain ⟨m, hm, hm1, hm8⟩ := conv_mod8 a0
      have HM := Lib.hid hm
      have MB : Hid (-9223372036854775808 ≤ (m : Int) ∧ (m : Int) ≤ 9223372036854775807) := Lib.hid (by omega)
      -- the second one, with the fuse
      obtain ⟨j3, s4, e4, hc4, hends4, _, _, hco4⟩ := commit_law (hjs2.fused (m : Int)) (b := a2) (by rw [hroom hh2, N2.out]; omega) (by omega)
      have C4 := Lib.hid hc4
      have OPS3 : Hid ((s2.fused (m : Int)).ops ≤ 3001) := Lib.hid (by show s2.ops ≤ _; exact OPS2.out)
      have OPS4 : Hid (s4.ops ≤ 6001) := Lib.hid (by have := OPS3.out; omega)
      have U5 := Lib.hid (up_fused s4)
      have OPS5 : Hid ((s4.fused 0).ops ≤ 6001) := Lib.hid (by show s4.ops ≤ _; exact OPS4.out)
      have JS2 := Lib.hid hjs2
      have L2 := Lib.hid hl2'
      have G2 := Lib.hid hg2
      have H2 := Lib.hid hh2
      have N1B : Hid (n1 ≤ 200) := Lib.hid (by omega)
      have N2B : Hid (n2 ≤ 200) := Lib.hid (by omega)
      have J1N : Hid (∀ s, JS j3 s none → s.up → lastJ j3 = lastJ j3) := Lib.hid (fun _ _ _ => rfl)
      have E4 := Lib.hid hends4
      clear J1N hop hc2 hjs hup hg0 hhf hops hsl1 hco2 hu2 hj2 hjs2 hg2 hh2 hl2' hm hm1 hm8 hc4 hends4 hco4 hcu2
      go_enter Try.func8, Try.ntmps8
      go_upto_region 4 with fail
      rw [HM.out]
      go_wp2_with fail
      refine (dm_new (DM.start w) 16 16 (by decide)).mono ?_
      rintro en w1 ⟨d, rfl, h⟩
      have D1 := Lib.hid h
      clear h
      go_wp2_with fail
      refine (jopen_any D1.out (by decide)).mono ?_
      rw [OP1.out]
      rintro en w2 h
      rcases h with ⟨h, _⟩ | ⟨_, q, rs1, rfl, _, hj⟩
      · exact absurd rfl h
      have J1 := Lib.hid hj
      clear hj D1 OP1
      dsimp only
      go_wp2_with fail
      refine (jcommit_any J1.out OPS1.out _ a1 (.inl R1.out) B1.out).mono ?_
      rw [C2.out]
      rintro en w3 ⟨rfl, rs2, _, hj⟩
      have J2 := Lib.hid hj
      clear hj J1 C2
      go_wp2_with fail
      refine (jd_fuse J2.out (by have := OPS2.out; omega) (m : Int) MB.out).mono ?_
      rintro en w4 ⟨rfl, hj⟩
      have J3 := Lib.hid hj
      clear hj J2
      go_wp2_with fail
      refine (jcommit_any J3.out (by have := OPS3.out; omega) _ a2 (.inl R2.out) B2.out).mono ?_
      rw [C4.out]
      rintro en w5 ⟨rfl, rs4, _, hj⟩
      have J4 := Lib.hid hj
      clear hj J3 C4
      go_wp2_with fail
      refine (jd_fuse J4.out (by have := OPS4.out; omega) 0 (by decide)).mono ?_
      rintro en w6 ⟨rfl, hj⟩
      have J5 := Lib.hid hj
      clear hj J4
      obtain ⟨he4, hj3, hjs4⟩ | ⟨he4, hj3, hjs4⟩ := E4.out
      · subst he4
        have hg3 : j3.gen = 2 := by rw [hj3]; simp only; rw [G2.out]
        have hh3 : j3.half = 8 := by rw [hj3]; exact H2.out
        obtain ⟨j6, s6, e6, hc6, hends6, hcu6, _, hco6⟩ := commit_law (hjs4.fused 0) (b := a2) (by unfold roomJ; rw [hh3, N2.out]; have := N2B.out; omega) (by omega)
        obtain ⟨rfl, hu6⟩ := hcu6 U5.out
        rcases hends6 with ⟨_, hj6, hjs6⟩ | ⟨h9, _⟩
        case inr => exact absurd h9 (by decide)
        have C6 := Lib.hid hc6
        have L6 : Hid (lastJ j6 = a2) := Lib.hid (by rw [hj6]; unfold lastJ; simp only; rw [if_neg (by omega)])
        have G6 : Hid (decide (j6.gen ≠ 0) = true) := Lib.hid (by rw [hj6]; simp)
        clear hg3 hh3 hj3 hjs4 hc6 hcu6 hco6 hu6 hj6 hjs6 E4
        go_wp2_with fail
        refine (jcommit_any J5.out (by have := OPS5.out; omega) _ a2 (.inl R2.out) B2.out).mono ?_
        rw [C6.out]
        rintro en w7 ⟨rfl, rs6, _, hj⟩
        have J6 := Lib.hid hj
        clear hj J5 C6
        go_wp2_with fail
        refine (jlast_any J6.out).mono ?_
        rw [L6.out, G6.out]
        rintro en w8 ⟨A8, n8, c8, rfl, hb8, hr8⟩
        have J8 := Lib.hid (J6.out.below hb8)
        have s8 := run_strJ hr8.reads
        have s2 := run_strJ (R2.out.below J8.out.bel)
        have tyy : (a2 == a2) = true := by simp
        have tyn : (a2 != a2) = false := by simp
        clear hb8 hr8 J6
        dsimp only
        go_wp2_with fail
        refine (awake6_any _).mono ?_
        rintro en w9 ⟨rfl, hb⟩
        have HB9 := Lib.hid (J8.out.below hb).bel
        clear hb
        go_wp2
        go_ret
        exact ⟨rfl, HB9.out⟩
      · subst he4
        have C6 := Lib.hid (commit_no (hjs4.fused 0) a2)
        have L6 : Hid (lastJ j3 = a1) := Lib.hid (by rw [hj3]; have := L2.out; unfold lastJ at this ⊢; exact this)
        have G6 : Hid (decide (j3.gen ≠ 0) = true) := Lib.hid (by rw [hj3]; simp only; rw [G2.out]; rfl)
        obtain ⟨s7, k, ho7, hjs7, hu7, hfd, hops7⟩ := open_any (hjs4.fused 0) U5.out
        have hk8 : k.half = 8 := by rw [hfd.1, hj3]; exact H2.out
        have hkg : k.gen ≤ 2 := by
          have hg3 : j3.gen = 1 := by rw [hj3]; exact G2.out
          rcases hfd.2.2 with ⟨_, h, _⟩ | ⟨_, _, _, h, _⟩ <;> omega
        obtain ⟨j9, s9, e9, hc9, _, hcu9, _, _⟩ := commit_law hjs7 (b := a1) (by unfold roomJ; rw [hk8, N1.out]; have := N1B.out; omega) (by omega)
        obtain ⟨rfl, _⟩ := hcu9 hu7
        have O7 := Lib.hid ho7
        have C9 := Lib.hid hc9
        have OPS7 : Hid (s7.ops < 900000000) := Lib.hid (by have := OPS5.out; omega)
        clear hj3 hjs4 ho7 hjs7 hu7 hfd hops7 hk8 hkg hc9 hcu9 E4
        go_wp2_with fail
        refine (jcommit_any J5.out (by have := OPS5.out; omega) _ a2 (.inl R2.out) B2.out).mono ?_
        rw [C6.out]
        rintro en w7 ⟨rfl, rs6, _, hj⟩
        have J6 := Lib.hid hj
        clear hj J5 C6
        go_wp2_with fail
        refine (jlast_any J6.out).mono ?_
        rw [L6.out, G6.out]
        rintro en w8 ⟨A8, n8, c8, rfl, hb8, hr8⟩
        have J8 := Lib.hid (J6.out.below hb8)
        have s8 := run_strJ hr8.reads
        have s1 := run_strJ (R1.out.below J8.out.bel)
        have tyy : (a1 == a1) = true := by simp
        have tyn : (a1 != a1) = false := by simp
        clear hb8 hr8 J6
        dsimp only
        go_wp2_with fail
        refine (jopen_any J8.out.dm (by have := OPS5.out; omega)).mono ?_
        rw [O7.out]
        rintro en w10 h
        rcases h with ⟨h, _⟩ | ⟨_, q10, rs10, rfl, _, hj⟩
        · exact absurd rfl h
        have J10 := Lib.hid hj
        clear hj O7 s8 s1
        dsimp only
        go_wp2_with fail
        refine (jcommit_any J10.out OPS7.out _ a1 (.inl R1.out) B1.out).mono ?_
        rw [C9.out]
        rintro en w11 ⟨rfl, rs11, _, hj⟩
        have J11 := Lib.hid hj
        clear hj C9 J10
        go_wp2_with fail
        refine (awake6_any _).mono ?_
        rintro en w9 ⟨rfl, hb⟩
        have HB9 := Lib.hid (J11.out.below hb).bel
        clear hb
        go_wp2
        go_ret
        exact ⟨rfl, HB9.out⟩
end Go.Proofs.Ytjddplddpdcmdaa
