/- The walk of SectorPlays. -/
import Derived.Test.YtcgmgogkfhlgpaaSecSame
namespace Go.Proofs.Ytcgmgogkfhlgpaa
open Go.RowKit
set_option linter.unusedVariables false
set_option linter.unusedSimpArgs false

theorem conv_mod12 (a : Int) : ∃ k : Nat, wrap64 ((IntKind.u64.wrap a).tmod 12) = k ∧ k < 12 := by
  have hu : 0 ≤ IntKind.u64.wrap a := by rw [IntKind.wrap_u64]; omega
  have ht : (IntKind.u64.wrap a).tmod 12 = (IntKind.u64.wrap a) % 12 := Int.tmod_eq_emod_of_nonneg hu
  have h2 := Int.emod_nonneg (IntKind.u64.wrap a) (show (12 : Int) ≠ 0 by omega)
  have h3 := Int.emod_lt_of_pos (IntKind.u64.wrap a) (show (0 : Int) < 12 by omega)
  rw [ht]
  generalize (IntKind.u64.wrap a) % 12 = x at h2 h3
  refine ⟨x.toNat, ?_, by omega⟩
  unfold wrap64
  omega
set_option maxHeartbeats 12800000 in
set_option maxRecDepth 100000 in
theorem sectorPlays_walk (a0 : Int) (v1 : Value) (l : List CallV) (a2 : Int) (w : World) (w0 : (Lit.int .i64 a0).wf = true) (o1 : CallsOf w v1 l) (w2 : (Lit.int .i64 a2).wf = true) :
    Calls Try.prog 8 #[.int .i64 a0, v1, .int .i64 a2] w fun en w' => en = .returned (.bool true) ∧ Below w.heap.size w w' := by
  obtain ⟨A0, c0, rfl⟩ := o1.form
  have hlen := o1.len
  have HL := Lib.hid o1
  clear o1 w0 w2
  go_enter Try.func8, Try.ntmps8
  go_upto_region 2 with fail
  obtain ⟨n, hn, hn12⟩ := conv_mod12 a0
  rw [hn]
  clear hn
  have HM : Hid (max 0 (min (n : Int) 4096) = (n : Int)) := Lib.hid (by omega)
  have HA0 := Lib.hid (Alike.new (m := n) (by omega))
  have HO0 : Hid ((Dk.new n).ops ≤ ((0 : Nat) : Int)) := Lib.hid (by simp [Dk.new])
  go_wp2_with fail
  refine (dm_new (DM.start w) n n HM.out).mono ?_
  rintro en w1 ⟨d, rfl, h⟩
  have D1 := Lib.hid h
  clear h
  go_wp2_with fail
  refine (rnew_any D1.out n n HM.out).mono ?_
  rintro en w2 ⟨p, rfl, h⟩
  have D2 := Lib.hid h
  clear h D1
  generalize Dk.new n = s0 at HA0 HO0 D2
  generalize Rk.new n = r0 at HA0 D2
  go_wp2
  go_loopw [28, 7] (fun i dv wr => ∃ (k d : Nat) (s : Dk) (r : Rk), k ≤ l.length ∧ k ≤ 60 ∧ i = .int .i64 k ∧ dv = .pointer (some ⟨d, 0, none⟩) ∧ Hid (Alike s r) ∧ Hid (s.ops ≤ (k : Int)) ∧ Hid (RM w wr [(d, s)] p r [] [])) (fun i _ _ => l.length - (intOf i).toNat)
  case atStart => exact ⟨0, d, s0, r0, by omega, by omega, rfl, rfl, HA0, HO0, D2⟩
  case round =>
    obtain ⟨k, d, s, r, hk, hk6, rfl, rfl, HAL, HOPS, hrm⟩ := hrel
    clear D2 HA0 HO0
    by_cases hlt : k < l.length
    · obtain ⟨g, o, c, e, e1, hlk, hok, hg, q0, q1, q2, q3, q4⟩ := HL.out.at_ hlt
      injection e1 with e1 _ e3
      subst e1 e3
      have hbel := hrm.out.bel
      have r0 := (hbel.cell (p := ⟨g, o + k * 5, none⟩) hg).trans q0
      have r1 := (hbel.cell (p := ⟨g, o + k * 5 + 1, none⟩) hg).trans q1
      have r2 := (hbel.cell (p := ⟨g, o + k * 5 + 2, none⟩) hg).trans q2
      have r3 := (hbel.cell (p := ⟨g, o + k * 5 + 3, none⟩) hg).trans q3
      have r4 := (hbel.cell (p := ⟨g, o + k * 5 + 4, none⟩) hg).trans q4
      obtain ⟨dd, ii, bv, raw, x, odd⟩ := e
      have hraw := hok.2.2.1
      simp only at r0 r1 r2 r3 r4 hraw
      obtain ⟨Ab, cb, rfl, _, _⟩ := hraw.form
      rw [length_bytesV] at r2 hok
      have HOK := Lib.hid hok
      have D2 := Lib.hid (hrm.out.more (g := wr.heap.size) (t := 39) (cs := [.int .i64 dd, .int .i64 ii, .slice Ab raw.length cb, .int .u8 (x.toNat : Int), .bool odd]) ((Below.refl _ wr).alloc (Nat.le_refl _) (.cells #[.int .i64 dd, .int .i64 ii, .slice Ab raw.length cb, .int .u8 (x.toNat : Int), .bool odd] 39)) (Nat.le_refl _) (Blk.fresh wr _ _))
      have i0 : (0 : Int) ≤ (k : Int) := by omega
      have i1 : (k : Int) < (l.length : Int) := by omega
      clear hbel q0 q1 q2 q3 q4 hlk hraw hrm hok
      by_cases h60 : 60 ≤ k
      · have t60 : decide ((60 : Int) ≤ (k : Int)) = true := by simp; omega
        have DD := D2
        clear D2
        obtain ⟨⟨x9, e9⟩, hx9⟩ : ∃ q, s.read a2 = q := ⟨_, rfl⟩
        have HR1 := Lib.hid hx9
        have HR2 : Hid (r.read a2 = (x9, e9)) := Lib.hid (by rw [← HAL.out.read]; exact hx9)
        clear hx9
        go_wp2_with fail
        refine (rm_read DD.out a2 e9 x9 HR1.out).mono ?_
        rintro en w6 ⟨A6, n6, c6, rfl, h⟩
        have H6 := Lib.hid h
        clear h DD
        dsimp only
        go_wp2_with fail
        refine (rm_rread H6.out a2 e9 x9 HR2.out).mono ?_
        rintro en w7 ⟨A7, n7, c7, rfl, h⟩
        have H7 := Lib.hid h
        have s6 := run_str (h.reads1 (.tail _ (.head _)))
        have s7 := run_str (h.reads1 (.head _))
        have tyy : (x9 == x9) = true := by simp
        have tyn : (x9 != x9) = false := by simp
        have ten : (e9 == e9) = true := by simp
        clear h H6
        dsimp only
        go_wp2_with fail
        refine (awake5_any _).mono ?_
        rintro en w8 ⟨rfl, hb⟩
        have D8 := Lib.hid (H7.out.below hb)
        clear hb
        go_wp2
        go_ret
        exact ⟨rfl, D8.out.bel⟩
      · have t60 : decide ((60 : Int) ≤ (k : Int)) = false := by simp; omega
        by_cases h4 : dd = 4
        · subst h4
          go_wp2_with fail
          refine (rm_copy D2.out (by have := HOPS.out; omega)).mono ?_
          rintro en w3 ⟨q, rfl, h⟩
          have D3 := Lib.hid (h.perm (.swap _ _ _))
          clear h D2
          go_wp2_with fail
          refine (rm_full D3.out 9 9 rfl).mono ?_
          rintro en w4 ⟨g4, rfl, h⟩
          have D4 := Lib.hid h
          clear h D3
          go_wp2_with fail
          refine (rm_write D4.out (by have := HOPS.out; omega) 0 _ (List.replicate 64 9) (.inr (.inl ⟨g4, _, 64, rfl, by simp, by omega, .head _⟩))).mono ?_
          generalize s.write 0 (List.replicate 64 9) = sw
          rintro en w5 ⟨rfl, h⟩
          have hkq := h.blk (.tail _ (.head _))
          have m0 := hkq.cell 0
          have m1 := hkq.cell 1
          have m2 := hkq.cell 2
          have m3 := hkq.cell 3
          have m4 := hkq.cell 4
          have hql := hkq.lt
          simp only [List.getElem?_cons_zero, List.getElem?_cons_succ] at m0 m1 m2 m3 m4 hql
          have DS := Lib.hid h.drop.dropB.dropB
          clear h D4 hkq
          go_wp2_with fail
          have hdo := do_any DS.out HAL.out (by have := HOPS.out; omega) ⟨4, ii, .slice Ab raw.length cb, raw, x, odd⟩ HOK.out
          simp only [CallV.cells] at hdo
          refine hdo.mono ?_
          clear hdo
          rintro en w9 ⟨s', r', rfl, ha', ho', h⟩
          have HA9 := Lib.hid ha'
          have HO9 : Hid (s'.ops ≤ ((k + 1 : Nat) : Int)) := Lib.hid (by have := HOPS.out; omega)
          have D9 := Lib.hid h
          clear ha' ho' h DS
          go_wp2_with fail
          refine (same_any D9.out HA9.out).mono ?_
          rintro en w10 ⟨rfl, h⟩
          have D10 := Lib.hid h
          clear h D9
          go_wp2
          go_roundw
          case rel => exact ⟨k + 1, q, s', r', by omega, by omega, by go_num, rfl, HA9, HO9, D10⟩
          case measure => simp [intOf]; omega
        · have t4 : (dd == 4) = false := beq_eq_false_iff_ne.2 h4
          have DS := Lib.hid D2.out.dropB
          clear D2
          go_wp2_with fail
          have hdo := do_any DS.out HAL.out (by have := HOPS.out; omega) ⟨dd, ii, .slice Ab raw.length cb, raw, x, odd⟩ HOK.out
          simp only [CallV.cells] at hdo
          refine hdo.mono ?_
          clear hdo
          rintro en w9 ⟨s', r', rfl, ha', ho', h⟩
          have HA9 := Lib.hid ha'
          have HO9 : Hid (s'.ops ≤ ((k + 1 : Nat) : Int)) := Lib.hid (by have := HOPS.out; omega)
          have D9 := Lib.hid h
          clear ha' ho' h DS
          go_wp2_with fail
          refine (same_any D9.out HA9.out).mono ?_
          rintro en w10 ⟨rfl, h⟩
          have D10 := Lib.hid h
          clear h D9
          go_wp2
          go_roundw
          case rel => exact ⟨k + 1, d, s', r', by omega, by omega, by go_num, rfl, HA9, HO9, D10⟩
          case measure => simp [intOf]; omega
    · have DD := hrm
      clear hrm
      obtain ⟨⟨x9, e9⟩, hx9⟩ : ∃ q, s.read a2 = q := ⟨_, rfl⟩
      have HR1 := Lib.hid hx9
      have HR2 : Hid (r.read a2 = (x9, e9)) := Lib.hid (by rw [← HAL.out.read]; exact hx9)
      clear hx9
      go_wp2_with fail
      refine (rm_read DD.out a2 e9 x9 HR1.out).mono ?_
      rintro en w6 ⟨A6, n6, c6, rfl, h⟩
      have H6 := Lib.hid h
      clear h DD
      dsimp only
      go_wp2_with fail
      refine (rm_rread H6.out a2 e9 x9 HR2.out).mono ?_
      rintro en w7 ⟨A7, n7, c7, rfl, h⟩
      have H7 := Lib.hid h
      have s6 := run_str (h.reads1 (.tail _ (.head _)))
      have s7 := run_str (h.reads1 (.head _))
      have tyy : (x9 == x9) = true := by simp
      have tyn : (x9 != x9) = false := by simp
      have ten : (e9 == e9) = true := by simp
      clear h H6
      dsimp only
      go_wp2_with fail
      refine (awake5_any _).mono ?_
      rintro en w8 ⟨rfl, hb⟩
      have D8 := Lib.hid (H7.out.below hb)
      clear hb
      go_wp2
      go_ret
      exact ⟨rfl, D8.out.bel⟩
end Go.Proofs.Ytcgmgogkfhlgpaa
