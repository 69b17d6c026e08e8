/- The walk of JournalPlays. -/
import Derived.Test.YtjddplddpdcmdaaJrSame
namespace Go.Proofs.Ytjddplddpdcmdaa
open Go.RowKit
set_option linter.unusedVariables false
set_option linter.unusedSimpArgs false

theorem conv_mod20 (a : Int) : ∃ k : Nat, wrap64 ((IntKind.u64.wrap a).tmod 20) = k ∧ k < 20 := by
  have hu : 0 ≤ IntKind.u64.wrap a := by rw [IntKind.wrap_u64]; omega
  have ht : (IntKind.u64.wrap a).tmod 20 = (IntKind.u64.wrap a) % 20 := Int.tmod_eq_emod_of_nonneg hu
  have h2 := Int.emod_nonneg (IntKind.u64.wrap a) (show (20 : Int) ≠ 0 by omega)
  have h3 := Int.emod_lt_of_pos (IntKind.u64.wrap a) (show (0 : Int) < 20 by omega)
  rw [ht]
  generalize (IntKind.u64.wrap a) % 20 = x at h2 h3
  refine ⟨x.toNat, ?_, by omega⟩
  unfold wrap64
  omega
set_option maxHeartbeats 12800000 in
set_option maxRecDepth 100000 in
theorem journalPlays_walk (a0 : Int) (v1 : Value) (l : List Call6) (w : World) (w0 : (Lit.int .i64 a0).wf = true) (o1 : Calls6Of w v1 l) :
    Calls Try.prog 9 #[.int .i64 a0, v1] w fun en w' => en = .returned (.bool true) ∧ Below w.heap.size w w' := by
  obtain ⟨A0, c0, rfl⟩ := o1.form
  have hlen := o1.len
  have HL := Lib.hid o1
  clear o1 w0
  go_enter Try.func9, Try.ntmps9
  go_upto_region 2 with fail
  obtain ⟨n, hn, hn20⟩ := conv_mod20 a0
  rw [hn]
  clear hn
  have HM : Hid (max 0 (min (n : Int) 4096) = (n : Int)) := Lib.hid (by omega)
  have HA0 := Lib.hid (Alike.new (m := n) (by omega))
  have HO0 : Hid ((Dk.new n).ops ≤ 0) := Lib.hid (by simp [Dk.new])
  go_wp2_with fail
  refine (dm_new (DM.start w) n n HM.out).mono ?_
  rintro en w1 ⟨d, rfl, h⟩
  have D1 := Lib.hid h
  clear h
  go_wp2_with fail
  refine (rnew_any D1.out n n HM.out).mono ?_
  rintro en w2 ⟨p, rfl, h⟩
  have D2 := Lib.hid h
  clear h D1
  generalize Dk.new n = s0 at HA0 HO0 D2
  generalize Rk.new n = r0 at HA0 D2
  obtain ⟨⟨s1, e1, j1⟩, hop⟩ : ∃ x, openJ s0 = x := ⟨_, rfl⟩
  have HOP := Lib.hid hop
  have HG1 : Hid j1.G0 := Lib.hid (by have := openJ_g0 s0; rw [hop] at this; exact this)
  have HO1 : Hid (s1.ops ≤ 1) := Lib.hid (by have := openJ_ops s0; rw [hop] at this; have := HO0.out; simp only at *; omega)
  clear hop
  go_wp2_with fail
  refine (rm_open D2.out (by have := HO0.out; omega)).mono ?_
  rw [HOP.out]
  simp only
  rintro en w3 (⟨he, rfl, h⟩ | ⟨he, q, rfl, lv, rs3, _, h, hl3, hj3⟩)
  · have D3 := Lib.hid h
    have HE := Lib.hid he
    clear h he D2
    dsimp only
    go_wp2_with fail
    refine (rm_kopen D3.out HA0.out (by have := HO0.out; omega)).mono ?_
    rw [HOP.out]
    simp only
    rintro en w4 (⟨_, rfl, r4, _, h⟩ | ⟨h, _⟩)
    case inr => exact absurd h HE.out
    have D4 := Lib.hid h
    have te : (e1 != e1) = false := by simp
    clear h D3
    dsimp only
    go_wp2_with fail
    refine (awake6_any _).mono ?_
    rintro en w9 ⟨rfl, hb⟩
    have J9 := Lib.hid (D4.out.below hb)
    clear hb
    go_wp2
    go_ret
    exact ⟨rfl, J9.out.bel⟩
  obtain rfl := he
  have D3 := Lib.hid h
  have HL3 := Lib.hid hl3
  have HJ3 := Lib.hid hj3
  clear h hl3 hj3 D2
  dsimp only
  go_wp2_with fail
  refine (rm_kopen D3.out HA0.out (by have := HO0.out; omega)).mono ?_
  rw [HOP.out]
  simp only
  rintro en w4 (⟨h, _⟩ | ⟨_, k, rfl, r4, hal, rs4, hs4, hk4⟩)
  · exact absurd rfl h
  have B4 := Lib.hid (BJ.of_km hk4 (hs4 _ HL3.out) HJ3.out)
  have A4 := Lib.hid hal
  clear hal hk4 hs4 D3 HL3 HJ3 HOP HA0 HO0
  dsimp only
  go_wp2
  go_loopw [52, 7, 9] (fun i jv kv wr => ∃ (kk q k : Nat) (s : Dk) (r : Rk) (j : Jr) (rs : List (Nat × Value × List Value)), kk ≤ l.length ∧ kk ≤ 30 ∧ i = .int .i64 kk ∧ jv = .pointer (some ⟨q, 0, none⟩) ∧ kv = .pointer (some ⟨k, 0, none⟩) ∧ Hid (Alike s r) ∧ Hid j.G0 ∧ Hid (s.ops ≤ 100 * (kk : Int) + 1) ∧ Hid (BJ w wr d p q k s r j j [] rs)) (fun i _ _ _ => l.length - (intOf i).toNat)
  case atStart => exact ⟨0, q, k, s1, r4, j1, rs4, by omega, by omega, rfl, rfl, rfl, A4, HG1, Lib.hid (by have := HO1.out; omega), B4⟩
  case round =>
    obtain ⟨kk, q, k, s, r, j, rs, hk, hk3, rfl, rfl, rfl, HAL, HG0, HOPS, hbj⟩ := hrel
    clear B4 A4 HG1 HO1
    by_cases hlt : kk < l.length
    · obtain ⟨g, o, c, e, e1, hlk, hok, hg, q0, q1, q2⟩ := HL.out.at_ hlt
      injection e1 with e1 _ e3
      subst e1 e3
      have hbel := hbj.out.bel
      have r0 := (hbel.cell (p := ⟨g, o + kk * 3, none⟩) hg).trans q0
      have r1 := (hbel.cell (p := ⟨g, o + kk * 3 + 1, none⟩) hg).trans q1
      have r2 := (hbel.cell (p := ⟨g, o + kk * 3 + 2, none⟩) hg).trans q2
      have hgr : g < wr.heap.size := by have := hbel.size; omega
      obtain ⟨dd, nn, bv, raw⟩ := e
      obtain ⟨_, hnn, hraw, hrl⟩ := hok
      simp only at r0 r1 r2 hnn hraw hrl
      obtain ⟨Ab, cb, rfl, _, _⟩ := hraw.form
      rw [length_bytesV] at hraw r2
      have HRAW0 := Lib.hid hraw
      have HRAW : Hid (∀ bs rs, ArgM w bs rs (.slice Ab raw.length cb) raw) := Lib.hid (fun _ _ => .inl hraw)
      have D2 := Lib.hid (hbj.out.more (g := wr.heap.size) (t := 48) (cs := [.int .i64 dd, .int .i64 nn, .slice Ab raw.length cb]) ((Below.refl _ wr).alloc (Nat.le_refl _) (.cells #[.int .i64 dd, .int .i64 nn, .slice Ab raw.length cb] 48)) (Nat.le_refl _) (Blk.fresh wr _ _))
      have i0 : (0 : Int) ≤ (kk : Int) := by omega
      have i1 : (kk : Int) < (l.length : Int) := by omega
      have HNN := Lib.hid hnn
      clear hbel q0 q1 q2 hlk hraw hbj hnn
      by_cases h30 : 30 ≤ kk
      · have t30 : decide ((30 : Int) ≤ (kk : Int)) = true := by simp; omega
        have t30n : decide (30 ≤ kk) = true := by simp; omega
        go_wp2_with fail
        refine (awake6_any _).mono ?_
        rintro en w9 ⟨rfl, hb⟩
        have J9 := Lib.hid (D2.out.below hb)
        clear hb
        go_wp2
        go_ret
        exact ⟨rfl, J9.out.bel⟩
      · have t30 : decide ((30 : Int) ≤ (kk : Int)) = false := by simp; omega
        have t30n : decide (30 ≤ kk) = false := by simp; omega
        by_cases h15 : 1500 < raw.length
        · have t6 : decide ((1500 : Int) < (raw.length : Int)) = true := by simp; omega
          have t6n : decide (1500 < raw.length) = true := by simp; omega
          clear h15
          go_wp2_with fail
          refine (awake6_any _).mono ?_
          rintro en w9 ⟨rfl, hb⟩
          have J9 := Lib.hid (D2.out.below hb)
          clear hb
          go_wp2
          go_ret
          exact ⟨rfl, J9.out.bel⟩
        · have t6 : decide ((1500 : Int) < (raw.length : Int)) = false := by simp; omega
          have t6n : decide (1500 < raw.length) = false := by simp; omega
          have HRL : Hid (raw.length ≤ 1500) := Lib.hid (by omega)
          have HOB : Hid (s.ops < 900000000) := Lib.hid (by have := HOPS.out; omega)
          have HRN : Hid (r.n < 1000000000) := Lib.hid (by rw [← HAL.out.ops]; have := HOB.out; omega)
          clear h15
          obtain ⟨lr, hlr⟩ : ∃ x, raw.length = x := ⟨_, rfl⟩
          rw [hlr] at HRAW HRAW0 HRL D2 r2 t6 t6n
          have HLR := Lib.hid hlr
          clear hlr
          by_cases h0 : dd = 0
          · subst h0
            obtain ⟨⟨jc, sc, ec⟩, hce⟩ : ∃ x, commitJ j s raw = x := ⟨_, rfl⟩
            have HCE := Lib.hid hce
            have G9 : Hid jc.G0 := Lib.hid (by have := commitJ_g0 HG0.out s raw; rw [hce] at this; exact this)
            have O9 : Hid (sc.ops ≤ 100 * ((kk + 1 : Nat) : Int) + 1) := Lib.hid (by
              have h8 := commitJ_ops j s raw
              rw [hce] at h8
              simp only at h8
              have h7 : secsN raw.length ≤ 24 := by unfold secsN; have := HRL.out; have := HLR.out; omega
              have := HOPS.out
              omega)
            clear hce
            have HBK := Lib.hid D2.out.blk
            go_upto_region 19 with fail
            refine wp_region_held_drew (S := (fun w' => Blk w' wr.heap.size 48 [.int .i64 0, .int .i64 nn, .slice Ab lr cb])) (by kernel_rfl) (HBK.out.drew) (fun hHeld => ?_)
            refine' wpAnyH_take (i := 0) (v := _) rfl (by kernel_rfl) (by kernel_rfl) (by kernel_rfl) (fun _ _ _ h => h) (Or.inl ⟨by rfl, ?taq11⟩) (by assumption) ?tbq11
            case taq11 =>
              intro wS hSw
              (try dsimp only at hSw)
              go_simp
              (try (with_reducible rfl))
            (try simp only [List.getElem_toArray, List.getElem_cons_zero, List.getElem_cons_succ, Act.put, List.setIfInBounds_toArray, List.set_cons_zero, List.set_cons_succ])
            refine' wpAnyH_take (i := 1) (v := _) rfl (by kernel_rfl) (by kernel_rfl) (by kernel_rfl) (fun _ _ _ h => h) (Or.inl ⟨by rfl, ?taq12⟩) (by assumption) ?tbq12
            case taq12 =>
              intro wS hSw
              (try dsimp only at hSw)
              go_simp
              (try (with_reducible rfl))
            (try simp only [List.getElem_toArray, List.getElem_cons_zero, List.getElem_cons_succ, Act.put, List.setIfInBounds_toArray, List.set_cons_zero, List.set_cons_succ])
            refine' wpAnyH_take (i := 2) (v := _) rfl (by kernel_rfl) (by kernel_rfl) (by kernel_rfl) (fun _ _ _ h => h) (Or.inl ⟨by rfl, ?taq13⟩) (by assumption) ?tbq13
            case taq13 =>
              intro wS hSw
              (try dsimp only at hSw)
              (have m9 := hSw.cell 2; simp only [List.getElem?_cons_zero, List.getElem?_cons_succ] at m9; clear hSw; go_simp)
              (try (with_reducible rfl))
            (try simp only [List.getElem_toArray, List.getElem_cons_zero, List.getElem_cons_succ, Act.put, List.setIfInBounds_toArray, List.set_cons_zero, List.set_cons_succ])
            refine' wpAnyH_take (i := 4) (v := _) rfl (by kernel_rfl) (by kernel_rfl) (by kernel_rfl) (fun _ _ _ h => h) (Or.inl ⟨by rfl, ?taq14⟩) (by assumption) ?tbq14
            case taq14 =>
              intro wS hSw
              (try dsimp only at hSw)
              go_simp
              (try (with_reducible rfl))
            (try simp only [List.getElem_toArray, List.getElem_cons_zero, List.getElem_cons_succ, Act.put, List.setIfInBounds_toArray, List.set_cons_zero, List.set_cons_succ])
            refine' wpAnyH_take (i := 5) (v := _) rfl (by kernel_rfl) (by kernel_rfl) (by kernel_rfl) (fun _ _ _ h => h) (Or.inl ⟨by rfl, ?taq15⟩) (by assumption) ?tbq15
            case taq15 =>
              intro wS hSw
              (try dsimp only at hSw)
              go_simp
              (try (with_reducible rfl))
            (try simp only [List.getElem_toArray, List.getElem_cons_zero, List.getElem_cons_succ, Act.put, List.setIfInBounds_toArray, List.set_cons_zero, List.set_cons_succ])
            refine' wpAnyH_take (i := 6) (v := _) rfl (by kernel_rfl) (by kernel_rfl) (by kernel_rfl) (fun _ _ _ h => h) (Or.inl ⟨by rfl, ?taq16⟩) (by assumption) ?tbq16
            case taq16 =>
              intro wS hSw
              (try dsimp only at hSw)
              (have m9 := hSw.cell 2; simp only [List.getElem?_cons_zero, List.getElem?_cons_succ] at m9; clear hSw; go_simp)
              (try (with_reducible rfl))
            (try simp only [List.getElem_toArray, List.getElem_cons_zero, List.getElem_cons_succ, Act.put, List.setIfInBounds_toArray, List.set_cons_zero, List.set_cons_succ])
            refine wpAnyH_ready (rs := [3]) (by kernel_rfl) (by simp) ?_
            refine AllReadyH.cons rfl (fun K9 hK9 => ?_) AllReadyH.nil
            (try simp only [List.getElem_toArray, List.getElem_cons_zero, List.getElem_cons_succ])
            go_simp
            have hjok : j.Ok s.now.length := by
              obtain ⟨_, _, _, _, _, h⟩ := D2.out
              exact h
            have HJOK := Lib.hid hjok
            clear hjok
            refine (bj_commit D2.out.drew HOB.out _ raw (HRAW.out _ _) (by have := HRL.out; have := HLR.out; omega)).mono ?_
            rw [HCE.out]
            rintro en w6 ⟨rfl, rs6, _, h⟩
            have D6 := Lib.hid h
            clear h D2
            refine hK9.out _ _ (D6.out.blk) (fun hHeld9 => ?_)
            clear hK9 K9
            (try simp only [List.getElem_toArray, List.getElem_cons_zero, List.getElem_cons_succ, Act.put, List.setIfInBounds_toArray, List.set_cons_zero, List.set_cons_succ])
            refine wpAnyH_ready (rs := [7]) (by kernel_rfl) (by simp) ?_
            refine AllReadyH.cons rfl (fun K9 hK9 => ?_) AllReadyH.nil
            (try simp only [List.getElem_toArray, List.getElem_cons_zero, List.getElem_cons_succ])
            go_simp
            refine (bk_commit D6.out HAL.out HJOK.out HG0.out HOB.out _ raw (HRAW.out _ _)).mono ?_
            rw [HCE.out]
            rintro en w7 ⟨rfl, r9, hal, rs7, _, h⟩
            have D9 := Lib.hid h
            have A9 := Lib.hid hal
            clear h hal D6
            refine hK9.out _ _ (D9.out.blk) (fun hHeld9 => ?_)
            clear hK9 K9
            (try simp only [List.getElem_toArray, List.getElem_cons_zero, List.getElem_cons_succ, Act.put, List.setIfInBounds_toArray, List.set_cons_zero, List.set_cons_succ])
            have te : (ec == ec) = true := by simp
            refine' wpAnyH_take (i := 8) (v := _) rfl (by kernel_rfl) (by kernel_rfl) (by kernel_rfl) (fun _ _ _ h => h) (Or.inl ⟨by rfl, ?taq17⟩) (by assumption) ?tbq17
            case taq17 =>
              intro wS hSw
              (try dsimp only at hSw)
              go_simp
              (try (with_reducible rfl))
            (try simp only [List.getElem_toArray, List.getElem_cons_zero, List.getElem_cons_succ, Act.put, List.setIfInBounds_toArray, List.set_cons_zero, List.set_cons_succ])
            refine' wpAnyH_take (i := 9) (v := _) rfl (by kernel_rfl) (by kernel_rfl) (by kernel_rfl) (fun _ _ _ h => h) (Or.inl ⟨by rfl, ?taq18⟩) (by assumption) ?tbq18
            case taq18 =>
              intro wS hSw
              (try dsimp only at hSw)
              go_simp
              (try (with_reducible rfl))
            (try simp only [List.getElem_toArray, List.getElem_cons_zero, List.getElem_cons_succ, Act.put, List.setIfInBounds_toArray, List.set_cons_zero, List.set_cons_succ])
            refine wpAnyH_done (by kernel_rfl) ?_ _
            clear HBK
            go_wp2_with fail
            refine (bj_same D9.out A9.out).mono ?_
            rintro en w10 ⟨rfl, h⟩
            have D10 := Lib.hid h
            clear h D9
            go_wp2_with fail
            refine (like6_any D10.out A9.out).mono ?_
            rintro en w11 ⟨rfl, h⟩
            have D11 := Lib.hid h.drop1
            clear h D10
            go_wp2
            go_roundw
            case rel => exact ⟨kk + 1, q, k, sc, r9, jc, _, by omega, by omega, by go_num, rfl, rfl, A9, G9, O9, D11⟩
            case measure => simp [intOf]; omega
          · have t0 : (dd == 0) = false := beq_eq_false_iff_ne.2 h0
            by_cases h1 : dd = 1
            · subst h1
              have hkq := D2.out.blk
              have m0 := hkq.cell 0
              have m1 := hkq.cell 1
              have m2 := hkq.cell 2
              have hql := hkq.lt
              simp only [List.getElem?_cons_zero, List.getElem?_cons_succ] at m0 m1 m2 hql
              clear hkq
              go_wp2_with fail
              refine (bj_fuse D2.out (by have := HOB.out; omega) nn HNN.out).mono ?_
              rintro en w6 ⟨rfl, h⟩
              have D6 := Lib.hid h
              clear h D2 m0 m1 m2 hql
              have hkq := D6.out.blk
              have m0 := hkq.cell 0
              have m1 := hkq.cell 1
              have m2 := hkq.cell 2
              have hql := hkq.lt
              simp only [List.getElem?_cons_zero, List.getElem?_cons_succ] at m0 m1 m2 hql
              clear hkq
              go_wp2_with fail
              refine (bk_fuse D6.out nn HNN.out.2).mono ?_
              rintro en w7 ⟨rfl, h⟩
              have D9 := Lib.hid h
              have A9 := Lib.hid (HAL.out.fused (by have := HOB.out; omega) HNN.out.2)
              have G9 := HG0
              have O9 : Hid ((s.fused nn).ops ≤ 100 * ((kk + 1 : Nat) : Int) + 1) := Lib.hid (by have := HOPS.out; simp [Dk.fused]; omega)
              clear h D6 m0 m1 m2 hql
              go_wp2_with fail
              refine (bj_same D9.out A9.out).mono ?_
              rintro en w10 ⟨rfl, h⟩
              have D10 := Lib.hid h
              clear h D9
              go_wp2_with fail
              refine (like6_any D10.out A9.out).mono ?_
              rintro en w11 ⟨rfl, h⟩
              have D11 := Lib.hid h.drop1
              clear h D10
              go_wp2
              go_roundw
              case rel => exact ⟨kk + 1, q, k, s.fused nn, r.fused nn, j, _, by omega, by omega, by go_num, rfl, rfl, A9, G9, O9, D11⟩
              case measure => simp [intOf]; omega
            · have t1 : (dd == 1) = false := beq_eq_false_iff_ne.2 h1
              by_cases h2 : dd = 2
              · subst h2
                have hkq := D2.out.blk
                have m0 := hkq.cell 0
                have m1 := hkq.cell 1
                have m2 := hkq.cell 2
                have hql := hkq.lt
                simp only [List.getElem?_cons_zero, List.getElem?_cons_succ] at m0 m1 m2 hql
                clear hkq
                go_wp2_with fail
                refine (bj_crash D2.out HAL.out.ok _ raw (HRAW.out _ _)).mono ?_
                rintro en w4 ⟨rfl, h⟩
                have D4 := Lib.hid h
                clear h D2 m0 m1 m2 hql
                have hkq := D4.out.blk
                have m0 := hkq.cell 0
                have m1 := hkq.cell 1
                have m2 := hkq.cell 2
                have hql := hkq.lt
                simp only [List.getElem?_cons_zero, List.getElem?_cons_succ] at m0 m1 m2 hql
                clear hkq
                go_wp2_with fail
                refine (bk_crash D4.out _ raw (HRAW.out _ _)).mono ?_
                rintro en w5 ⟨rfl, h⟩
                have D5 := Lib.hid h
                have A5 := Lib.hid (HAL.out.crash raw)
                have O5 : Hid ((s.crash raw).ops ≤ 100 * (kk : Int) + 1) := Lib.hid (by have := HOPS.out; simp [Dk.crash]; omega)
                clear h D4 m0 m1 m2 hql
                generalize s.crash raw = s5 at D5 A5 O5
                generalize r.crash raw = r5 at D5 A5
                obtain ⟨⟨s8, e8, j8⟩, hop⟩ : ∃ x, openJ s5 = x := ⟨_, rfl⟩
                have HOP := Lib.hid hop
                have G8 : Hid j8.G0 := Lib.hid (by have := openJ_g0 s5; rw [hop] at this; exact this)
                have O9 : Hid (s8.ops ≤ 100 * ((kk + 1 : Nat) : Int) + 1) := Lib.hid (by
                  have h8 := openJ_ops s5
                  rw [hop] at h8
                  simp only at h8
                  have := O5.out
                  omega)
                have OB8 : Hid (s5.ops < 900000000) := Lib.hid (by have := O5.out; omega)
                clear hop
                go_wp2_with fail
                refine (bj_open D5.out (by have := OB8.out; omega) s8 e8 j8 HOP.out).mono ?_
                rintro en w6 (⟨he, rfl, h⟩ | ⟨rfl, q8, rfl, h⟩)
                · have D8 := Lib.hid h
                  have HE8 := Lib.hid he
                  have te : (e8 == e8) = true := by simp
                  clear h D5 he
                  dsimp only
                  go_wp2_with fail
                  refine (bk_open D8.out A5.out OB8.out s8 e8 j8 HOP.out HE8.out).mono ?_
                  rintro en w7 ⟨rfl, r8, hal, h⟩
                  have D9 := Lib.hid h
                  have A9 := Lib.hid hal
                  have G9 := HG0
                  clear h hal D8
                  dsimp only
                  go_wp2_with fail
                  refine (bj_same D9.out A9.out).mono ?_
                  rintro en w10 ⟨rfl, h⟩
                  have D10 := Lib.hid h
                  clear h D9
                  go_wp2_with fail
                  refine (like6_any D10.out A9.out).mono ?_
                  rintro en w11 ⟨rfl, h⟩
                  have D11 := Lib.hid h.drop1
                  clear h D10
                  go_wp2
                  go_roundw
                  case rel => exact ⟨kk + 1, q, k, s8, r8, j, _, by omega, by omega, by go_num, rfl, rfl, A9, G9, O9, D11⟩
                  case measure => simp [intOf]; omega
                · have D8 := Lib.hid h
                  clear h D5
                  dsimp only
                  go_wp2_with fail
                  refine (bo_open D8.out A5.out OB8.out s8 HOP.out).mono ?_
                  rintro en w7 ⟨k8, rfl, r8, hal, rs8, h⟩
                  have D9 := Lib.hid h
                  have A9 := Lib.hid hal
                  have G9 := G8
                  clear h hal D8
                  dsimp only
                  go_wp2_with fail
                  refine (bj_same D9.out A9.out).mono ?_
                  rintro en w10 ⟨rfl, h⟩
                  have D10 := Lib.hid h
                  clear h D9
                  go_wp2_with fail
                  refine (like6_any D10.out A9.out).mono ?_
                  rintro en w11 ⟨rfl, h⟩
                  have D11 := Lib.hid h.drop1
                  clear h D10
                  go_wp2
                  go_roundw
                  case rel => exact ⟨kk + 1, q8, k8, s8, r8, j8, _, by omega, by omega, by go_num, rfl, rfl, A9, G9, O9, D11⟩
                  case measure => simp [intOf]; omega
              · have t2 : (dd == 2) = false := beq_eq_false_iff_ne.2 h2
                by_cases h3 : dd = 3
                · subst h3
                  have hkq := D2.out.blk
                  have m0 := hkq.cell 0
                  have m1 := hkq.cell 1
                  have m2 := hkq.cell 2
                  have hql := hkq.lt
                  simp only [List.getElem?_cons_zero, List.getElem?_cons_succ] at m0 m1 m2 hql
                  clear hkq
                  obtain ⟨⟨s8, e8, j8⟩, hop⟩ : ∃ x, openJ s = x := ⟨_, rfl⟩
                  have HOP := Lib.hid hop
                  have G8 : Hid j8.G0 := Lib.hid (by have := openJ_g0 s; rw [hop] at this; exact this)
                  have O9 : Hid (s8.ops ≤ 100 * ((kk + 1 : Nat) : Int) + 1) := Lib.hid (by
                    have h8 := openJ_ops s
                    rw [hop] at h8
                    simp only at h8
                    have := HOPS.out
                    omega)
                  have OB8 : Hid (s.ops < 900000000) := Lib.hid (by have := HOPS.out; omega)
                  clear hop
                  go_wp2_with fail
                  refine (bj_open D2.out (by have := OB8.out; omega) s8 e8 j8 HOP.out).mono ?_
                  rintro en w6 (⟨he, rfl, h⟩ | ⟨rfl, q8, rfl, h⟩)
                  · have D8 := Lib.hid h
                    have HE8 := Lib.hid he
                    have te : (e8 == e8) = true := by simp
                    clear h D2 he
                    dsimp only
                    go_wp2_with fail
                    refine (bk_open D8.out HAL.out OB8.out s8 e8 j8 HOP.out HE8.out).mono ?_
                    rintro en w7 ⟨rfl, r8, hal, h⟩
                    have D9 := Lib.hid h
                    have A9 := Lib.hid hal
                    have G9 := HG0
                    clear h hal D8
                    dsimp only
                    go_wp2_with fail
                    refine (bj_same D9.out A9.out).mono ?_
                    rintro en w10 ⟨rfl, h⟩
                    have D10 := Lib.hid h
                    clear h D9
                    go_wp2_with fail
                    refine (like6_any D10.out A9.out).mono ?_
                    rintro en w11 ⟨rfl, h⟩
                    have D11 := Lib.hid h.drop1
                    clear h D10
                    go_wp2
                    go_roundw
                    case rel => exact ⟨kk + 1, q, k, s8, r8, j, _, by omega, by omega, by go_num, rfl, rfl, A9, G9, O9, D11⟩
                    case measure => simp [intOf]; omega
                  · have D8 := Lib.hid h
                    clear h D2
                    dsimp only
                    go_wp2_with fail
                    refine (bo_open D8.out HAL.out OB8.out s8 HOP.out).mono ?_
                    rintro en w7 ⟨k8, rfl, r8, hal, rs8, h⟩
                    have D9 := Lib.hid h
                    have A9 := Lib.hid hal
                    have G9 := G8
                    clear h hal D8
                    dsimp only
                    go_wp2_with fail
                    refine (bj_same D9.out A9.out).mono ?_
                    rintro en w10 ⟨rfl, h⟩
                    have D10 := Lib.hid h
                    clear h D9
                    go_wp2_with fail
                    refine (like6_any D10.out A9.out).mono ?_
                    rintro en w11 ⟨rfl, h⟩
                    have D11 := Lib.hid h.drop1
                    clear h D10
                    go_wp2
                    go_roundw
                    case rel => exact ⟨kk + 1, q8, k8, s8, r8, j8, _, by omega, by omega, by go_num, rfl, rfl, A9, G9, O9, D11⟩
                    case measure => simp [intOf]; omega
                · have t3 : (dd == 3) = false := beq_eq_false_iff_ne.2 h3
                  have HWL : Hid ((raw.take 64 ++ (List.replicate 64 (0 : UInt8)).drop raw.length).length = 64) := Lib.hid (by rw [List.length_append, List.length_take, List.length_drop, List.length_replicate]; omega)
                  have HDL : Hid (raw.take 64 ++ (List.replicate 64 (0 : UInt8)).drop raw.length = raw.take 64 ++ (List.replicate 64 (0 : UInt8)).drop raw.length) := Lib.hid rfl
                  obtain ⟨y, hy⟩ : ∃ y, raw.take 64 ++ (List.replicate 64 (0 : UInt8)).drop raw.length = y := ⟨_, rfl⟩
                  have HY := Lib.hid hy
                  rw [hy] at HWL
                  clear hy HDL
                  obtain ⟨haw, hal2⟩ := HAL.out.write (by have := HOB.out; omega) nn y
                  have E1 := Lib.hid haw
                  have A9 := Lib.hid hal2
                  have G9 := HG0
                  have O9 : Hid ((s.write nn y).1.ops ≤ 100 * ((kk + 1 : Nat) : Int) + 1) := Lib.hid (by have := HOPS.out; have := write_ops s nn y; omega)
                  clear haw hal2
                  have HMK : Hid (∀ (W : World), (Instr.makeSlice 31 (.int .i64 64) (.int .i64 64)).run Try.prog W = .ok (.slice (some ⟨W.heap.size, 0, none⟩) 64 64) (W.alloc (.cells (zerosA (.int .u8 0) 64) 5))) := Lib.hid (fun W => by
                    obtain ⟨i, hi, hz, hs, hb⟩ := info_parts elem_byte.info
                    exact run_make1 31 5 i _ elem_byte.und hi hz hs rfl .i64 .i64 64 (by rw [hb]; omega) (by omega) W)
                  go_upto_region 15 with fail
                  generalize (wr.alloc (.cells #[.int .i64 dd, .int .i64 nn, .slice Ab lr cb] 48)) = wA at D2 ⊢
                  generalize wr.heap.size = gc at D2 ⊢
                  go_upto_region 16 with fail
                  rw [HMK.out]
                  have kz : Blk (wA.alloc (.cells (zerosA (.int .u8 0) 64) 5)) wA.heap.size 5 (bytesV (List.replicate 64 0)) := by
                    have h := Blk.freshA wA 5 (zerosA (.int .u8 0) 64)
                    rw [zerosA_toList] at h
                    exact h
                  have D3 := Lib.hid (D2.out.more ((Below.refl _ wA).alloc (Nat.le_refl _) (.cells (zerosA (.int .u8 0) 64) 5)) (Nat.le_refl _) kz)
                  have HRD3 := Lib.hid (HRAW0.out.below D3.out.bel)
                  clear kz D2
                  generalize wA.heap.size = gb at D3 ⊢
                  generalize (wA.alloc (.cells (zerosA (.int .u8 0) 64) 5)) = w3 at D3 HRD3 ⊢
                  have hkq := (BJ.drop1 D3.out).blk
                  have m0 := hkq.cell 0
                  have m1 := hkq.cell 1
                  have m2 := hkq.cell 2
                  have hql := hkq.lt
                  simp only [List.getElem?_cons_zero, List.getElem?_cons_succ] at m0 m1 m2 hql
                  have HB3 := Lib.hid D3.out.blk
                  clear hkq
                  go_wp2_with (refine wpList_copy_bytes rfl (.tmp 68) (.tmp 70) rfl w.heap.size gb 64 (List.replicate 64 0) raw (.slice Ab lr cb) rfl rfl HB3.out (by simp) HRD3.out ?_; intro w4 hk4 hof4; rw [HY.out] at hk4; have D4 := Lib.hid (D3.out.turn hof4 hk4); clear hk4 hof4 D3 HB3 HRD3 m0 m1 m2 hql)
                  have HBK := Lib.hid (BJ.drop1 D4.out).blk
                  (try simp only [List.getElem_toArray, List.getElem_cons_zero, List.getElem_cons_succ, Act.put, List.setIfInBounds_toArray, List.set_cons_zero, List.set_cons_succ])
                  refine wp_region_held_drew (S := (fun w' => Blk w' gc 48 [.int .i64 dd, .int .i64 nn, .slice Ab lr cb])) (by kernel_rfl) (HBK.out.drew) (fun hHeld => ?_)
                  refine' wpAnyH_take (i := 0) (v := _) rfl (by kernel_rfl) (by kernel_rfl) (by kernel_rfl) (fun _ _ _ h => h) (Or.inl ⟨by rfl, ?taq1⟩) (by assumption) ?tbq1
                  case taq1 =>
                    intro wS hSw
                    (try dsimp only at hSw)
                    go_simp
                    (try (with_reducible rfl))
                  (try simp only [List.getElem_toArray, List.getElem_cons_zero, List.getElem_cons_succ, Act.put, List.setIfInBounds_toArray, List.set_cons_zero, List.set_cons_succ])
                  refine' wpAnyH_take (i := 1) (v := _) rfl (by kernel_rfl) (by kernel_rfl) (by kernel_rfl) (fun _ _ _ h => h) (Or.inl ⟨by rfl, ?taq2⟩) (by assumption) ?tbq2
                  case taq2 =>
                    intro wS hSw
                    (try dsimp only at hSw)
                    go_simp
                    (try (with_reducible rfl))
                  (try simp only [List.getElem_toArray, List.getElem_cons_zero, List.getElem_cons_succ, Act.put, List.setIfInBounds_toArray, List.set_cons_zero, List.set_cons_succ])
                  refine' wpAnyH_take (i := 2) (v := _) rfl (by kernel_rfl) (by kernel_rfl) (by kernel_rfl) (fun _ _ _ h => h) (Or.inl ⟨by rfl, ?taq3⟩) (by assumption) ?tbq3
                  case taq3 =>
                    intro wS hSw
                    (try dsimp only at hSw)
                    (have m9 := hSw.cell 1; simp only [List.getElem?_cons_zero, List.getElem?_cons_succ] at m9; clear hSw; go_simp)
                    (try (with_reducible rfl))
                  (try simp only [List.getElem_toArray, List.getElem_cons_zero, List.getElem_cons_succ, Act.put, List.setIfInBounds_toArray, List.set_cons_zero, List.set_cons_succ])
                  refine' wpAnyH_take (i := 3) (v := _) rfl (by kernel_rfl) (by kernel_rfl) (by kernel_rfl) (fun _ _ _ h => h) (Or.inl ⟨by rfl, ?taq4⟩) (by assumption) ?tbq4
                  case taq4 =>
                    intro wS hSw
                    (try dsimp only at hSw)
                    go_simp
                    (try (with_reducible rfl))
                  (try simp only [List.getElem_toArray, List.getElem_cons_zero, List.getElem_cons_succ, Act.put, List.setIfInBounds_toArray, List.set_cons_zero, List.set_cons_succ])
                  refine' wpAnyH_take (i := 5) (v := _) rfl (by kernel_rfl) (by kernel_rfl) (by kernel_rfl) (fun _ _ _ h => h) (Or.inl ⟨by rfl, ?taq5⟩) (by assumption) ?tbq5
                  case taq5 =>
                    intro wS hSw
                    (try dsimp only at hSw)
                    go_simp
                    (try (with_reducible rfl))
                  (try simp only [List.getElem_toArray, List.getElem_cons_zero, List.getElem_cons_succ, Act.put, List.setIfInBounds_toArray, List.set_cons_zero, List.set_cons_succ])
                  refine' wpAnyH_take (i := 6) (v := _) rfl (by kernel_rfl) (by kernel_rfl) (by kernel_rfl) (fun _ _ _ h => h) (Or.inl ⟨by rfl, ?taq6⟩) (by assumption) ?tbq6
                  case taq6 =>
                    intro wS hSw
                    (try dsimp only at hSw)
                    go_simp
                    (try (with_reducible rfl))
                  (try simp only [List.getElem_toArray, List.getElem_cons_zero, List.getElem_cons_succ, Act.put, List.setIfInBounds_toArray, List.set_cons_zero, List.set_cons_succ])
                  refine' wpAnyH_take (i := 7) (v := _) rfl (by kernel_rfl) (by kernel_rfl) (by kernel_rfl) (fun _ _ _ h => h) (Or.inl ⟨by rfl, ?taq7⟩) (by assumption) ?tbq7
                  case taq7 =>
                    intro wS hSw
                    (try dsimp only at hSw)
                    (have m9 := hSw.cell 1; simp only [List.getElem?_cons_zero, List.getElem?_cons_succ] at m9; clear hSw; go_simp)
                    (try (with_reducible rfl))
                  (try simp only [List.getElem_toArray, List.getElem_cons_zero, List.getElem_cons_succ, Act.put, List.setIfInBounds_toArray, List.set_cons_zero, List.set_cons_succ])
                  refine' wpAnyH_take (i := 8) (v := _) rfl (by kernel_rfl) (by kernel_rfl) (by kernel_rfl) (fun _ _ _ h => h) (Or.inl ⟨by rfl, ?taq8⟩) (by assumption) ?tbq8
                  case taq8 =>
                    intro wS hSw
                    (try dsimp only at hSw)
                    go_simp
                    (try (with_reducible rfl))
                  (try simp only [List.getElem_toArray, List.getElem_cons_zero, List.getElem_cons_succ, Act.put, List.setIfInBounds_toArray, List.set_cons_zero, List.set_cons_succ])
                  refine wpAnyH_ready (rs := [4]) (by kernel_rfl) (by simp) ?_
                  refine AllReadyH.cons rfl (fun K9 hK9 => ?_) AllReadyH.nil
                  (try simp only [List.getElem_toArray, List.getElem_cons_zero, List.getElem_cons_succ])
                  go_simp
                  refine (bj_write D4.out.drew (by have := HOB.out; omega) nn _ y (.inr (.inl ⟨gb, _, 64, rfl, HWL.out, by omega, .head _⟩))).mono ?_
                  rw [E1.out]
                  rintro en w6 ⟨rfl, h⟩
                  have D6 := Lib.hid h
                  clear h D4
                  refine hK9.out _ _ ((BJ.drop1 D6.out).blk) (fun hHeld9 => ?_)
                  clear hK9 K9
                  (try simp only [List.getElem_toArray, List.getElem_cons_zero, List.getElem_cons_succ, Act.put, List.setIfInBounds_toArray, List.set_cons_zero, List.set_cons_succ])
                  refine wpAnyH_ready (rs := [9]) (by kernel_rfl) (by simp) ?_
                  refine AllReadyH.cons rfl (fun K9 hK9 => ?_) AllReadyH.nil
                  (try simp only [List.getElem_toArray, List.getElem_cons_zero, List.getElem_cons_succ])
                  go_simp
                  refine (bk_write D6.out HRN.out nn _ y (.inr (.inl ⟨gb, _, 64, rfl, HWL.out, by omega, .head _⟩))).mono ?_
                  rintro en w7 ⟨rfl, h⟩
                  have D9 := Lib.hid h.drop1
                  clear h D6
                  refine hK9.out _ _ (D9.out.blk) (fun hHeld9 => ?_)
                  clear hK9 K9
                  (try simp only [List.getElem_toArray, List.getElem_cons_zero, List.getElem_cons_succ, Act.put, List.setIfInBounds_toArray, List.set_cons_zero, List.set_cons_succ])
                  generalize (r.write nn y).2 = ec
                  have te : (ec == ec) = true := by simp
                  refine' wpAnyH_take (i := 10) (v := _) rfl (by kernel_rfl) (by kernel_rfl) (by kernel_rfl) (fun _ _ _ h => h) (Or.inl ⟨by rfl, ?taq9⟩) (by assumption) ?tbq9
                  case taq9 =>
                    intro wS hSw
                    (try dsimp only at hSw)
                    go_simp
                    (try (with_reducible rfl))
                  (try simp only [List.getElem_toArray, List.getElem_cons_zero, List.getElem_cons_succ, Act.put, List.setIfInBounds_toArray, List.set_cons_zero, List.set_cons_succ])
                  refine' wpAnyH_take (i := 11) (v := _) rfl (by kernel_rfl) (by kernel_rfl) (by kernel_rfl) (fun _ _ _ h => h) (Or.inl ⟨by rfl, ?taq10⟩) (by assumption) ?tbq10
                  case taq10 =>
                    intro wS hSw
                    (try dsimp only at hSw)
                    go_simp
                    (try (with_reducible rfl))
                  (try simp only [List.getElem_toArray, List.getElem_cons_zero, List.getElem_cons_succ, Act.put, List.setIfInBounds_toArray, List.set_cons_zero, List.set_cons_succ])
                  refine wpAnyH_done (by kernel_rfl) ?_ _
                  clear HBK
                  go_wp2_with fail
                  refine (bj_same D9.out A9.out).mono ?_
                  rintro en w10 ⟨rfl, h⟩
                  have D10 := Lib.hid h
                  clear h D9
                  go_wp2_with fail
                  refine (like6_any D10.out A9.out).mono ?_
                  rintro en w11 ⟨rfl, h⟩
                  have D11 := Lib.hid h.drop1
                  clear h D10
                  go_wp2
                  go_roundw
                  case rel => exact ⟨kk + 1, q, k, (s.write nn y).1, (r.write nn y).1, j, _, by omega, by omega, by go_num, rfl, rfl, A9, G9, O9, D11⟩
                  case measure => simp [intOf]; omega
    · clear HL
      have DD := hbj
      clear hbj
      go_wp2_with fail
      refine (awake6_any _).mono ?_
      rintro en w9 ⟨rfl, hb⟩
      have J9 := Lib.hid (DD.out.below hb)
      clear hb
      go_wp2
      go_ret
      exact ⟨rfl, J9.out.bel⟩
end Go.Proofs.Ytjddplddpdcmdaa
