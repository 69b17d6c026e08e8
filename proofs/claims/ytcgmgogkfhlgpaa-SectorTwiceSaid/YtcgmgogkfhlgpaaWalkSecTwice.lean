/- The walk of SectorTwice. -/
import Derived.Test.YtcgmgogkfhlgpaaAwake5
import Derived.Test.YtcgmgogkfhlgpaaOpen5
import Derived.Test.YtcgmgogkfhlgpaaSecLoopP
namespace Go.Proofs.Ytcgmgogkfhlgpaa
open Go.RowKit
set_option linter.unusedVariables false

set_option maxHeartbeats 12800000 in
set_option maxRecDepth 100000 in
theorem sectorTwice_walk (v0 : Value) (l : List CallV) (v1 : Value) (a1 : List UInt8) (v2 : Value) (a2 : List UInt8) (w : World) (o0 : CallsOf w v0 l) (o1 : Reads w w.heap.size v1 (bytesV a1) ∧ a1.length ≤ 140737488351232) (o2 : Reads w w.heap.size v2 (bytesV a2) ∧ a2.length ≤ 140737488351232) :
    Calls Try.prog 5 #[v0, v1, v2] w fun en w' => en = .returned (.bool true) ∧ Below w.heap.size w w' := by
  obtain ⟨A0, c0, rfl⟩ := o0.form
  have hlen := o0.len
  obtain ⟨A1, c1, rfl, _, _⟩ := o1.1.form
  obtain ⟨A2, c2, rfl, _, _⟩ := o2.1.form
  have HL := Lib.hid o0
  have R1 := Lib.hid o1.1
  have R2 := Lib.hid o2.1
  clear o0 o1 o2
  go_enter Try.func5, Try.ntmps5
  go_wp2_with fail
  refine (ds_new (DS.start w) 8 8 (by decide)).mono ?_
  rintro en w1 ⟨d, rfl, h⟩
  have D1 := Lib.hid h
  have HS1 := Lib.hid S8.new
  generalize Dk.new 8 = s1 at D1 HS1
  clear h
  go_wp2
  go_loopw [19] (fun i wr => ∃ (k : Nat) (s : Dk), k ≤ l.length ∧ k ≤ 40 ∧ i = .int .i64 k ∧ Hid (S8 k s) ∧ Hid (DS w wr [(d, s)] [])) (fun i _ => l.length - (intOf i).toNat)
  case atStart => exact ⟨0, s1, by omega, by omega, rfl, HS1, D1⟩
  case round =>
    obtain ⟨k, s, hk, hk4, rfl, hs, hds⟩ := hrel
    by_cases hlt : k < l.length
    ·   obtain ⟨g, o, c, e, e1, hlk, hok, hg, q0, q1, q2, q3, q4⟩ := HL.out.at_ hlt
        injection e1 with e1 _ e3
        subst e1 e3
        have hbel := hds.out.bel
        have r0 := (hbel.cell (p := ⟨g, o + k * 5, none⟩) hg).trans q0
        have r1 := (hbel.cell (p := ⟨g, o + k * 5 + 1, none⟩) hg).trans q1
        have r2 := (hbel.cell (p := ⟨g, o + k * 5 + 2, none⟩) hg).trans q2
        have r3 := (hbel.cell (p := ⟨g, o + k * 5 + 3, none⟩) hg).trans q3
        have r4 := (hbel.cell (p := ⟨g, o + k * 5 + 4, none⟩) hg).trans q4
        obtain ⟨dd, ii, bv, raw, x, odd⟩ := e
        obtain ⟨_, _, hraw, _⟩ := hok
        simp only at r0 r1 r2 r3 r4 hraw
        obtain ⟨Ab, cb, rfl, _, _⟩ := hraw.form
        rw [length_bytesV] at hraw r2
        have HRAW := Lib.hid hraw
        have D2 := Lib.hid (hds.out.more (g := wr.heap.size) (t := 39) (cs := [.int .i64 dd, .int .i64 ii, .slice Ab raw.length cb, .int .u8 (x.toNat : Int), .bool odd]) ((Below.refl _ wr).alloc (Nat.le_refl _) (.cells #[.int .i64 dd, .int .i64 ii, .slice Ab raw.length cb, .int .u8 (x.toNat : Int), .bool odd] 39)) (Nat.le_refl _) (Blk.fresh wr _ _))
        have i0 : (0 : Int) ≤ (k : Int) := by omega
        have i1 : (k : Int) < (l.length : Int) := by omega
        clear hbel q0 q1 q2 q3 q4 hlk hraw hds
        by_cases h40 : 40 ≤ k
        · have t40 : decide ((40 : Int) ≤ (k : Int)) = true := by simp; omega
          have DD := Lib.hid (D2.out.sub (bs' := []) (fun b hb => by cases hb))
          go_wp2_with fail
          refine (ds_crash DD.out _ a1 (.inl R1.out)).mono ?_
          rintro en w2 ⟨rfl, h⟩
          have D3 := Lib.hid h
          have HS3 := Lib.hid (hs.out.crash a1)
          have HCC : Hid (((s.crash a1).crash a2).now = (s.crash a1).now) := Lib.hid rfl
          have HS4 := Lib.hid ((hs.out.crash a1).crash a2)
          clear h
          generalize hsc : s.crash a1 = sc at D3 HS3 HCC HS4
          clear hsc
          go_wp2_with fail
          refine (ds_copy D3.out (by have := HS3.out.ops; omega)).mono ?_
          rintro en w3 ⟨q, rfl, h⟩
          have D4 := Lib.hid (h.perm (.swap _ _ _))
          clear h
          go_wp2_with fail
          refine (ds_crash D4.out _ a2 (.inl R2.out)).mono ?_
          rintro en w4 ⟨rfl, h⟩
          have D5 := Lib.hid h
          generalize hsd : sc.crash a2 = sd at D5 HCC HS4
          clear h hsd D2 DD
          go_wp2
          go_loopw [52] (fun i wr => ∃ (k : Nat), k ≤ 8 ∧ i = .int .i64 k ∧ Hid (DS w wr [(d, sd), (q, sc)] [])) (fun i _ => 8 - (intOf i).toNat)
          case atStart => exact ⟨0, by omega, rfl, D5⟩
          case round =>
            obtain ⟨j, hj, rfl, hdj⟩ := hrel
            by_cases hj8 : j < 8
            · have HRD := Lib.hid (HS4.out.read hj8)
              have HRE := Lib.hid (HS3.out.read hj8)
              have hyy : sd.now.getD j [] = sc.now.getD j [] := by rw [HCC.out]
              rw [hyy] at HRD
              generalize hy : sc.now.getD j [] = y at HRD HRE
              clear hyy hy
              have j0 : decide ((j : Int) < 8) = true := by simp; omega
              go_wp2_with fail
              refine (ds_read hdj.out j _ HRD.out).mono ?_
              rintro en w6 ⟨g6, rfl, hly, h⟩
              have D6 := Lib.hid (h.perm (.swap _ _ _))
              have HLY := Lib.hid hly
              clear h hly hdj
              dsimp only
              go_wp2_with fail
              refine (ds_read D6.out j _ HRE.out).mono ?_
              rintro en w7 ⟨g7, rfl, _, h⟩
              have D7 := Lib.hid (h.perm (.swap _ _ _))
              have s6 := (h.blk (.tail _ (.head _))).strAll HLY.out (by omega)
              have s7 := (h.blk (.head _)).strAll HLY.out (by omega)
              have tyy : (y == y) = true := by simp
              have tyn : (y != y) = false := by simp
              clear h D6
              dsimp only
              go_wp2
              go_roundw
              case rel => exact ⟨j + 1, by omega, by go_num, Lib.hid (D7.out.sub (fun b hb => by cases hb))⟩
              case measure => simp [intOf]; omega
            · have j0 : decide ((j : Int) < 8) = false := by simp; omega
              go_wp2_with fail
              refine (awake5_any _).mono ?_
              rintro en w8 ⟨rfl, hb⟩
              have D8 := Lib.hid (hdj.out.below hb)
              go_wp2
              go_ret
              exact ⟨rfl, D8.out.bel⟩
        · have t40 : decide ((40 : Int) ≤ (k : Int)) = false := by simp; omega
          by_cases h1 : dd = 1
          · subst h1
            obtain ⟨e1, hs2⟩ := hs.out.flush
            have E1 := Lib.hid e1
            have HS2 := Lib.hid hs2
            clear e1 hs2
            go_wp2_with fail
            refine (ds_flush D2.out (by have := hs.out.ops; omega)).mono ?_
            rw [E1.out]
            rintro en w5 ⟨rfl, h⟩
            have D3 := Lib.hid h
            clear h D2
            go_wp2
            go_roundw
            case rel => exact ⟨k + 1, _, by omega, by omega, by go_num, HS2, Lib.hid (D3.out.sub (fun b hb => by cases hb))⟩
            case measure => simp [intOf]; omega
          · have t1 : (dd == 1) = false := beq_eq_false_iff_ne.2 h1
            obtain ⟨j, hj, hj8⟩ := and7 ii
            obtain ⟨b, hb⟩ : ∃ b, secI raw x = b := ⟨_, rfl⟩
            have hbl : b.length = 64 := by rw [← hb]; exact secI_len _ _
            obtain ⟨e1, hs2⟩ := hs.out.write hj8 hbl
            have E1 := Lib.hid e1
            have HS2 := Lib.hid hs2
            have HB := Lib.hid hb
            have HBL := Lib.hid hbl
            clear h1 e1 hs2 hb hbl
            go_upto_region 8 with fail
            have hkq := (D2.out.blk (.head _))
            have HKQ : Hid (Blk (wr.alloc (.cells #[.int .i64 dd, .int .i64 ii, .slice Ab raw.length cb, .int .u8 (x.toNat : Int), .bool odd] 39)) wr.heap.size 39 [.int .i64 dd, .int .i64 ii, .slice Ab raw.length cb, .int .u8 (x.toNat : Int), .bool odd]) := Lib.hid hkq
            clear hkq
            refine wp_region_held_drew (S := (fun w' => Blk w' wr.heap.size 39 [.int .i64 dd, .int .i64 ii, .slice Ab raw.length cb, .int .u8 (x.toNat : Int), .bool odd])) (by kernel_rfl) (HKQ.out.drew) (fun hHeld => ?_)
            refine' wpAnyH_take (i := 0) (v := _) rfl (by kernel_rfl) (by kernel_rfl) (by kernel_rfl) (fun _ _ _ h => h) (Or.inl ⟨by rfl, ?taq1⟩) (by assumption) ?tbq1
            case taq1 =>
              intro wS hSw
              (try dsimp only at hSw)
              (have m1 := hSw.cell 1; have m2 := hSw.cell 2; have m3 := hSw.cell 3; simp only [List.getElem?_cons_zero, List.getElem?_cons_succ] at m1 m2 m3; clear hSw; go_simp)
              (try (with_reducible rfl))
            (try simp only [List.getElem_toArray, List.getElem_cons_zero, List.getElem_cons_succ, Act.put, List.setIfInBounds_toArray, List.set_cons_zero, List.set_cons_succ])
            refine' wpAnyH_take (i := 1) (v := _) rfl (by kernel_rfl) (by kernel_rfl) (by kernel_rfl) (fun _ _ _ h => h) (Or.inl ⟨by rfl, ?taq2⟩) (by assumption) ?tbq2
            case taq2 =>
              intro wS hSw
              (try dsimp only at hSw)
              (have m1 := hSw.cell 1; have m2 := hSw.cell 2; have m3 := hSw.cell 3; simp only [List.getElem?_cons_zero, List.getElem?_cons_succ] at m1 m2 m3; clear hSw; go_simp)
              (try (with_reducible rfl))
            (try simp only [List.getElem_toArray, List.getElem_cons_zero, List.getElem_cons_succ, Act.put, List.setIfInBounds_toArray, List.set_cons_zero, List.set_cons_succ])
            refine' wpAnyH_take (i := 2) (v := _) rfl (by kernel_rfl) (by kernel_rfl) (by kernel_rfl) (fun _ _ _ h => h) (Or.inl ⟨by rfl, ?taq3⟩) (by assumption) ?tbq3
            case taq3 =>
              intro wS hSw
              (try dsimp only at hSw)
              (have m1 := hSw.cell 1; have m2 := hSw.cell 2; have m3 := hSw.cell 3; simp only [List.getElem?_cons_zero, List.getElem?_cons_succ] at m1 m2 m3; clear hSw; go_simp)
              (try (with_reducible rfl))
            (try simp only [List.getElem_toArray, List.getElem_cons_zero, List.getElem_cons_succ, Act.put, List.setIfInBounds_toArray, List.set_cons_zero, List.set_cons_succ])
            refine' wpAnyH_take (i := 3) (v := _) rfl (by kernel_rfl) (by kernel_rfl) (by kernel_rfl) (fun _ _ _ h => h) (Or.inl ⟨by rfl, ?taq4⟩) (by assumption) ?tbq4
            case taq4 =>
              intro wS hSw
              (try dsimp only at hSw)
              (have m1 := hSw.cell 1; have m2 := hSw.cell 2; have m3 := hSw.cell 3; simp only [List.getElem?_cons_zero, List.getElem?_cons_succ] at m1 m2 m3; clear hSw; go_simp)
              (try (with_reducible rfl))
            (try simp only [List.getElem_toArray, List.getElem_cons_zero, List.getElem_cons_succ, Act.put, List.setIfInBounds_toArray, List.set_cons_zero, List.set_cons_succ])
            refine' wpAnyH_take (i := 4) (v := _) rfl (by kernel_rfl) (by kernel_rfl) (by kernel_rfl) (fun _ _ _ h => h) (Or.inl ⟨by rfl, ?taq5⟩) (by assumption) ?tbq5
            case taq5 =>
              intro wS hSw
              (try dsimp only at hSw)
              (have m1 := hSw.cell 1; have m2 := hSw.cell 2; have m3 := hSw.cell 3; simp only [List.getElem?_cons_zero, List.getElem?_cons_succ] at m1 m2 m3; clear hSw; go_simp)
              (try (with_reducible rfl))
            (try simp only [List.getElem_toArray, List.getElem_cons_zero, List.getElem_cons_succ, Act.put, List.setIfInBounds_toArray, List.set_cons_zero, List.set_cons_succ])
            refine' wpAnyH_take (i := 5) (v := _) rfl (by kernel_rfl) (by kernel_rfl) (by kernel_rfl) (fun _ _ _ h => h) (Or.inl ⟨by rfl, ?taq6⟩) (by assumption) ?tbq6
            case taq6 =>
              intro wS hSw
              (try dsimp only at hSw)
              (have m1 := hSw.cell 1; have m2 := hSw.cell 2; have m3 := hSw.cell 3; simp only [List.getElem?_cons_zero, List.getElem?_cons_succ] at m1 m2 m3; clear hSw; go_simp)
              (try (with_reducible rfl))
            (try simp only [List.getElem_toArray, List.getElem_cons_zero, List.getElem_cons_succ, Act.put, List.setIfInBounds_toArray, List.set_cons_zero, List.set_cons_succ])
            refine' wpAnyH_take (i := 6) (v := _) rfl (by kernel_rfl) (by kernel_rfl) (by kernel_rfl) (fun _ _ _ h => h) (Or.inl ⟨by rfl, ?taq7⟩) (by assumption) ?tbq7
            case taq7 =>
              intro wS hSw
              (try dsimp only at hSw)
              (have m1 := hSw.cell 1; have m2 := hSw.cell 2; have m3 := hSw.cell 3; simp only [List.getElem?_cons_zero, List.getElem?_cons_succ] at m1 m2 m3; clear hSw; go_simp)
              (try (with_reducible rfl))
            (try simp only [List.getElem_toArray, List.getElem_cons_zero, List.getElem_cons_succ, Act.put, List.setIfInBounds_toArray, List.set_cons_zero, List.set_cons_succ])
            refine' wpAnyH_take (i := 7) (v := _) rfl (by kernel_rfl) (by kernel_rfl) (by kernel_rfl) (fun _ _ _ h => h) (Or.inl ⟨by rfl, ?taq8⟩) (by assumption) ?tbq8
            case taq8 =>
              intro wS hSw
              (try dsimp only at hSw)
              (have m1 := hSw.cell 1; have m2 := hSw.cell 2; have m3 := hSw.cell 3; simp only [List.getElem?_cons_zero, List.getElem?_cons_succ] at m1 m2 m3; clear hSw; go_simp)
              (try (with_reducible rfl))
            (try simp only [List.getElem_toArray, List.getElem_cons_zero, List.getElem_cons_succ, Act.put, List.setIfInBounds_toArray, List.set_cons_zero, List.set_cons_succ])
            refine wpAnyH_ready (rs := [8]) (by kernel_rfl) (by simp) ?_
            refine AllReadyH.cons rfl (fun K9 hK9 => ?_) AllReadyH.nil
            (try simp only [List.getElem_toArray, List.getElem_cons_zero, List.getElem_cons_succ])
            go_simp
            refine (ds_sector D2.out.drew _ raw (.inl HRAW.out) x _ rfl).mono ?_
            rintro en w5 ⟨g5, rfl, h⟩
            have D5 := Lib.hid h
            clear h
            refine hK9.out _ _ ((D5.out.blk (.tail _ (.head _)))) (fun hHeld9 => ?_)
            clear hK9 K9
            (try simp only [List.getElem_toArray, List.getElem_cons_zero, List.getElem_cons_succ, Act.put, List.setIfInBounds_toArray, List.set_cons_zero, List.set_cons_succ])
            refine wpAnyH_ready (rs := [9]) (by kernel_rfl) (by simp) ?_
            refine AllReadyH.cons rfl (fun K9 hK9 => ?_) AllReadyH.nil
            (try simp only [List.getElem_toArray, List.getElem_cons_zero, List.getElem_cons_succ])
            go_simp
            rw [HB.out] at D5
            refine (ds_write D5.out (by have := hs.out.ops; omega) j _ b (.inr ⟨g5, _, 64, rfl, HBL.out, by omega, .head _⟩)).mono ?_
            rw [E1.out]
            rintro en w6 ⟨rfl, h⟩
            have D6 := Lib.hid h
            clear h
            refine hK9.out _ _ ((D6.out.blk (.tail _ (.head _)))) (fun hHeld9 => ?_)
            clear hK9 K9
            (try simp only [List.getElem_toArray, List.getElem_cons_zero, List.getElem_cons_succ, Act.put, List.setIfInBounds_toArray, List.set_cons_zero, List.set_cons_succ])
            refine wpAnyH_done (by kernel_rfl) ?_ _
            go_wp2
            go_roundw
            case rel => exact ⟨k + 1, _, by omega, by omega, by go_num, HS2, Lib.hid (D6.out.sub (fun b hb => by cases hb))⟩
            case measure => simp [intOf]; omega
    · have DD := hds
      go_wp2_with fail
      refine (ds_crash DD.out _ a1 (.inl R1.out)).mono ?_
      rintro en w2 ⟨rfl, h⟩
      have D3 := Lib.hid h
      have HS3 := Lib.hid (hs.out.crash a1)
      have HCC : Hid (((s.crash a1).crash a2).now = (s.crash a1).now) := Lib.hid rfl
      have HS4 := Lib.hid ((hs.out.crash a1).crash a2)
      clear h
      generalize hsc : s.crash a1 = sc at D3 HS3 HCC HS4
      clear hsc
      go_wp2_with fail
      refine (ds_copy D3.out (by have := HS3.out.ops; omega)).mono ?_
      rintro en w3 ⟨q, rfl, h⟩
      have D4 := Lib.hid (h.perm (.swap _ _ _))
      clear h
      go_wp2_with fail
      refine (ds_crash D4.out _ a2 (.inl R2.out)).mono ?_
      rintro en w4 ⟨rfl, h⟩
      have D5 := Lib.hid h
      generalize hsd : sc.crash a2 = sd at D5 HCC HS4
      clear h hsd DD hds
      go_wp2
      go_loopw [52] (fun i wr => ∃ (k : Nat), k ≤ 8 ∧ i = .int .i64 k ∧ Hid (DS w wr [(d, sd), (q, sc)] [])) (fun i _ => 8 - (intOf i).toNat)
      case atStart => exact ⟨0, by omega, rfl, D5⟩
      case round =>
        obtain ⟨j, hj, rfl, hdj⟩ := hrel
        by_cases hj8 : j < 8
        · have HRD := Lib.hid (HS4.out.read hj8)
          have HRE := Lib.hid (HS3.out.read hj8)
          have hyy : sd.now.getD j [] = sc.now.getD j [] := by rw [HCC.out]
          rw [hyy] at HRD
          generalize hy : sc.now.getD j [] = y at HRD HRE
          clear hyy hy
          have j0 : decide ((j : Int) < 8) = true := by simp; omega
          go_wp2_with fail
          refine (ds_read hdj.out j _ HRD.out).mono ?_
          rintro en w6 ⟨g6, rfl, hly, h⟩
          have D6 := Lib.hid (h.perm (.swap _ _ _))
          have HLY := Lib.hid hly
          clear h hly hdj
          dsimp only
          go_wp2_with fail
          refine (ds_read D6.out j _ HRE.out).mono ?_
          rintro en w7 ⟨g7, rfl, _, h⟩
          have D7 := Lib.hid (h.perm (.swap _ _ _))
          have s6 := (h.blk (.tail _ (.head _))).strAll HLY.out (by omega)
          have s7 := (h.blk (.head _)).strAll HLY.out (by omega)
          have tyy : (y == y) = true := by simp
          have tyn : (y != y) = false := by simp
          clear h D6
          dsimp only
          go_wp2
          go_roundw
          case rel => exact ⟨j + 1, by omega, by go_num, Lib.hid (D7.out.sub (fun b hb => by cases hb))⟩
          case measure => simp [intOf]; omega
        · have j0 : decide ((j : Int) < 8) = false := by simp; omega
          go_wp2_with fail
          refine (awake5_any _).mono ?_
          rintro en w8 ⟨rfl, hb⟩
          have D8 := Lib.hid (hdj.out.below hb)
          go_wp2
          go_ret
          exact ⟨rfl, D8.out.bel⟩
end Go.Proofs.Ytcgmgogkfhlgpaa
