/- The walk of SectorFuse. -/
import Derived.Test.YtcgmgogkfhlgpaaAwake5
import Derived.Test.YtcgmgogkfhlgpaaOpen5
import Derived.Test.YtcgmgogkfhlgpaaSecLoopP
namespace Go.Proofs.Ytcgmgogkfhlgpaa
open Go.RowKit
set_option linter.unusedVariables false

theorem conv_mod20 (a : Int) : ∃ k : Nat, wrap64 (1 + wrap64 ((IntKind.u64.wrap a).tmod 20)) = k ∧ 1 ≤ k ∧ k ≤ 20 := by
  have hu : 0 ≤ IntKind.u64.wrap a := by rw [IntKind.wrap_u64]; omega
  have ht : (IntKind.u64.wrap a).tmod 20 = (IntKind.u64.wrap a) % 20 := Int.tmod_eq_emod_of_nonneg hu
  have h2 := Int.emod_nonneg (IntKind.u64.wrap a) (show (20 : Int) ≠ 0 by omega)
  have h3 := Int.emod_lt_of_pos (IntKind.u64.wrap a) (show (0 : Int) < 20 by omega)
  rw [ht]
  generalize (IntKind.u64.wrap a) % 20 = x at h2 h3
  refine ⟨(1 + x).toNat, ?_, by omega, by omega⟩
  unfold wrap64
  omega
set_option maxHeartbeats 12800000 in
set_option maxRecDepth 100000 in
theorem sectorFuse_walk (a0 : Int) (v1 : Value) (l : List CallV) (w : World) (w0 : (Lit.int .i64 a0).wf = true) (o1 : CallsOf w v1 l) :
    Calls Try.prog 4 #[.int .i64 a0, v1] w fun en w' => en = .returned (.bool true) ∧ Below w.heap.size w w' := by
  obtain ⟨A0, c0, rfl⟩ := o1.form
  have hlen := o1.len
  have HL := Lib.hid o1
  clear o1 w0
  go_enter Try.func4, Try.ntmps4
  go_upto_region 2 with fail
  obtain ⟨n, hn, n1, n2⟩ := conv_mod20 a0
  rw [hn]
  clear hn
  go_wp2_with fail
  refine (ds_new (DS.start w) 8 8 (by decide)).mono ?_
  rintro en w1 ⟨d, rfl, h⟩
  have D1 := Lib.hid h
  clear h
  go_wp2_with fail
  refine (ds_fuse D1.out (by decide) n ⟨by omega, by omega⟩).mono ?_
  rintro en w2 ⟨rfl, h⟩
  have D2 := Lib.hid h
  have HS2 := Lib.hid (F8.new n1 n2)
  generalize (Dk.new 8).fused n = s2 at D2 HS2
  clear h D1
  go_wp2
  go_loopw [23, 6] (fun i kk wr => ∃ (k : Nat) (s : Dk), k ≤ l.length ∧ k ≤ 40 ∧ i = .int .i64 k ∧ kk = .int .i64 k ∧ Hid (F8 n k s) ∧ Hid (DS w wr [(d, s)] [])) (fun i _ _ => l.length - (intOf i).toNat)
  case atStart => exact ⟨0, s2, by omega, by omega, rfl, rfl, HS2, D2⟩
  case round =>
    obtain ⟨k, s, hk, hk4, rfl, rfl, hs, hds⟩ := hrel
    clear D2 HS2
    by_cases hlt : k < l.length
    ·   obtain ⟨g, o, c, e, e1, hlk, hok, hg, q0, q1, q2, q3, q4⟩ := HL.out.at_ hlt
        injection e1 with e1 _ e3
        subst e1 e3
        have hbel := hds.out.bel
        have r0 := (hbel.cell (p := ⟨g, o + k * 5, none⟩) hg).trans q0
        have r1 := (hbel.cell (p := ⟨g, o + k * 5 + 1, none⟩) hg).trans q1
        have r2 := (hbel.cell (p := ⟨g, o + k * 5 + 2, none⟩) hg).trans q2
        have r3 := (hbel.cell (p := ⟨g, o + k * 5 + 3, none⟩) hg).trans q3
        have r4 := (hbel.cell (p := ⟨g, o + k * 5 + 4, none⟩) hg).trans q4
        obtain ⟨dd, ii, bv, raw, x, odd⟩ := e
        obtain ⟨_, _, hraw, _⟩ := hok
        simp only at r0 r1 r2 r3 r4 hraw
        obtain ⟨Ab, cb, rfl, _, _⟩ := hraw.form
        rw [length_bytesV] at hraw r2
        have HRAW := Lib.hid hraw
        have D2 := Lib.hid (hds.out.more (g := wr.heap.size) (t := 39) (cs := [.int .i64 dd, .int .i64 ii, .slice Ab raw.length cb, .int .u8 (x.toNat : Int), .bool odd]) ((Below.refl _ wr).alloc (Nat.le_refl _) (.cells #[.int .i64 dd, .int .i64 ii, .slice Ab raw.length cb, .int .u8 (x.toNat : Int), .bool odd] 39)) (Nat.le_refl _) (Blk.fresh wr _ _))
        have i0 : (0 : Int) ≤ (k : Int) := by omega
        have i1 : (k : Int) < (l.length : Int) := by omega
        clear hbel q0 q1 q2 q3 q4 hlk hraw hds
        by_cases h40 : 40 ≤ k
        · have t40 : decide ((40 : Int) ≤ (k : Int)) = true := by simp; omega
          have DD := Lib.hid (D2.out.sub (bs' := []) (fun b hb => by cases hb))
          go_wp2_with fail
          refine (ds_crash DD.out (.slice none 0 0) [] (.inl (Reads.nil_ _ _))).mono ?_
          rintro en w2 ⟨rfl, h⟩
          have D3 := Lib.hid h
          have hok3 := Dk.crash_ok hs.out.ok []
          have hup3 := Dk.up_crash s []
          have hln : (s.crash []).now.length = 8 := by
            have := crashI_ok s.log [] s.sure hs.out.ok.log ⟨hs.out.ok.len, hs.out.ok.sure⟩
            show (crashI s.log [] s.sure).length = 8
            rw [this.1, hs.out.len]
          have HRD := Lib.hid (Dk.up_read (k := 0) hup3 (by omega))
          have HFL := Lib.hid (Dk.up_flush hok3 hup3)
          have HDN := Lib.hid hup3.2
          have HOPS : Hid ((s.crash []).ops ≤ 40) := Lib.hid (by show s.ops ≤ 40; rw [hs.out.ops]; omega)
          generalize s.crash [] = sc at D3 HRD HFL HDN HOPS
          clear h hok3 hup3 hln D2 DD
          go_wp2_with fail
          refine (ds_read D3.out 0 _ HRD.out).mono ?_
          rintro en w3 ⟨g3, rfl, _, h⟩
          have D4 := Lib.hid h
          clear h
          dsimp only
          go_wp2_with fail
          refine (ds_down D4.out).mono ?_
          rw [HDN.out]
          rintro en w4 ⟨rfl, rfl⟩
          go_wp2_with fail
          refine (ds_flush D4.out (by have := HOPS.out; omega)).mono ?_
          rw [HFL.out]
          rintro en w5 ⟨rfl, h⟩
          have D5 := Lib.hid h
          clear h
          go_wp2_with fail
          refine (awake5_any _).mono ?_
          rintro en w8 ⟨rfl, hb⟩
          have D8 := Lib.hid (D5.out.below hb)
          go_wp2
          go_ret
          exact ⟨rfl, D8.out.bel⟩
        · have t40 : decide ((40 : Int) ≤ (k : Int)) = false := by simp; omega
          by_cases h1 : dd = 1
          · subst h1
            obtain ⟨s', hs2, e1⟩ := hs.out.flush
            have E1 := Lib.hid e1
            have HS2 := Lib.hid hs2
            clear e1 hs2
            have HOP : Hid (s'.ops = (k : Int) + 1) := Lib.hid (by rw [HS2.out.ops]; rfl)
            by_cases hnk : n ≤ k + 1
            · have HDN : Hid (s'.down = true) := Lib.hid (by rw [HS2.out.down]; simpa using hnk)
              have u1 : decide ((k : Int) + 1 < (n : Int)) = false := by simp; omega
              have u2 : decide ((n : Int) ≤ (k : Int) + 1) = true := by simp; omega
              rw [if_pos hnk] at E1
              clear hnk
              go_wp2_with fail
              refine (ds_flush D2.out (by rw [hs.out.ops]; omega)).mono ?_
              rw [E1.out]
              rintro en w5 ⟨rfl, h⟩
              have D3 := Lib.hid h
              clear h D2
              go_wp2_with fail
              refine (ds_down D3.out).mono ?_
              rw [HDN.out]
              rintro en w6 ⟨rfl, rfl⟩
              go_wp2_with fail
              refine (ds_ops D3.out).mono ?_
              rw [HOP.out]
              rintro en w7 ⟨rfl, rfl⟩
              go_wp2
              go_roundw
              case rel => exact ⟨k + 1, _, by omega, by omega, by go_num, by go_num, HS2, Lib.hid (D3.out.sub (fun b hb => by cases hb))⟩
              case measure => simp [intOf]; omega
            · have HDN : Hid (s'.down = false) := Lib.hid (by rw [HS2.out.down]; simp; omega)
              have u1 : decide ((k : Int) + 1 < (n : Int)) = true := by simp; omega
              have u2 : decide ((n : Int) ≤ (k : Int) + 1) = false := by simp; omega
              rw [if_neg hnk] at E1
              clear hnk
              go_wp2_with fail
              refine (ds_flush D2.out (by rw [hs.out.ops]; omega)).mono ?_
              rw [E1.out]
              rintro en w5 ⟨rfl, h⟩
              have D3 := Lib.hid h
              clear h D2
              go_wp2_with fail
              refine (ds_down D3.out).mono ?_
              rw [HDN.out]
              rintro en w6 ⟨rfl, rfl⟩
              go_wp2_with fail
              refine (ds_ops D3.out).mono ?_
              rw [HOP.out]
              rintro en w7 ⟨rfl, rfl⟩
              go_wp2
              go_roundw
              case rel => exact ⟨k + 1, _, by omega, by omega, by go_num, by go_num, HS2, Lib.hid (D3.out.sub (fun b hb => by cases hb))⟩
              case measure => simp [intOf]; omega
          · have t1 : (dd == 1) = false := beq_eq_false_iff_ne.2 h1
            obtain ⟨j, hj, hj8⟩ := and7 ii
            obtain ⟨b, hb⟩ : ∃ b, secI raw x = b := ⟨_, rfl⟩
            have hbl : b.length = 64 := by rw [← hb]; exact secI_len _ _
            obtain ⟨s', hs2, e1⟩ := hs.out.write hj8 hbl
            have E1 := Lib.hid e1
            have HS2 := Lib.hid hs2
            have HB := Lib.hid hb
            have HBL := Lib.hid hbl
            clear h1 e1 hs2 hb hbl
            have HOP : Hid (s'.ops = (k : Int) + 1) := Lib.hid (by rw [HS2.out.ops]; rfl)
            by_cases hnk : n ≤ k + 1
            · have HDN : Hid (s'.down = true) := Lib.hid (by rw [HS2.out.down]; simpa using hnk)
              have u1 : decide ((k : Int) + 1 < (n : Int)) = false := by simp; omega
              have u2 : decide ((n : Int) ≤ (k : Int) + 1) = true := by simp; omega
              rw [if_pos hnk] at E1
              clear hnk
              go_upto_region 12 with fail
              have hkq := (D2.out.blk (.head _))
              have HKQ : Hid (Blk (wr.alloc (.cells #[.int .i64 dd, .int .i64 ii, .slice Ab raw.length cb, .int .u8 (x.toNat : Int), .bool odd] 39)) wr.heap.size 39 [.int .i64 dd, .int .i64 ii, .slice Ab raw.length cb, .int .u8 (x.toNat : Int), .bool odd]) := Lib.hid hkq
              clear hkq
              refine wp_region_held_drew (S := (fun w' => Blk w' wr.heap.size 39 [.int .i64 dd, .int .i64 ii, .slice Ab raw.length cb, .int .u8 (x.toNat : Int), .bool odd])) (by kernel_rfl) (HKQ.out.drew) (fun hHeld => ?_)
              refine' wpAnyH_take (i := 0) (v := _) rfl (by kernel_rfl) (by kernel_rfl) (by kernel_rfl) (fun _ _ _ h => h) (Or.inl ⟨by rfl, ?taq9⟩) (by assumption) ?tbq9
              case taq9 =>
                intro wS hSw
                (try dsimp only at hSw)
                (have m1 := hSw.cell 1; have m2 := hSw.cell 2; have m3 := hSw.cell 3; simp only [List.getElem?_cons_zero, List.getElem?_cons_succ] at m1 m2 m3; clear hSw; go_simp)
                (try (with_reducible rfl))
              (try simp only [List.getElem_toArray, List.getElem_cons_zero, List.getElem_cons_succ, Act.put, List.setIfInBounds_toArray, List.set_cons_zero, List.set_cons_succ])
              refine' wpAnyH_take (i := 1) (v := _) rfl (by kernel_rfl) (by kernel_rfl) (by kernel_rfl) (fun _ _ _ h => h) (Or.inl ⟨by rfl, ?taq10⟩) (by assumption) ?tbq10
              case taq10 =>
                intro wS hSw
                (try dsimp only at hSw)
                (have m1 := hSw.cell 1; have m2 := hSw.cell 2; have m3 := hSw.cell 3; simp only [List.getElem?_cons_zero, List.getElem?_cons_succ] at m1 m2 m3; clear hSw; go_simp)
                (try (with_reducible rfl))
              (try simp only [List.getElem_toArray, List.getElem_cons_zero, List.getElem_cons_succ, Act.put, List.setIfInBounds_toArray, List.set_cons_zero, List.set_cons_succ])
              refine' wpAnyH_take (i := 2) (v := _) rfl (by kernel_rfl) (by kernel_rfl) (by kernel_rfl) (fun _ _ _ h => h) (Or.inl ⟨by rfl, ?taq11⟩) (by assumption) ?tbq11
              case taq11 =>
                intro wS hSw
                (try dsimp only at hSw)
                (have m1 := hSw.cell 1; have m2 := hSw.cell 2; have m3 := hSw.cell 3; simp only [List.getElem?_cons_zero, List.getElem?_cons_succ] at m1 m2 m3; clear hSw; go_simp)
                (try (with_reducible rfl))
              (try simp only [List.getElem_toArray, List.getElem_cons_zero, List.getElem_cons_succ, Act.put, List.setIfInBounds_toArray, List.set_cons_zero, List.set_cons_succ])
              refine' wpAnyH_take (i := 3) (v := _) rfl (by kernel_rfl) (by kernel_rfl) (by kernel_rfl) (fun _ _ _ h => h) (Or.inl ⟨by rfl, ?taq12⟩) (by assumption) ?tbq12
              case taq12 =>
                intro wS hSw
                (try dsimp only at hSw)
                (have m1 := hSw.cell 1; have m2 := hSw.cell 2; have m3 := hSw.cell 3; simp only [List.getElem?_cons_zero, List.getElem?_cons_succ] at m1 m2 m3; clear hSw; go_simp)
                (try (with_reducible rfl))
              (try simp only [List.getElem_toArray, List.getElem_cons_zero, List.getElem_cons_succ, Act.put, List.setIfInBounds_toArray, List.set_cons_zero, List.set_cons_succ])
              refine' wpAnyH_take (i := 4) (v := _) rfl (by kernel_rfl) (by kernel_rfl) (by kernel_rfl) (fun _ _ _ h => h) (Or.inl ⟨by rfl, ?taq13⟩) (by assumption) ?tbq13
              case taq13 =>
                intro wS hSw
                (try dsimp only at hSw)
                (have m1 := hSw.cell 1; have m2 := hSw.cell 2; have m3 := hSw.cell 3; simp only [List.getElem?_cons_zero, List.getElem?_cons_succ] at m1 m2 m3; clear hSw; go_simp)
                (try (with_reducible rfl))
              (try simp only [List.getElem_toArray, List.getElem_cons_zero, List.getElem_cons_succ, Act.put, List.setIfInBounds_toArray, List.set_cons_zero, List.set_cons_succ])
              refine' wpAnyH_take (i := 5) (v := _) rfl (by kernel_rfl) (by kernel_rfl) (by kernel_rfl) (fun _ _ _ h => h) (Or.inl ⟨by rfl, ?taq14⟩) (by assumption) ?tbq14
              case taq14 =>
                intro wS hSw
                (try dsimp only at hSw)
                (have m1 := hSw.cell 1; have m2 := hSw.cell 2; have m3 := hSw.cell 3; simp only [List.getElem?_cons_zero, List.getElem?_cons_succ] at m1 m2 m3; clear hSw; go_simp)
                (try (with_reducible rfl))
              (try simp only [List.getElem_toArray, List.getElem_cons_zero, List.getElem_cons_succ, Act.put, List.setIfInBounds_toArray, List.set_cons_zero, List.set_cons_succ])
              refine' wpAnyH_take (i := 6) (v := _) rfl (by kernel_rfl) (by kernel_rfl) (by kernel_rfl) (fun _ _ _ h => h) (Or.inl ⟨by rfl, ?taq15⟩) (by assumption) ?tbq15
              case taq15 =>
                intro wS hSw
                (try dsimp only at hSw)
                (have m1 := hSw.cell 1; have m2 := hSw.cell 2; have m3 := hSw.cell 3; simp only [List.getElem?_cons_zero, List.getElem?_cons_succ] at m1 m2 m3; clear hSw; go_simp)
                (try (with_reducible rfl))
              (try simp only [List.getElem_toArray, List.getElem_cons_zero, List.getElem_cons_succ, Act.put, List.setIfInBounds_toArray, List.set_cons_zero, List.set_cons_succ])
              refine' wpAnyH_take (i := 7) (v := _) rfl (by kernel_rfl) (by kernel_rfl) (by kernel_rfl) (fun _ _ _ h => h) (Or.inl ⟨by rfl, ?taq16⟩) (by assumption) ?tbq16
              case taq16 =>
                intro wS hSw
                (try dsimp only at hSw)
                (have m1 := hSw.cell 1; have m2 := hSw.cell 2; have m3 := hSw.cell 3; simp only [List.getElem?_cons_zero, List.getElem?_cons_succ] at m1 m2 m3; clear hSw; go_simp)
                (try (with_reducible rfl))
              (try simp only [List.getElem_toArray, List.getElem_cons_zero, List.getElem_cons_succ, Act.put, List.setIfInBounds_toArray, List.set_cons_zero, List.set_cons_succ])
              refine wpAnyH_ready (rs := [8]) (by kernel_rfl) (by simp) ?_
              refine AllReadyH.cons rfl (fun K9 hK9 => ?_) AllReadyH.nil
              (try simp only [List.getElem_toArray, List.getElem_cons_zero, List.getElem_cons_succ])
              go_simp
              refine (ds_sector D2.out.drew _ raw (.inl HRAW.out) x _ rfl).mono ?_
              rintro en w5 ⟨g5, rfl, h⟩
              have D5 := Lib.hid h
              clear h
              refine hK9.out _ _ ((D5.out.blk (.tail _ (.head _)))) (fun hHeld9 => ?_)
              clear hK9 K9
              (try simp only [List.getElem_toArray, List.getElem_cons_zero, List.getElem_cons_succ, Act.put, List.setIfInBounds_toArray, List.set_cons_zero, List.set_cons_succ])
              refine wpAnyH_ready (rs := [9]) (by kernel_rfl) (by simp) ?_
              refine AllReadyH.cons rfl (fun K9 hK9 => ?_) AllReadyH.nil
              (try simp only [List.getElem_toArray, List.getElem_cons_zero, List.getElem_cons_succ])
              go_simp
              rw [HB.out] at D5
              refine (ds_write D5.out (by rw [hs.out.ops]; omega) j _ b (.inr ⟨g5, _, 64, rfl, HBL.out, by omega, .head _⟩)).mono ?_
              rw [E1.out]
              rintro en w6 ⟨rfl, h⟩
              have D6 := Lib.hid h
              clear h
              refine hK9.out _ _ ((D6.out.blk (.tail _ (.head _)))) (fun hHeld9 => ?_)
              clear hK9 K9
              (try simp only [List.getElem_toArray, List.getElem_cons_zero, List.getElem_cons_succ, Act.put, List.setIfInBounds_toArray, List.set_cons_zero, List.set_cons_succ])
              refine' wpAnyH_take (i := 10) (v := _) rfl (by kernel_rfl) (by kernel_rfl) (by kernel_rfl) (fun _ _ _ h => h) (Or.inl ⟨by rfl, ?taq17⟩) (by assumption) ?tbq17
              case taq17 =>
                intro wS hSw
                (try dsimp only at hSw)
                go_simp
                (try (with_reducible rfl))
              (try simp only [List.getElem_toArray, List.getElem_cons_zero, List.getElem_cons_succ, Act.put, List.setIfInBounds_toArray, List.set_cons_zero, List.set_cons_succ])
              refine wpAnyH_done (by kernel_rfl) ?_ _
              have D3 := D6
              clear D6 D5 D2
              go_wp2_with fail
              refine (ds_down D3.out).mono ?_
              rw [HDN.out]
              rintro en w6 ⟨rfl, rfl⟩
              go_wp2_with fail
              refine (ds_ops D3.out).mono ?_
              rw [HOP.out]
              rintro en w7 ⟨rfl, rfl⟩
              go_wp2
              go_roundw
              case rel => exact ⟨k + 1, _, by omega, by omega, by go_num, by go_num, HS2, Lib.hid (D3.out.sub (fun b hb => by cases hb))⟩
              case measure => simp [intOf]; omega
            · have HDN : Hid (s'.down = false) := Lib.hid (by rw [HS2.out.down]; simp; omega)
              have u1 : decide ((k : Int) + 1 < (n : Int)) = true := by simp; omega
              have u2 : decide ((n : Int) ≤ (k : Int) + 1) = false := by simp; omega
              rw [if_neg hnk] at E1
              clear hnk
              go_upto_region 12 with fail
              have hkq := (D2.out.blk (.head _))
              have HKQ : Hid (Blk (wr.alloc (.cells #[.int .i64 dd, .int .i64 ii, .slice Ab raw.length cb, .int .u8 (x.toNat : Int), .bool odd] 39)) wr.heap.size 39 [.int .i64 dd, .int .i64 ii, .slice Ab raw.length cb, .int .u8 (x.toNat : Int), .bool odd]) := Lib.hid hkq
              clear hkq
              refine wp_region_held_drew (S := (fun w' => Blk w' wr.heap.size 39 [.int .i64 dd, .int .i64 ii, .slice Ab raw.length cb, .int .u8 (x.toNat : Int), .bool odd])) (by kernel_rfl) (HKQ.out.drew) (fun hHeld => ?_)
              refine' wpAnyH_take (i := 0) (v := _) rfl (by kernel_rfl) (by kernel_rfl) (by kernel_rfl) (fun _ _ _ h => h) (Or.inl ⟨by rfl, ?taq18⟩) (by assumption) ?tbq18
              case taq18 =>
                intro wS hSw
                (try dsimp only at hSw)
                (have m1 := hSw.cell 1; have m2 := hSw.cell 2; have m3 := hSw.cell 3; simp only [List.getElem?_cons_zero, List.getElem?_cons_succ] at m1 m2 m3; clear hSw; go_simp)
                (try (with_reducible rfl))
              (try simp only [List.getElem_toArray, List.getElem_cons_zero, List.getElem_cons_succ, Act.put, List.setIfInBounds_toArray, List.set_cons_zero, List.set_cons_succ])
              refine' wpAnyH_take (i := 1) (v := _) rfl (by kernel_rfl) (by kernel_rfl) (by kernel_rfl) (fun _ _ _ h => h) (Or.inl ⟨by rfl, ?taq19⟩) (by assumption) ?tbq19
              case taq19 =>
                intro wS hSw
                (try dsimp only at hSw)
                (have m1 := hSw.cell 1; have m2 := hSw.cell 2; have m3 := hSw.cell 3; simp only [List.getElem?_cons_zero, List.getElem?_cons_succ] at m1 m2 m3; clear hSw; go_simp)
                (try (with_reducible rfl))
              (try simp only [List.getElem_toArray, List.getElem_cons_zero, List.getElem_cons_succ, Act.put, List.setIfInBounds_toArray, List.set_cons_zero, List.set_cons_succ])
              refine' wpAnyH_take (i := 2) (v := _) rfl (by kernel_rfl) (by kernel_rfl) (by kernel_rfl) (fun _ _ _ h => h) (Or.inl ⟨by rfl, ?taq20⟩) (by assumption) ?tbq20
              case taq20 =>
                intro wS hSw
                (try dsimp only at hSw)
                (have m1 := hSw.cell 1; have m2 := hSw.cell 2; have m3 := hSw.cell 3; simp only [List.getElem?_cons_zero, List.getElem?_cons_succ] at m1 m2 m3; clear hSw; go_simp)
                (try (with_reducible rfl))
              (try simp only [List.getElem_toArray, List.getElem_cons_zero, List.getElem_cons_succ, Act.put, List.setIfInBounds_toArray, List.set_cons_zero, List.set_cons_succ])
              refine' wpAnyH_take (i := 3) (v := _) rfl (by kernel_rfl) (by kernel_rfl) (by kernel_rfl) (fun _ _ _ h => h) (Or.inl ⟨by rfl, ?taq21⟩) (by assumption) ?tbq21
              case taq21 =>
                intro wS hSw
                (try dsimp only at hSw)
                (have m1 := hSw.cell 1; have m2 := hSw.cell 2; have m3 := hSw.cell 3; simp only [List.getElem?_cons_zero, List.getElem?_cons_succ] at m1 m2 m3; clear hSw; go_simp)
                (try (with_reducible rfl))
              (try simp only [List.getElem_toArray, List.getElem_cons_zero, List.getElem_cons_succ, Act.put, List.setIfInBounds_toArray, List.set_cons_zero, List.set_cons_succ])
              refine' wpAnyH_take (i := 4) (v := _) rfl (by kernel_rfl) (by kernel_rfl) (by kernel_rfl) (fun _ _ _ h => h) (Or.inl ⟨by rfl, ?taq22⟩) (by assumption) ?tbq22
              case taq22 =>
                intro wS hSw
                (try dsimp only at hSw)
                (have m1 := hSw.cell 1; have m2 := hSw.cell 2; have m3 := hSw.cell 3; simp only [List.getElem?_cons_zero, List.getElem?_cons_succ] at m1 m2 m3; clear hSw; go_simp)
                (try (with_reducible rfl))
              (try simp only [List.getElem_toArray, List.getElem_cons_zero, List.getElem_cons_succ, Act.put, List.setIfInBounds_toArray, List.set_cons_zero, List.set_cons_succ])
              refine' wpAnyH_take (i := 5) (v := _) rfl (by kernel_rfl) (by kernel_rfl) (by kernel_rfl) (fun _ _ _ h => h) (Or.inl ⟨by rfl, ?taq23⟩) (by assumption) ?tbq23
              case taq23 =>
                intro wS hSw
                (try dsimp only at hSw)
                (have m1 := hSw.cell 1; have m2 := hSw.cell 2; have m3 := hSw.cell 3; simp only [List.getElem?_cons_zero, List.getElem?_cons_succ] at m1 m2 m3; clear hSw; go_simp)
                (try (with_reducible rfl))
              (try simp only [List.getElem_toArray, List.getElem_cons_zero, List.getElem_cons_succ, Act.put, List.setIfInBounds_toArray, List.set_cons_zero, List.set_cons_succ])
              refine' wpAnyH_take (i := 6) (v := _) rfl (by kernel_rfl) (by kernel_rfl) (by kernel_rfl) (fun _ _ _ h => h) (Or.inl ⟨by rfl, ?taq24⟩) (by assumption) ?tbq24
              case taq24 =>
                intro wS hSw
                (try dsimp only at hSw)
                (have m1 := hSw.cell 1; have m2 := hSw.cell 2; have m3 := hSw.cell 3; simp only [List.getElem?_cons_zero, List.getElem?_cons_succ] at m1 m2 m3; clear hSw; go_simp)
                (try (with_reducible rfl))
              (try simp only [List.getElem_toArray, List.getElem_cons_zero, List.getElem_cons_succ, Act.put, List.setIfInBounds_toArray, List.set_cons_zero, List.set_cons_succ])
              refine' wpAnyH_take (i := 7) (v := _) rfl (by kernel_rfl) (by kernel_rfl) (by kernel_rfl) (fun _ _ _ h => h) (Or.inl ⟨by rfl, ?taq25⟩) (by assumption) ?tbq25
              case taq25 =>
                intro wS hSw
                (try dsimp only at hSw)
                (have m1 := hSw.cell 1; have m2 := hSw.cell 2; have m3 := hSw.cell 3; simp only [List.getElem?_cons_zero, List.getElem?_cons_succ] at m1 m2 m3; clear hSw; go_simp)
                (try (with_reducible rfl))
              (try simp only [List.getElem_toArray, List.getElem_cons_zero, List.getElem_cons_succ, Act.put, List.setIfInBounds_toArray, List.set_cons_zero, List.set_cons_succ])
              refine wpAnyH_ready (rs := [8]) (by kernel_rfl) (by simp) ?_
              refine AllReadyH.cons rfl (fun K9 hK9 => ?_) AllReadyH.nil
              (try simp only [List.getElem_toArray, List.getElem_cons_zero, List.getElem_cons_succ])
              go_simp
              refine (ds_sector D2.out.drew _ raw (.inl HRAW.out) x _ rfl).mono ?_
              rintro en w5 ⟨g5, rfl, h⟩
              have D5 := Lib.hid h
              clear h
              refine hK9.out _ _ ((D5.out.blk (.tail _ (.head _)))) (fun hHeld9 => ?_)
              clear hK9 K9
              (try simp only [List.getElem_toArray, List.getElem_cons_zero, List.getElem_cons_succ, Act.put, List.setIfInBounds_toArray, List.set_cons_zero, List.set_cons_succ])
              refine wpAnyH_ready (rs := [9]) (by kernel_rfl) (by simp) ?_
              refine AllReadyH.cons rfl (fun K9 hK9 => ?_) AllReadyH.nil
              (try simp only [List.getElem_toArray, List.getElem_cons_zero, List.getElem_cons_succ])
              go_simp
              rw [HB.out] at D5
              refine (ds_write D5.out (by rw [hs.out.ops]; omega) j _ b (.inr ⟨g5, _, 64, rfl, HBL.out, by omega, .head _⟩)).mono ?_
              rw [E1.out]
              rintro en w6 ⟨rfl, h⟩
              have D6 := Lib.hid h
              clear h
              refine hK9.out _ _ ((D6.out.blk (.tail _ (.head _)))) (fun hHeld9 => ?_)
              clear hK9 K9
              (try simp only [List.getElem_toArray, List.getElem_cons_zero, List.getElem_cons_succ, Act.put, List.setIfInBounds_toArray, List.set_cons_zero, List.set_cons_succ])
              refine' wpAnyH_take (i := 10) (v := _) rfl (by kernel_rfl) (by kernel_rfl) (by kernel_rfl) (fun _ _ _ h => h) (Or.inl ⟨by rfl, ?taq26⟩) (by assumption) ?tbq26
              case taq26 =>
                intro wS hSw
                (try dsimp only at hSw)
                go_simp
                (try (with_reducible rfl))
              (try simp only [List.getElem_toArray, List.getElem_cons_zero, List.getElem_cons_succ, Act.put, List.setIfInBounds_toArray, List.set_cons_zero, List.set_cons_succ])
              refine wpAnyH_done (by kernel_rfl) ?_ _
              have D3 := D6
              clear D6 D5 D2
              go_wp2_with fail
              refine (ds_down D3.out).mono ?_
              rw [HDN.out]
              rintro en w6 ⟨rfl, rfl⟩
              go_wp2_with fail
              refine (ds_ops D3.out).mono ?_
              rw [HOP.out]
              rintro en w7 ⟨rfl, rfl⟩
              go_wp2
              go_roundw
              case rel => exact ⟨k + 1, _, by omega, by omega, by go_num, by go_num, HS2, Lib.hid (D3.out.sub (fun b hb => by cases hb))⟩
              case measure => simp [intOf]; omega
    · have DD := hds
      go_wp2_with fail
      refine (ds_crash DD.out (.slice none 0 0) [] (.inl (Reads.nil_ _ _))).mono ?_
      rintro en w2 ⟨rfl, h⟩
      have D3 := Lib.hid h
      have hok3 := Dk.crash_ok hs.out.ok []
      have hup3 := Dk.up_crash s []
      have hln : (s.crash []).now.length = 8 := by
        have := crashI_ok s.log [] s.sure hs.out.ok.log ⟨hs.out.ok.len, hs.out.ok.sure⟩
        show (crashI s.log [] s.sure).length = 8
        rw [this.1, hs.out.len]
      have HRD := Lib.hid (Dk.up_read (k := 0) hup3 (by omega))
      have HFL := Lib.hid (Dk.up_flush hok3 hup3)
      have HDN := Lib.hid hup3.2
      have HOPS : Hid ((s.crash []).ops ≤ 40) := Lib.hid (by show s.ops ≤ 40; rw [hs.out.ops]; omega)
      generalize s.crash [] = sc at D3 HRD HFL HDN HOPS
      clear h hok3 hup3 hln DD hds
      go_wp2_with fail
      refine (ds_read D3.out 0 _ HRD.out).mono ?_
      rintro en w3 ⟨g3, rfl, _, h⟩
      have D4 := Lib.hid h
      clear h
      dsimp only
      go_wp2_with fail
      refine (ds_down D4.out).mono ?_
      rw [HDN.out]
      rintro en w4 ⟨rfl, rfl⟩
      go_wp2_with fail
      refine (ds_flush D4.out (by have := HOPS.out; omega)).mono ?_
      rw [HFL.out]
      rintro en w5 ⟨rfl, h⟩
      have D5 := Lib.hid h
      clear h
      go_wp2_with fail
      refine (awake5_any _).mono ?_
      rintro en w8 ⟨rfl, hb⟩
      have D8 := Lib.hid (D5.out.below hb)
      go_wp2
      go_ret
      exact ⟨rfl, D8.out.bel⟩
end Go.Proofs.Ytcgmgogkfhlgpaa
