/- The walk of SectorAll. -/
import Derived.Test.YtcgmgogkfhlgpaaAwake5
import Derived.Test.YtcgmgogkfhlgpaaOpen5
import Derived.Test.YtcgmgogkfhlgpaaSecAllP
namespace Go.Proofs.Ytcgmgogkfhlgpaa
open Go.RowKit
set_option linter.unusedVariables false

/-- a store into the one block -/
theorem DS.put {w0 W : World} {ds : List (Nat × Dk)} {g : Nat} {t : TypeId} {cs : List Value} (h : DS w0 W ds [(g, t, cs)]) (i : Nat) (u : Value) : DS w0 (W.setCell ⟨g, i, none⟩ u) ds [(g, t, cs.set i u)] := by
  obtain ⟨O, h0, h1, h2, h3, h4⟩ := h
  obtain ⟨k1, k2, k3⟩ := h4 _ (.head _)
  have ho : Off (fun x => x = g) W (W.setCell ⟨g, i, none⟩ u) := (Off.refl (fun x => x = g) W).setCell (p := ⟨g, i, none⟩) (.inl rfl) u
  refine ⟨O, h0, fun d hd => ⟨(h1 d hd).1.off ho (fun j hj _ e => k3 d hd (by rw [e] at hj; exact hj)), fun j hj => by have := (h1 d hd).2 j hj; have := ho.size; omega⟩, h2, h3.trans (ho.below h3.size (fun j hj => by rw [hj]; exact k2)), fun b hb => ?_⟩
  obtain rfl := List.mem_singleton.1 hb
  exact ⟨k1.put i u, k2, k3⟩
theorem one_allocB (w : World) (o : Obj) : Below w.heap.size w (w.alloc o) := (Below.refl w.heap.size w).alloc (Nat.le_refl _) o
theorem bytesV_rep (m : Nat) : bytesV (List.replicate m 0) = List.replicate m (Value.int .u8 0) := by simp [bytesV]
set_option maxHeartbeats 12800000 in
set_option maxRecDepth 100000 in
theorem sectorAll_walk (v0 : Value) (l : List CallV) (w : World) (o0 : CallsOf w v0 l) :
    Calls Try.prog 6 #[v0] w fun en w' => en = .returned (.bool true) ∧ Below w.heap.size w w' := by
  obtain ⟨A0, c0, rfl⟩ := o0.form
  have hlen := o0.len
  have HL := Lib.hid o0
  clear o0
  go_enter Try.func6, Try.ntmps6
  go_wp2_with fail
  refine (ds_new (DS.start w) 8 8 (by decide)).mono ?_
  rintro en w1 ⟨d, rfl, h⟩
  have D1 := Lib.hid h
  clear h
  go_wp2_with fail
  refine (ds_new D1.out 8 8 (by decide)).mono ?_
  rintro en w2 ⟨e0, rfl, h⟩
  have D2 := Lib.hid (h.perm (.swap _ _ _))
  have HS2 := Lib.hid A8.new
  generalize Dk.new 8 = s1 at D2 HS2
  clear h D1
  go_wp2
  go_loopw [25, 4, 5] (fun i ep nn wr => ∃ (k : Nat) (s t : Dk) (q n : Nat), k ≤ l.length ∧ k ≤ 40 ∧ i = .int .i64 k ∧ ep = .pointer (some ⟨q, 0, none⟩) ∧ nn = .int .i64 n ∧ Hid (A8 k s t n) ∧ Hid (DS w wr [(d, s), (q, t)] [])) (fun i _ _ _ => l.length - (intOf i).toNat)
  case atStart => exact ⟨0, s1, s1, e0, 0, by omega, by omega, rfl, rfl, rfl, HS2, D2⟩
  case round =>
    obtain ⟨k, s, t, q, n, hk, hk4, rfl, rfl, rfl, hs, hds⟩ := hrel
    clear D2 HS2
    by_cases hlt : k < l.length
    ·   obtain ⟨g, o, c, e, e1, hlk, hok, hg, q0, q1, q2, q3, q4⟩ := HL.out.at_ hlt
        injection e1 with e1 _ e3
        subst e1 e3
        have hbel := hds.out.bel
        have r0 := (hbel.cell (p := ⟨g, o + k * 5, none⟩) hg).trans q0
        have r1 := (hbel.cell (p := ⟨g, o + k * 5 + 1, none⟩) hg).trans q1
        have r2 := (hbel.cell (p := ⟨g, o + k * 5 + 2, none⟩) hg).trans q2
        have r3 := (hbel.cell (p := ⟨g, o + k * 5 + 3, none⟩) hg).trans q3
        have r4 := (hbel.cell (p := ⟨g, o + k * 5 + 4, none⟩) hg).trans q4
        obtain ⟨dd, ii, bv, raw, x, odd⟩ := e
        obtain ⟨_, _, hraw, _⟩ := hok
        simp only at r0 r1 r2 r3 r4 hraw
        obtain ⟨Ab, cb, rfl, _, _⟩ := hraw.form
        rw [length_bytesV] at hraw r2
        have HRAW := Lib.hid hraw
        have D2 := Lib.hid (hds.out.more (g := wr.heap.size) (t := 39) (cs := [.int .i64 dd, .int .i64 ii, .slice Ab raw.length cb, .int .u8 (x.toNat : Int), .bool odd]) ((Below.refl _ wr).alloc (Nat.le_refl _) (.cells #[.int .i64 dd, .int .i64 ii, .slice Ab raw.length cb, .int .u8 (x.toNat : Int), .bool odd] 39)) (Nat.le_refl _) (Blk.fresh wr _ _))
        have i0 : (0 : Int) ≤ (k : Int) := by omega
        have i1 : (k : Int) < (l.length : Int) := by omega
        clear hbel q0 q1 q2 q3 q4 hlk hraw hds
        by_cases h40 : 40 ≤ k
        · have t40 : decide ((40 : Int) ≤ (k : Int)) = true := by simp; omega
          have DD := Lib.hid (D2.out.sub (bs' := []) (fun b hb => by cases hb))
          go_wp2_with fail
          refine (ds_copy DD.out (by have := hs.out.s8.ops; omega)).mono ?_
          rintro en w3 ⟨f, rfl, h⟩
          have D3 := Lib.hid h
          have hnk := hs.out.most
          have hn40 : n ≤ 40 := by omega
          clear h D2 DD
          have hmk : ∀ (W : World), (Instr.makeSlice 22 (.int .i64 (n : Int)) (.int .i64 (n : Int))).run Try.prog W = .ok (.slice (some ⟨W.heap.size, 0, none⟩) n n) (W.alloc (.cells (zerosA (.int .u8 0) n) 5)) := fun W => by
            obtain ⟨i, hi, hz, hs, hb⟩ := info_parts elem_u8b.info
            exact run_make1 22 5 i _ elem_u8b.und hi hz hs rfl .i64 .i64 n (by rw [hb]; omega) (by omega) W
          go_upto_region 19 with fail
          have hka := Blk.freshA w3 5 (zerosA (.int .u8 0) n)
          rw [zerosA_toList, ← bytesV_rep] at hka
          have D4 := Lib.hid (D3.out.more (one_allocB w3 (.cells (zerosA (.int .u8 0) n) 5)) (Nat.le_refl _) hka)
          clear hmk hka D3
          generalize (w3.alloc (.cells (zerosA (.int .u8 0) n) 5)) = w4 at D4 ⊢
          obtain ⟨ga, hga⟩ : ∃ ga, w3.heap.size = ga := ⟨_, rfl⟩
          rw [hga] at D4 ⊢
          clear hga
          go_wp2
          go_loopw [64] (fun i wr => ∃ (j : Nat) (xs : List UInt8), j ≤ n ∧ i = .int .i64 j ∧ Hid (xs.length = n ∧ xs.take j = List.replicate j 2) ∧ Hid (DS w wr [(f, s), (d, s), (q, t)] [(ga, 5, bytesV xs)])) (fun i _ => n - (intOf i).toNat)
          case atStart => exact ⟨0, List.replicate n 0, by omega, rfl, Lib.hid ⟨by simp, by simp⟩, D4⟩
          case round =>
            obtain ⟨j, xs, hj, rfl, hxs, hdj⟩ := hrel
            clear D4
            by_cases hjn : j < n
            · obtain ⟨y, hy⟩ : ∃ y, xs[j]? = some y := ⟨xs[j]'(by rw [hxs.out.1]; exact hjn), List.getElem?_eq_getElem _⟩
              have c0 : wr.cell? ⟨ga, j, none⟩ = some (.int .u8 (y.toNat : Int)) := by
                rw [(hdj.out.blk (.head _)).cell]
                simp [bytesV, hy]
              have f0 := (hdj.out.blk (.head _)).free j
              have j0 : (0 : Int) ≤ (j : Int) := by omega
              have j1 : (j : Int) < (n : Int) := by omega
              clear hy
              go_wp2
              go_roundw
              case rel =>
                have hp := hdj.out.put j (.int .u8 ((2 : UInt8).toNat : Int))
                rw [bytesV_set] at hp
                refine ⟨j + 1, xs.set j 2, by omega, by go_num, Lib.hid ⟨by simpa using hxs.out.1, ?_⟩, Lib.hid hp⟩
                rw [List.take_add_one, List.take_set_of_le (Nat.le_refl _), hxs.out.2, List.getElem?_set_self (by rw [hxs.out.1]; exact hjn), List.replicate_succ']
                rfl
              case measure => simp [intOf]; omega
            · have hjn' : j = n := by omega
              subst hjn'
              have HX : Hid (xs = List.replicate j 2) := Lib.hid (by
                have := hxs.out.2
                rwa [List.take_of_length_le (by rw [hxs.out.1]; omega)] at this)
              have HXL := Lib.hid hxs.out.1
              have D5 := Lib.hid (hdj.out.perm (.swap _ _ _))
              have HSF : Hid (S8 40 (s.crash xs)) := Lib.hid ((hs.out.s8.crash xs).more (by omega))
              have HSG : Hid (S8 40 (s.crash [])) := Lib.hid ((hs.out.s8.crash []).more (by omega))
              have HF : Hid ((s.crash xs).now = s.now) := Lib.hid (by rw [HX.out]; exact hs.out.all)
              have HG : Hid ((s.crash []).now = t.now) := Lib.hid hs.out.none
              clear hxs hdj
              go_wp2_with fail
              refine (ds_copy D5.out (by have := hs.out.s8.ops; omega)).mono ?_
              rintro en w6 ⟨g, rfl, h⟩
              have D6 := Lib.hid (h.perm (List.Perm.trans (.cons _ (.swap _ _ _)) (.swap _ _ _)))
              clear h D5
              go_wp2_with fail
              refine (ds_crash D6.out _ xs (.inr ⟨ga, _, j, rfl, HXL.out, by omega, .head _⟩)).mono ?_
              rintro en w7 ⟨rfl, h⟩
              have D7 := Lib.hid (h.perm (.swap _ _ _))
              clear h D6
              go_wp2_with fail
              refine (ds_crash D7.out (.slice none 0 0) [] (.inl (Reads.nil_ _ _))).mono ?_
              rintro en w8 ⟨rfl, h⟩
              have D8 := Lib.hid ((h.perm (.swap _ _ _)).sub (bs' := []) (fun b hb => by cases hb))
              generalize s.crash xs = sf at D8 HSF HF
              generalize s.crash [] = sg at D8 HSG HG
              clear h D7
              go_wp2
              go_loopw [78] (fun i wr => ∃ (k : Nat), k ≤ 8 ∧ i = .int .i64 k ∧ Hid (DS w wr [(f, sf), (g, sg), (d, s), (q, t)] [])) (fun i _ => 8 - (intOf i).toNat)
              case atStart => exact ⟨0, by omega, rfl, D8⟩
              case round =>
                obtain ⟨m, hm, rfl, hdm⟩ := hrel
                clear D8
                by_cases hm8 : m < 8
                · have R1 := Lib.hid (HSF.out.read hm8)
                  have R2 := Lib.hid (hs.out.s8.read hm8)
                  have R3 := Lib.hid (HSG.out.read hm8)
                  have R4 := Lib.hid (hs.out.t8.read hm8)
                  rw [HF.out] at R1
                  rw [HG.out] at R3
                  generalize s.now.getD m [] = y at R1 R2
                  generalize t.now.getD m [] = z at R3 R4
                  have j0 : decide ((m : Int) < 8) = true := by simp; omega
                  go_wp2_with fail
                  refine (ds_read hdm.out m _ R1.out).mono ?_
                  rintro en wa ⟨ga1, rfl, hly, h⟩
                  have DA := Lib.hid (h.perm (List.Perm.trans (.cons _ (.swap _ _ _)) (.swap _ _ _)))
                  have HLY := Lib.hid hly
                  clear h hly hdm
                  dsimp only
                  go_wp2_with fail
                  refine (ds_read DA.out m _ R2.out).mono ?_
                  rintro en wb ⟨gb1, rfl, _, h⟩
                  have DB := Lib.hid (h.perm (List.Perm.trans (.cons _ (.swap _ _ _)) (.swap _ _ _)))
                  clear h DA
                  dsimp only
                  go_wp2_with fail
                  refine (ds_read DB.out m _ R3.out).mono ?_
                  rintro en wc ⟨gc1, rfl, hlz, h⟩
                  have DC := Lib.hid (h.perm (List.perm_append_comm (l₁ := [(g, sg), (d, s), (f, sf)]) (l₂ := [(q, t)])))
                  have HLZ := Lib.hid hlz
                  clear h hlz DB
                  dsimp only
                  go_wp2_with fail
                  refine (ds_read DC.out m _ R4.out).mono ?_
                  rintro en wd ⟨gd1, rfl, _, h⟩
                  have DD := Lib.hid (h.perm (List.perm_append_comm (l₁ := [(q, t)]) (l₂ := [(g, sg), (d, s), (f, sf)])))
                  have s1 := (h.blk (.tail _ (.tail _ (.tail _ (.head _))))).strAll HLY.out (by omega)
                  have s2 := (h.blk (.tail _ (.tail _ (.head _)))).strAll HLY.out (by omega)
                  have s3 := (h.blk (.tail _ (.head _))).strAll HLZ.out (by omega)
                  have s4 := (h.blk (.head _)).strAll HLZ.out (by omega)
                  clear h DC
                  dsimp only
                  go_wp2
                  go_roundw
                  case rel => exact ⟨m + 1, by omega, by go_num, Lib.hid ((DD.out.perm (List.Perm.trans (.cons _ (.swap _ _ _)) (.swap _ _ _))) |>.sub (fun b hb => by cases hb))⟩
                  case measure => simp [intOf]; omega
                · have j0 : decide ((m : Int) < 8) = false := by simp; omega
                  go_wp2_with fail
                  refine (awake5_any _).mono ?_
                  rintro en we ⟨rfl, hb⟩
                  have DE := Lib.hid (hdm.out.below hb)
                  go_wp2
                  go_ret
                  exact ⟨rfl, DE.out.bel⟩
        · have t40 : decide ((40 : Int) ≤ (k : Int)) = false := by simp; omega
          by_cases h1 : dd = 1
          · subst h1
            obtain ⟨e1, hs2⟩ := hs.out.flush
            have E1 := Lib.hid e1
            have HS2 := Lib.hid hs2
            clear e1 hs2
            go_wp2_with fail
            refine (ds_flush D2.out (by have := hs.out.s8.ops; omega)).mono ?_
            rw [E1.out]
            rintro en w5 ⟨rfl, h⟩
            have D3 := Lib.hid h
            clear h D2
            go_wp2_with fail
            refine (ds_copy D3.out (by have := HS2.out.s8.ops; omega)).mono ?_
            rintro en w6 ⟨q2, rfl, h⟩
            have D4 := Lib.hid ((h.perm (List.Perm.trans (.cons _ (.swap _ _ _)) (List.Perm.trans (.swap _ _ _) (.cons _ (.swap _ _ _))))))
            have D5 := Lib.hid ((h.perm (List.perm_append_comm (l₁ := [(q2, s.oper.flushed), (d, s.oper.flushed)]) (l₂ := [(q, t)]))).drop.perm (.swap _ _ _))
            clear h D3 D4
            go_wp2
            go_roundw
            case rel => exact ⟨k + 1, _, _, q2, 0, by omega, by omega, by go_num, rfl, rfl, HS2, Lib.hid (D5.out.sub (fun b hb => by cases hb))⟩
            case measure => simp [intOf]; omega
          · have t1 : (dd == 1) = false := beq_eq_false_iff_ne.2 h1
            obtain ⟨j, hj, hj8⟩ := and7 ii
            obtain ⟨b, hb⟩ : ∃ b, secI raw x = b := ⟨_, rfl⟩
            have hbl : b.length = 64 := by rw [← hb]; exact secI_len _ _
            obtain ⟨e1, hs2⟩ := hs.out.write hj8 hbl
            have E1 := Lib.hid e1
            have HS2 := Lib.hid hs2
            have HB := Lib.hid hb
            have HBL := Lib.hid hbl
            have hnk : n ≤ 40 := by have := hs.out.most; omega
            clear h1 e1 hs2 hb hbl
            go_upto_region 12 with fail
            have hkq := (D2.out.blk (.head _))
            have HKQ : Hid (Blk (wr.alloc (.cells #[.int .i64 dd, .int .i64 ii, .slice Ab raw.length cb, .int .u8 (x.toNat : Int), .bool odd] 39)) wr.heap.size 39 [.int .i64 dd, .int .i64 ii, .slice Ab raw.length cb, .int .u8 (x.toNat : Int), .bool odd]) := Lib.hid hkq
            clear hkq
            refine wp_region_held_drew (S := (fun w' => Blk w' wr.heap.size 39 [.int .i64 dd, .int .i64 ii, .slice Ab raw.length cb, .int .u8 (x.toNat : Int), .bool odd])) (by kernel_rfl) (HKQ.out.drew) (fun hHeld => ?_)
            refine' wpAnyH_take (i := 0) (v := _) rfl (by kernel_rfl) (by kernel_rfl) (by kernel_rfl) (fun _ _ _ h => h) (Or.inl ⟨by rfl, ?taq1⟩) (by assumption) ?tbq1
            case taq1 =>
              intro wS hSw
              (try dsimp only at hSw)
              (have m1 := hSw.cell 1; have m2 := hSw.cell 2; have m3 := hSw.cell 3; simp only [List.getElem?_cons_zero, List.getElem?_cons_succ] at m1 m2 m3; clear hSw; go_simp)
              (try (with_reducible rfl))
            (try simp only [List.getElem_toArray, List.getElem_cons_zero, List.getElem_cons_succ, Act.put, List.setIfInBounds_toArray, List.set_cons_zero, List.set_cons_succ])
            refine' wpAnyH_take (i := 1) (v := _) rfl (by kernel_rfl) (by kernel_rfl) (by kernel_rfl) (fun _ _ _ h => h) (Or.inl ⟨by rfl, ?taq2⟩) (by assumption) ?tbq2
            case taq2 =>
              intro wS hSw
              (try dsimp only at hSw)
              (have m1 := hSw.cell 1; have m2 := hSw.cell 2; have m3 := hSw.cell 3; simp only [List.getElem?_cons_zero, List.getElem?_cons_succ] at m1 m2 m3; clear hSw; go_simp)
              (try (with_reducible rfl))
            (try simp only [List.getElem_toArray, List.getElem_cons_zero, List.getElem_cons_succ, Act.put, List.setIfInBounds_toArray, List.set_cons_zero, List.set_cons_succ])
            refine' wpAnyH_take (i := 2) (v := _) rfl (by kernel_rfl) (by kernel_rfl) (by kernel_rfl) (fun _ _ _ h => h) (Or.inl ⟨by rfl, ?taq3⟩) (by assumption) ?tbq3
            case taq3 =>
              intro wS hSw
              (try dsimp only at hSw)
              (have m1 := hSw.cell 1; have m2 := hSw.cell 2; have m3 := hSw.cell 3; simp only [List.getElem?_cons_zero, List.getElem?_cons_succ] at m1 m2 m3; clear hSw; go_simp)
              (try (with_reducible rfl))
            (try simp only [List.getElem_toArray, List.getElem_cons_zero, List.getElem_cons_succ, Act.put, List.setIfInBounds_toArray, List.set_cons_zero, List.set_cons_succ])
            refine' wpAnyH_take (i := 3) (v := _) rfl (by kernel_rfl) (by kernel_rfl) (by kernel_rfl) (fun _ _ _ h => h) (Or.inl ⟨by rfl, ?taq4⟩) (by assumption) ?tbq4
            case taq4 =>
              intro wS hSw
              (try dsimp only at hSw)
              (have m1 := hSw.cell 1; have m2 := hSw.cell 2; have m3 := hSw.cell 3; simp only [List.getElem?_cons_zero, List.getElem?_cons_succ] at m1 m2 m3; clear hSw; go_simp)
              (try (with_reducible rfl))
            (try simp only [List.getElem_toArray, List.getElem_cons_zero, List.getElem_cons_succ, Act.put, List.setIfInBounds_toArray, List.set_cons_zero, List.set_cons_succ])
            refine' wpAnyH_take (i := 4) (v := _) rfl (by kernel_rfl) (by kernel_rfl) (by kernel_rfl) (fun _ _ _ h => h) (Or.inl ⟨by rfl, ?taq5⟩) (by assumption) ?tbq5
            case taq5 =>
              intro wS hSw
              (try dsimp only at hSw)
              (have m1 := hSw.cell 1; have m2 := hSw.cell 2; have m3 := hSw.cell 3; simp only [List.getElem?_cons_zero, List.getElem?_cons_succ] at m1 m2 m3; clear hSw; go_simp)
              (try (with_reducible rfl))
            (try simp only [List.getElem_toArray, List.getElem_cons_zero, List.getElem_cons_succ, Act.put, List.setIfInBounds_toArray, List.set_cons_zero, List.set_cons_succ])
            refine' wpAnyH_take (i := 5) (v := _) rfl (by kernel_rfl) (by kernel_rfl) (by kernel_rfl) (fun _ _ _ h => h) (Or.inl ⟨by rfl, ?taq6⟩) (by assumption) ?tbq6
            case taq6 =>
              intro wS hSw
              (try dsimp only at hSw)
              (have m1 := hSw.cell 1; have m2 := hSw.cell 2; have m3 := hSw.cell 3; simp only [List.getElem?_cons_zero, List.getElem?_cons_succ] at m1 m2 m3; clear hSw; go_simp)
              (try (with_reducible rfl))
            (try simp only [List.getElem_toArray, List.getElem_cons_zero, List.getElem_cons_succ, Act.put, List.setIfInBounds_toArray, List.set_cons_zero, List.set_cons_succ])
            refine' wpAnyH_take (i := 6) (v := _) rfl (by kernel_rfl) (by kernel_rfl) (by kernel_rfl) (fun _ _ _ h => h) (Or.inl ⟨by rfl, ?taq7⟩) (by assumption) ?tbq7
            case taq7 =>
              intro wS hSw
              (try dsimp only at hSw)
              (have m1 := hSw.cell 1; have m2 := hSw.cell 2; have m3 := hSw.cell 3; simp only [List.getElem?_cons_zero, List.getElem?_cons_succ] at m1 m2 m3; clear hSw; go_simp)
              (try (with_reducible rfl))
            (try simp only [List.getElem_toArray, List.getElem_cons_zero, List.getElem_cons_succ, Act.put, List.setIfInBounds_toArray, List.set_cons_zero, List.set_cons_succ])
            refine' wpAnyH_take (i := 7) (v := _) rfl (by kernel_rfl) (by kernel_rfl) (by kernel_rfl) (fun _ _ _ h => h) (Or.inl ⟨by rfl, ?taq8⟩) (by assumption) ?tbq8
            case taq8 =>
              intro wS hSw
              (try dsimp only at hSw)
              (have m1 := hSw.cell 1; have m2 := hSw.cell 2; have m3 := hSw.cell 3; simp only [List.getElem?_cons_zero, List.getElem?_cons_succ] at m1 m2 m3; clear hSw; go_simp)
              (try (with_reducible rfl))
            (try simp only [List.getElem_toArray, List.getElem_cons_zero, List.getElem_cons_succ, Act.put, List.setIfInBounds_toArray, List.set_cons_zero, List.set_cons_succ])
            refine wpAnyH_ready (rs := [8]) (by kernel_rfl) (by simp) ?_
            refine AllReadyH.cons rfl (fun K9 hK9 => ?_) AllReadyH.nil
            (try simp only [List.getElem_toArray, List.getElem_cons_zero, List.getElem_cons_succ])
            go_simp
            refine (ds_sector D2.out.drew _ raw (.inl HRAW.out) x _ rfl).mono ?_
            rintro en w5 ⟨g5, rfl, h⟩
            have D5 := Lib.hid h
            clear h
            refine hK9.out _ _ ((D5.out.blk (.tail _ (.head _)))) (fun hHeld9 => ?_)
            clear hK9 K9
            (try simp only [List.getElem_toArray, List.getElem_cons_zero, List.getElem_cons_succ, Act.put, List.setIfInBounds_toArray, List.set_cons_zero, List.set_cons_succ])
            refine wpAnyH_ready (rs := [9]) (by kernel_rfl) (by simp) ?_
            refine AllReadyH.cons rfl (fun K9 hK9 => ?_) AllReadyH.nil
            (try simp only [List.getElem_toArray, List.getElem_cons_zero, List.getElem_cons_succ])
            go_simp
            rw [HB.out] at D5
            refine (ds_write D5.out (by have := hs.out.s8.ops; omega) j _ b (.inr ⟨g5, _, 64, rfl, HBL.out, by omega, .head _⟩)).mono ?_
            rw [E1.out]
            rintro en w6 ⟨rfl, h⟩
            have D6 := Lib.hid h
            clear h
            refine hK9.out _ _ ((D6.out.blk (.tail _ (.head _)))) (fun hHeld9 => ?_)
            clear hK9 K9
            (try simp only [List.getElem_toArray, List.getElem_cons_zero, List.getElem_cons_succ, Act.put, List.setIfInBounds_toArray, List.set_cons_zero, List.set_cons_succ])
            refine wpAnyH_done (by kernel_rfl) ?_ _
            go_wp2
            go_roundw
            case rel => exact ⟨k + 1, _, t, q, n + 1, by omega, by omega, by go_num, rfl, by go_num, HS2, Lib.hid (D6.out.sub (fun b hb => by cases hb))⟩
            case measure => simp [intOf]; omega
    · have DD := hds
      go_wp2_with fail
      refine (ds_copy DD.out (by have := hs.out.s8.ops; omega)).mono ?_
      rintro en w3 ⟨f, rfl, h⟩
      have D3 := Lib.hid h
      have hnk := hs.out.most
      have hn40 : n ≤ 40 := by omega
      clear h DD hds
      have hmk : ∀ (W : World), (Instr.makeSlice 22 (.int .i64 (n : Int)) (.int .i64 (n : Int))).run Try.prog W = .ok (.slice (some ⟨W.heap.size, 0, none⟩) n n) (W.alloc (.cells (zerosA (.int .u8 0) n) 5)) := fun W => by
        obtain ⟨i, hi, hz, hs, hb⟩ := info_parts elem_u8b.info
        exact run_make1 22 5 i _ elem_u8b.und hi hz hs rfl .i64 .i64 n (by rw [hb]; omega) (by omega) W
      go_upto_region 19 with fail
      have hka := Blk.freshA w3 5 (zerosA (.int .u8 0) n)
      rw [zerosA_toList, ← bytesV_rep] at hka
      have D4 := Lib.hid (D3.out.more (one_allocB w3 (.cells (zerosA (.int .u8 0) n) 5)) (Nat.le_refl _) hka)
      clear hmk hka D3
      generalize (w3.alloc (.cells (zerosA (.int .u8 0) n) 5)) = w4 at D4 ⊢
      obtain ⟨ga, hga⟩ : ∃ ga, w3.heap.size = ga := ⟨_, rfl⟩
      rw [hga] at D4 ⊢
      clear hga
      go_wp2
      go_loopw [64] (fun i wr => ∃ (j : Nat) (xs : List UInt8), j ≤ n ∧ i = .int .i64 j ∧ Hid (xs.length = n ∧ xs.take j = List.replicate j 2) ∧ Hid (DS w wr [(f, s), (d, s), (q, t)] [(ga, 5, bytesV xs)])) (fun i _ => n - (intOf i).toNat)
      case atStart => exact ⟨0, List.replicate n 0, by omega, rfl, Lib.hid ⟨by simp, by simp⟩, D4⟩
      case round =>
        obtain ⟨j, xs, hj, rfl, hxs, hdj⟩ := hrel
        clear D4
        by_cases hjn : j < n
        · obtain ⟨y, hy⟩ : ∃ y, xs[j]? = some y := ⟨xs[j]'(by rw [hxs.out.1]; exact hjn), List.getElem?_eq_getElem _⟩
          have c0 : wr.cell? ⟨ga, j, none⟩ = some (.int .u8 (y.toNat : Int)) := by
            rw [(hdj.out.blk (.head _)).cell]
            simp [bytesV, hy]
          have f0 := (hdj.out.blk (.head _)).free j
          have j0 : (0 : Int) ≤ (j : Int) := by omega
          have j1 : (j : Int) < (n : Int) := by omega
          clear hy
          go_wp2
          go_roundw
          case rel =>
            have hp := hdj.out.put j (.int .u8 ((2 : UInt8).toNat : Int))
            rw [bytesV_set] at hp
            refine ⟨j + 1, xs.set j 2, by omega, by go_num, Lib.hid ⟨by simpa using hxs.out.1, ?_⟩, Lib.hid hp⟩
            rw [List.take_add_one, List.take_set_of_le (Nat.le_refl _), hxs.out.2, List.getElem?_set_self (by rw [hxs.out.1]; exact hjn), List.replicate_succ']
            rfl
          case measure => simp [intOf]; omega
        · have hjn' : j = n := by omega
          subst hjn'
          have HX : Hid (xs = List.replicate j 2) := Lib.hid (by
            have := hxs.out.2
            rwa [List.take_of_length_le (by rw [hxs.out.1]; omega)] at this)
          have HXL := Lib.hid hxs.out.1
          have D5 := Lib.hid (hdj.out.perm (.swap _ _ _))
          have HSF : Hid (S8 40 (s.crash xs)) := Lib.hid ((hs.out.s8.crash xs).more (by omega))
          have HSG : Hid (S8 40 (s.crash [])) := Lib.hid ((hs.out.s8.crash []).more (by omega))
          have HF : Hid ((s.crash xs).now = s.now) := Lib.hid (by rw [HX.out]; exact hs.out.all)
          have HG : Hid ((s.crash []).now = t.now) := Lib.hid hs.out.none
          clear hxs hdj
          go_wp2_with fail
          refine (ds_copy D5.out (by have := hs.out.s8.ops; omega)).mono ?_
          rintro en w6 ⟨g, rfl, h⟩
          have D6 := Lib.hid (h.perm (List.Perm.trans (.cons _ (.swap _ _ _)) (.swap _ _ _)))
          clear h D5
          go_wp2_with fail
          refine (ds_crash D6.out _ xs (.inr ⟨ga, _, j, rfl, HXL.out, by omega, .head _⟩)).mono ?_
          rintro en w7 ⟨rfl, h⟩
          have D7 := Lib.hid (h.perm (.swap _ _ _))
          clear h D6
          go_wp2_with fail
          refine (ds_crash D7.out (.slice none 0 0) [] (.inl (Reads.nil_ _ _))).mono ?_
          rintro en w8 ⟨rfl, h⟩
          have D8 := Lib.hid ((h.perm (.swap _ _ _)).sub (bs' := []) (fun b hb => by cases hb))
          generalize s.crash xs = sf at D8 HSF HF
          generalize s.crash [] = sg at D8 HSG HG
          clear h D7
          go_wp2
          go_loopw [78] (fun i wr => ∃ (k : Nat), k ≤ 8 ∧ i = .int .i64 k ∧ Hid (DS w wr [(f, sf), (g, sg), (d, s), (q, t)] [])) (fun i _ => 8 - (intOf i).toNat)
          case atStart => exact ⟨0, by omega, rfl, D8⟩
          case round =>
            obtain ⟨m, hm, rfl, hdm⟩ := hrel
            clear D8
            by_cases hm8 : m < 8
            · have R1 := Lib.hid (HSF.out.read hm8)
              have R2 := Lib.hid (hs.out.s8.read hm8)
              have R3 := Lib.hid (HSG.out.read hm8)
              have R4 := Lib.hid (hs.out.t8.read hm8)
              rw [HF.out] at R1
              rw [HG.out] at R3
              generalize s.now.getD m [] = y at R1 R2
              generalize t.now.getD m [] = z at R3 R4
              have j0 : decide ((m : Int) < 8) = true := by simp; omega
              go_wp2_with fail
              refine (ds_read hdm.out m _ R1.out).mono ?_
              rintro en wa ⟨ga1, rfl, hly, h⟩
              have DA := Lib.hid (h.perm (List.Perm.trans (.cons _ (.swap _ _ _)) (.swap _ _ _)))
              have HLY := Lib.hid hly
              clear h hly hdm
              dsimp only
              go_wp2_with fail
              refine (ds_read DA.out m _ R2.out).mono ?_
              rintro en wb ⟨gb1, rfl, _, h⟩
              have DB := Lib.hid (h.perm (List.Perm.trans (.cons _ (.swap _ _ _)) (.swap _ _ _)))
              clear h DA
              dsimp only
              go_wp2_with fail
              refine (ds_read DB.out m _ R3.out).mono ?_
              rintro en wc ⟨gc1, rfl, hlz, h⟩
              have DC := Lib.hid (h.perm (List.perm_append_comm (l₁ := [(g, sg), (d, s), (f, sf)]) (l₂ := [(q, t)])))
              have HLZ := Lib.hid hlz
              clear h hlz DB
              dsimp only
              go_wp2_with fail
              refine (ds_read DC.out m _ R4.out).mono ?_
              rintro en wd ⟨gd1, rfl, _, h⟩
              have DD := Lib.hid (h.perm (List.perm_append_comm (l₁ := [(q, t)]) (l₂ := [(g, sg), (d, s), (f, sf)])))
              have s1 := (h.blk (.tail _ (.tail _ (.tail _ (.head _))))).strAll HLY.out (by omega)
              have s2 := (h.blk (.tail _ (.tail _ (.head _)))).strAll HLY.out (by omega)
              have s3 := (h.blk (.tail _ (.head _))).strAll HLZ.out (by omega)
              have s4 := (h.blk (.head _)).strAll HLZ.out (by omega)
              clear h DC
              dsimp only
              go_wp2
              go_roundw
              case rel => exact ⟨m + 1, by omega, by go_num, Lib.hid ((DD.out.perm (List.Perm.trans (.cons _ (.swap _ _ _)) (.swap _ _ _))) |>.sub (fun b hb => by cases hb))⟩
              case measure => simp [intOf]; omega
            · have j0 : decide ((m : Int) < 8) = false := by simp; omega
              go_wp2_with fail
              refine (awake5_any _).mono ?_
              rintro en we ⟨rfl, hb⟩
              have DE := Lib.hid (hdm.out.below hb)
              go_wp2
              go_ret
              exact ⟨rfl, DE.out.bel⟩
end Go.Proofs.Ytcgmgogkfhlgpaa
