/- The walk of SectorApart. -/
import Derived.Test.YtcgmgogkfhlgpaaWalkSecAll
namespace Go.Proofs.Ytcgmgogkfhlgpaa
open Go.RowKit
set_option linter.unusedVariables false

/-- what SectorApart does, plain -/
theorem apart_plain (J K : Nat) (P Q : List UInt8) (hJ : J < 8) (hK : K < 8) (hP : P.length = 64) (hQ : Q.length = 64) : ∃ (s t : Dk), (Dk.new 8).write (J : Int) P = (s, 0) ∧ s.write (K : Int) Q = (t, 0) ∧ (Dk.new 8).ops = 0 ∧ s.ops = 1 ∧
    s.read (J : Int) = (P, 0) ∧ t.read (K : Int) = (Q, 0) ∧ s.read (K : Int) = (if J = K then P else List.replicate 64 0, 0) := by
  have h0 := S8.new
  obtain ⟨e1, h1⟩ := h0.write hJ hP
  obtain ⟨e2, h2⟩ := h1.write hK hQ
  refine ⟨_, _, e1, e2, rfl, rfl, ?_, ?_, ?_⟩
  · rw [h1.read hJ]
    congr 1
    show ((List.replicate 8 (List.replicate 64 0)).set J P).getD J [] = P
    rw [List.getD_eq_getElem?_getD, List.getElem?_set_self (by simpa using hJ)]
    rfl
  · rw [h2.read hK]
    congr 1
    show (((List.replicate 8 (List.replicate 64 0)).set J P).set K Q).getD K [] = Q
    rw [List.getD_eq_getElem?_getD, List.getElem?_set_self (by simpa using hK)]
    rfl
  · rw [h1.read hK]
    congr 1
    show ((List.replicate 8 (List.replicate 64 0)).set J P).getD K [] = _
    by_cases h : J = K
    · subst h
      rw [if_pos rfl, List.getD_eq_getElem?_getD, List.getElem?_set_self (by simpa using hJ)]
      rfl
    · rw [if_neg h, List.getD_eq_getElem?_getD, List.getElem?_set_ne h, List.getElem?_replicate, if_pos hK]
      rfl
set_option maxHeartbeats 12800000 in
set_option maxRecDepth 100000 in
theorem sectorApart_walk (v0 : Value) (a0 : List UInt8) (v1 : Value) (a1 : List UInt8) (a2 a3 : Int) (w : World) (o0 : Reads w w.heap.size v0 (bytesV a0) ∧ a0.length ≤ 140737488351232) (o1 : Reads w w.heap.size v1 (bytesV a1) ∧ a1.length ≤ 140737488351232)
    (w2 : (Lit.int .i64 a2).wf = true) (w3 : (Lit.int .i64 a3).wf = true) :
    Calls Try.prog 7 #[v0, v1, .int .i64 a2, .int .i64 a3] w fun en w' => en = .returned (.bool true) ∧ Below w.heap.size w w' := by
  obtain ⟨A0, c0, rfl, _, _⟩ := o0.1.form
  obtain ⟨A1, c1, rfl, _, _⟩ := o1.1.form
  have hr0 := o0.1
  have hr1 := o1.1
  rw [length_bytesV] at hr0 hr1 ⊢
  rw [length_bytesV]
  have R0 := Lib.hid hr0
  have R1 := Lib.hid hr1
  obtain ⟨J, hJ, hJ8⟩ := and7 a2
  obtain ⟨K, hK, hK8⟩ := and7 a3
  obtain ⟨P, hP⟩ : ∃ P, secI a0 1 = P := ⟨_, rfl⟩
  obtain ⟨Q, hQ⟩ : ∃ Q, secI a1 2 = Q := ⟨_, rfl⟩
  have hPl : P.length = 64 := by rw [← hP]; exact secI_len _ _
  have hQl : Q.length = 64 := by rw [← hQ]; exact secI_len _ _
  obtain ⟨s, t, e1, e2, e3, e4, e5, e6, e7⟩ := apart_plain J K P Q hJ8 hK8 hPl hQl
  obtain ⟨Z, hZ⟩ : ∃ Z : List UInt8, List.replicate 64 0 = Z := ⟨_, rfl⟩
  have hZl : Z.length = 64 := by rw [← hZ]; simp
  rw [hZ] at e7
  obtain ⟨Y, hY⟩ : ∃ Y, (if J = K then P else Z) = Y := ⟨_, rfl⟩
  rw [hY] at e7
  have hYl : Y.length = 64 := by rw [← hY]; split <;> assumption
  have E1 := Lib.hid e1
  have E2 := Lib.hid e2
  have E3 := Lib.hid e3
  have E4 := Lib.hid e4
  have E5 := Lib.hid e5
  have E6 := Lib.hid e6
  have E7 := Lib.hid e7
  have HP := Lib.hid hP
  have HQ := Lib.hid hQ
  have HZ := Lib.hid hZ
  have HY := Lib.hid hY
  have HPL := Lib.hid hPl
  have HQL := Lib.hid hQl
  have HZL := Lib.hid hZl
  have HYL := Lib.hid hYl
  generalize hs0 : Dk.new 8 = s0 at E1 E3
  have HS0 := Lib.hid hs0
  have hmk : ∀ (W : World), (Instr.makeSlice 22 (.int .i64 64) (.int .i64 64)).run Try.prog W = .ok (.slice (some ⟨W.heap.size, 0, none⟩) 64 64) (W.alloc (.cells (zerosA (.int .u8 0) 64) 5)) := fun W => by
    obtain ⟨i, hi, hz, hs, hb⟩ := info_parts elem_u8b.info
    exact run_make1 22 5 i _ elem_u8b.und hi hz hs rfl .i64 .i64 64 (by rw [hb]; omega) (by omega) W
  have HMK := Lib.hid hmk
  clear o0 o1 w2 w3 hP hQ hPl hQl hZ hZl hY hYl e1 e2 e3 e4 e5 e6 e7 hs0 hmk hr0 hr1
  go_enter Try.func7, Try.ntmps7
  go_wp2_with fail
  refine (ds_new (DS.start w) 8 8 (by decide)).mono ?_
  rw [HS0.out]
  rintro en w1 ⟨d, rfl, h⟩
  have D1 := Lib.hid h
  clear h
  go_wp2_with fail
  refine (ds_sector D1.out _ a0 (.inl R0.out) 1 _ rfl).mono ?_
  rw [HP.out]
  rintro en w2 ⟨g1, rfl, h⟩
  have D2 := Lib.hid h
  clear h D1
  go_wp2_with fail
  refine (ds_write D2.out (by rw [E3.out]; omega) J _ P (.inr ⟨g1, _, 64, rfl, HPL.out, by omega, .head _⟩)).mono ?_
  rw [E1.out]
  rintro en w3 ⟨rfl, h⟩
  have D3 := Lib.hid h
  clear h D2
  dsimp only
  go_wp2_with fail
  refine (ds_copy D3.out (by rw [E4.out]; omega)).mono ?_
  rintro en w4 ⟨q, rfl, h⟩
  have D4 := Lib.hid h
  clear h D3
  go_wp2_with fail
  refine (ds_sector D4.out _ a1 (.inl R1.out) 2 _ rfl).mono ?_
  rw [HQ.out]
  rintro en w5 ⟨g2, rfl, h⟩
  have D5 := Lib.hid h
  clear h D4
  go_wp2_with fail
  refine (ds_write D5.out (by rw [E4.out]; omega) K _ Q (.inr ⟨g2, _, 64, rfl, HQL.out, by omega, .head _⟩)).mono ?_
  rw [E2.out]
  rintro en w6 ⟨rfl, h⟩
  have D6 := Lib.hid ((h.perm (.swap _ _ _)).sub (bs' := []) (fun b hb => by cases hb))
  clear h D5
  dsimp only
  go_wp2_with fail
  refine (ds_read D6.out J _ E5.out).mono ?_
  rintro en w7 ⟨gx, rfl, _, h⟩
  have D7 := Lib.hid h
  clear h D6
  dsimp only
  go_wp2
  go_loopw [52] (fun i wr => ∃ (j : Nat) (xs : List UInt8), j ≤ 64 ∧ i = .int .i64 j ∧ Hid (xs.length = 64) ∧ Hid (DS w wr [(d, s), (q, t)] [(gx, 58, bytesV xs)])) (fun i _ => 64 - (intOf i).toNat)
  case atStart => exact ⟨0, P, by omega, rfl, HPL, D7⟩
  case round =>
    obtain ⟨j, xs, hj, rfl, hxs, hdj⟩ := hrel
    clear D7
    by_cases hjn : j < 64
    · obtain ⟨y, hy⟩ : ∃ y, xs[j]? = some y := ⟨xs[j]'(by rw [hxs.out]; exact hjn), List.getElem?_eq_getElem _⟩
      have c0 : wr.cell? ⟨gx, j, none⟩ = some (.int .u8 (y.toNat : Int)) := by
        rw [(hdj.out.blk (.head _)).cell]
        simp [bytesV, hy]
      have f0 := (hdj.out.blk (.head _)).free j
      have j0 : (0 : Int) ≤ (j : Int) := by omega
      have j1 : (j : Int) < 64 := by omega
      clear hy
      go_wp2
      go_roundw
      case rel =>
        have hp := hdj.out.put j (.int .u8 ((77 : UInt8).toNat : Int))
        rw [bytesV_set] at hp
        exact ⟨j + 1, xs.set j 77, by omega, by go_num, Lib.hid (by simpa using hxs.out), Lib.hid hp⟩
      case measure => simp [intOf]; omega
    · have j1 : decide ((j : Int) < 64) = false := by simp; omega
      have D8 := Lib.hid (hdj.out.sub (bs' := []) (fun b hb => by cases hb))
      clear hdj hxs
      go_wp2_with fail
      refine (ds_read D8.out J _ E5.out).mono ?_
      rintro en w8 ⟨gy, rfl, _, h⟩
      have D9 := Lib.hid (h.perm (.swap _ _ _))
      clear h D8
      dsimp only
      go_wp2_with fail
      refine (ds_read D9.out K _ E6.out).mono ?_
      rintro en w9 ⟨gz, rfl, _, h⟩
      have D10 := Lib.hid (h.perm (.swap _ _ _))
      clear h D9
      dsimp only
      go_wp2_with fail
      refine (ds_read D10.out K _ E7.out).mono ?_
      rintro en wa ⟨gw, rfl, _, h⟩
      have D11 := Lib.hid h
      clear h D10
      dsimp only
      have hmk := HMK.out
      have hka := Blk.freshA wa 5 (zerosA (.int .u8 0) 64)
      rw [zerosA_toList, ← bytesV_rep, HZ.out] at hka
      have D12 := Lib.hid (D11.out.more (one_allocB wa (.cells (zerosA (.int .u8 0) 64) 5)) (Nat.le_refl _) hka)
      have sz := hka.strAll HZL.out (by omega)
      clear hka D11
      by_cases hJK : J = K
      · subst hJK
        have tJK : ((J : Int) == (J : Int)) = true := by simp
        have HYP : Hid (P = Y) := Lib.hid (by rw [← HY.out, if_pos rfl])
        go_wp2_with fail
        generalize (wa.alloc (.cells (zerosA (.int .u8 0) 64) 5)) = wb at D12 ⊢
        refine (ds_sector D12.out _ a0 (.inl R0.out) 1 _ rfl).mono ?_
        rw [HP.out]
        rintro en wc ⟨g6, rfl, h⟩
        have D13 := Lib.hid h
        have q6 := (h.blk (.head _)).strAll HPL.out (by omega)
        clear h sz hmk
        go_upto_region 20 with fail
        obtain rfl := HYP.out
        refine wp_region_held_drew (S := (fun w' => DS w w' [(d, s), (q, t)] [(gw, 58, bytesV P), (gz, 58, bytesV Q), (gy, 58, bytesV P)])) (by kernel_rfl) ((D13.out.drew.sub (fun b hb => .tail _ (.tail _ hb)))) (fun hHeld => ?_)
        have DB : Hid (DS w wc.drew [(d, s), (q, t)] [(gw, 58, bytesV P), (gz, 58, bytesV Q), (gy, 58, bytesV P)]) := Lib.hid (D13.out.drew.sub (fun b hb => .tail _ (.tail _ hb)))
        refine' wpAnyH_take (i := 0) (v := _) rfl (by kernel_rfl) (by kernel_rfl) (by kernel_rfl) (fun _ _ _ h => h) (Or.inl ⟨by rfl, ?taq1⟩) (by assumption) ?tbq1
        case taq1 =>
          intro wS hSw
          (try dsimp only at hSw)
          (have q0 := (hSw.blk (.head _)).strAll HYL.out (by omega); have q1 := (hSw.blk (.tail _ (.head _))).strAll HQL.out (by omega); have q2 := (hSw.blk (.tail _ (.tail _ (.head _)))).strAll HPL.out (by omega); clear hSw; go_simp)
          (try (with_reducible rfl))
        (try simp only [List.getElem_toArray, List.getElem_cons_zero, List.getElem_cons_succ, Act.put, List.setIfInBounds_toArray, List.set_cons_zero, List.set_cons_succ])
        refine' wpAnyH_take (i := 1) (v := _) rfl (by kernel_rfl) (by kernel_rfl) (by kernel_rfl) (fun _ _ _ h => h) (Or.inl ⟨by rfl, ?taq2⟩) (by assumption) ?tbq2
        case taq2 =>
          intro wS hSw
          (try dsimp only at hSw)
          (have q0 := (hSw.blk (.head _)).strAll HYL.out (by omega); have q1 := (hSw.blk (.tail _ (.head _))).strAll HQL.out (by omega); have q2 := (hSw.blk (.tail _ (.tail _ (.head _)))).strAll HPL.out (by omega); clear hSw; go_simp)
          (try (with_reducible rfl))
        (try simp only [List.getElem_toArray, List.getElem_cons_zero, List.getElem_cons_succ, Act.put, List.setIfInBounds_toArray, List.set_cons_zero, List.set_cons_succ])
        refine' wpAnyH_take (i := 2) (v := _) rfl (by kernel_rfl) (by kernel_rfl) (by kernel_rfl) (fun _ _ _ h => h) (Or.inl ⟨by rfl, ?taq3⟩) (by assumption) ?tbq3
        case taq3 =>
          intro wS hSw
          (try dsimp only at hSw)
          (have q0 := (hSw.blk (.head _)).strAll HYL.out (by omega); have q1 := (hSw.blk (.tail _ (.head _))).strAll HQL.out (by omega); have q2 := (hSw.blk (.tail _ (.tail _ (.head _)))).strAll HPL.out (by omega); clear hSw; go_simp)
          (try (with_reducible rfl))
        (try simp only [List.getElem_toArray, List.getElem_cons_zero, List.getElem_cons_succ, Act.put, List.setIfInBounds_toArray, List.set_cons_zero, List.set_cons_succ])
        refine wpAnyH_ready (rs := [3]) (by kernel_rfl) (by simp) ?_
        refine AllReadyH.cons rfl (fun K9 hK9 => ?_) AllReadyH.nil
        (try simp only [List.getElem_toArray, List.getElem_cons_zero, List.getElem_cons_succ])
        go_simp
        refine (ds_sector DB.out _ a0 (.inl R0.out) 1 _ rfl).mono ?_
        rw [HP.out]
        rintro en wg ⟨g7, rfl, h⟩
        have DC := Lib.hid (h.sub (bs' := [(gw, 58, bytesV P), (gz, 58, bytesV Q), (gy, 58, bytesV P)]) (fun b hb => .tail _ hb))
        have q7 := (h.blk (.head _)).strAll HPL.out (by omega)
        clear h
        refine hK9.out _ _ (DC.out) (fun hHeld9 => ?_)
        clear hK9 K9
        (try simp only [List.getElem_toArray, List.getElem_cons_zero, List.getElem_cons_succ, Act.put, List.setIfInBounds_toArray, List.set_cons_zero, List.set_cons_succ])
        refine wpAnyH_ready (rs := [4]) (by kernel_rfl) (by simp) ?_
        refine AllReadyH.cons rfl (fun K9 hK9 => ?_) AllReadyH.nil
        (try simp only [List.getElem_toArray, List.getElem_cons_zero, List.getElem_cons_succ])
        go_simp
        refine hK9.out _ _ (DC.out) (fun hHeld9 => ?_)
        clear hK9 K9
        (try simp only [List.getElem_toArray, List.getElem_cons_zero, List.getElem_cons_succ, Act.put, List.setIfInBounds_toArray, List.set_cons_zero, List.set_cons_succ])
        refine' wpAnyH_take (i := 5) (v := _) rfl (by kernel_rfl) (by kernel_rfl) (by kernel_rfl) (fun _ _ _ h => h) (Or.inl ⟨by rfl, ?taq4⟩) (by assumption) ?tbq4
        case taq4 =>
          intro wS hSw
          (try dsimp only at hSw)
          (have q0 := (hSw.blk (.head _)).strAll HYL.out (by omega); have q1 := (hSw.blk (.tail _ (.head _))).strAll HQL.out (by omega); have q2 := (hSw.blk (.tail _ (.tail _ (.head _)))).strAll HPL.out (by omega); clear hSw; go_simp)
          (try (with_reducible rfl))
        (try simp only [List.getElem_toArray, List.getElem_cons_zero, List.getElem_cons_succ, Act.put, List.setIfInBounds_toArray, List.set_cons_zero, List.set_cons_succ])
        refine' wpAnyH_take (i := 6) (v := _) rfl (by kernel_rfl) (by kernel_rfl) (by kernel_rfl) (fun _ _ _ h => h) (Or.inl ⟨by rfl, ?taq5⟩) (by assumption) ?tbq5
        case taq5 =>
          intro wS hSw
          (try dsimp only at hSw)
          (have q0 := (hSw.blk (.head _)).strAll HYL.out (by omega); have q1 := (hSw.blk (.tail _ (.head _))).strAll HQL.out (by omega); have q2 := (hSw.blk (.tail _ (.tail _ (.head _)))).strAll HPL.out (by omega); clear hSw; go_simp)
          (try (with_reducible rfl))
        (try simp only [List.getElem_toArray, List.getElem_cons_zero, List.getElem_cons_succ, Act.put, List.setIfInBounds_toArray, List.set_cons_zero, List.set_cons_succ])
        refine' wpAnyH_take (i := 7) (v := _) rfl (by kernel_rfl) (by kernel_rfl) (by kernel_rfl) (fun _ _ _ h => h) (Or.inl ⟨by rfl, ?taq6⟩) (by assumption) ?tbq6
        case taq6 =>
          intro wS hSw
          (try dsimp only at hSw)
          (have q0 := (hSw.blk (.head _)).strAll HYL.out (by omega); have q1 := (hSw.blk (.tail _ (.head _))).strAll HQL.out (by omega); have q2 := (hSw.blk (.tail _ (.tail _ (.head _)))).strAll HPL.out (by omega); clear hSw; go_simp)
          (try (with_reducible rfl))
        (try simp only [List.getElem_toArray, List.getElem_cons_zero, List.getElem_cons_succ, Act.put, List.setIfInBounds_toArray, List.set_cons_zero, List.set_cons_succ])
        refine' wpAnyH_take (i := 8) (v := _) rfl (by kernel_rfl) (by kernel_rfl) (by kernel_rfl) (fun _ _ _ h => h) (Or.inl ⟨by rfl, ?taq7⟩) (by assumption) ?tbq7
        case taq7 =>
          intro wS hSw
          (try dsimp only at hSw)
          (have q0 := (hSw.blk (.head _)).strAll HYL.out (by omega); have q1 := (hSw.blk (.tail _ (.head _))).strAll HQL.out (by omega); have q2 := (hSw.blk (.tail _ (.tail _ (.head _)))).strAll HPL.out (by omega); clear hSw; go_simp)
          (try (with_reducible rfl))
        (try simp only [List.getElem_toArray, List.getElem_cons_zero, List.getElem_cons_succ, Act.put, List.setIfInBounds_toArray, List.set_cons_zero, List.set_cons_succ])
        refine' wpAnyH_take (i := 9) (v := _) rfl (by kernel_rfl) (by kernel_rfl) (by kernel_rfl) (fun _ _ _ h => h) (Or.inl ⟨by rfl, ?taq8⟩) (by assumption) ?tbq8
        case taq8 =>
          intro wS hSw
          (try dsimp only at hSw)
          (have q0 := (hSw.blk (.head _)).strAll HYL.out (by omega); have q1 := (hSw.blk (.tail _ (.head _))).strAll HQL.out (by omega); have q2 := (hSw.blk (.tail _ (.tail _ (.head _)))).strAll HPL.out (by omega); clear hSw; go_simp)
          (try (with_reducible rfl))
        (try simp only [List.getElem_toArray, List.getElem_cons_zero, List.getElem_cons_succ, Act.put, List.setIfInBounds_toArray, List.set_cons_zero, List.set_cons_succ])
        refine wpAnyH_ready (rs := [10]) (by kernel_rfl) (by simp) ?_
        refine AllReadyH.cons rfl (fun K9 hK9 => ?_) AllReadyH.nil
        (try simp only [List.getElem_toArray, List.getElem_cons_zero, List.getElem_cons_succ])
        go_simp
        refine (ds_sector DC.out _ a1 (.inl R1.out) 2 _ rfl).mono ?_
        rw [HQ.out]
        rintro en wh ⟨g8, rfl, h⟩
        have DD := Lib.hid (h.sub (bs' := [(gw, 58, bytesV P), (gz, 58, bytesV Q), (gy, 58, bytesV P)]) (fun b hb => .tail _ hb))
        have q8 := (h.blk (.head _)).strAll HQL.out (by omega)
        clear h
        refine hK9.out _ _ (DD.out) (fun hHeld9 => ?_)
        clear hK9 K9
        (try simp only [List.getElem_toArray, List.getElem_cons_zero, List.getElem_cons_succ, Act.put, List.setIfInBounds_toArray, List.set_cons_zero, List.set_cons_succ])
        refine wpAnyH_ready (rs := [11]) (by kernel_rfl) (by simp) ?_
        refine AllReadyH.cons rfl (fun K9 hK9 => ?_) AllReadyH.nil
        (try simp only [List.getElem_toArray, List.getElem_cons_zero, List.getElem_cons_succ])
        go_simp
        refine hK9.out _ _ (DD.out) (fun hHeld9 => ?_)
        clear hK9 K9
        (try simp only [List.getElem_toArray, List.getElem_cons_zero, List.getElem_cons_succ, Act.put, List.setIfInBounds_toArray, List.set_cons_zero, List.set_cons_succ])
        refine' wpAnyH_take (i := 12) (v := _) rfl (by kernel_rfl) (by kernel_rfl) (by kernel_rfl) (fun _ _ _ h => h) (Or.inl ⟨by rfl, ?taq9⟩) (by assumption) ?tbq9
        case taq9 =>
          intro wS hSw
          (try dsimp only at hSw)
          (have q0 := (hSw.blk (.head _)).strAll HYL.out (by omega); have q1 := (hSw.blk (.tail _ (.head _))).strAll HQL.out (by omega); have q2 := (hSw.blk (.tail _ (.tail _ (.head _)))).strAll HPL.out (by omega); clear hSw; go_simp)
          (try (with_reducible rfl))
        (try simp only [List.getElem_toArray, List.getElem_cons_zero, List.getElem_cons_succ, Act.put, List.setIfInBounds_toArray, List.set_cons_zero, List.set_cons_succ])
        refine' wpAnyH_take (i := 13) (v := _) rfl (by kernel_rfl) (by kernel_rfl) (by kernel_rfl) (fun _ _ _ h => h) (Or.inl ⟨by rfl, ?taq10⟩) (by assumption) ?tbq10
        case taq10 =>
          intro wS hSw
          (try dsimp only at hSw)
          (have q0 := (hSw.blk (.head _)).strAll HYL.out (by omega); have q1 := (hSw.blk (.tail _ (.head _))).strAll HQL.out (by omega); have q2 := (hSw.blk (.tail _ (.tail _ (.head _)))).strAll HPL.out (by omega); clear hSw; go_simp)
          (try (with_reducible rfl))
        (try simp only [List.getElem_toArray, List.getElem_cons_zero, List.getElem_cons_succ, Act.put, List.setIfInBounds_toArray, List.set_cons_zero, List.set_cons_succ])
        refine' wpAnyH_take (i := 14) (v := _) rfl (by kernel_rfl) (by kernel_rfl) (by kernel_rfl) (fun _ _ _ h => h) (Or.inl ⟨by rfl, ?taq11⟩) (by assumption) ?tbq11
        case taq11 =>
          intro wS hSw
          (try dsimp only at hSw)
          (have q0 := (hSw.blk (.head _)).strAll HYL.out (by omega); have q1 := (hSw.blk (.tail _ (.head _))).strAll HQL.out (by omega); have q2 := (hSw.blk (.tail _ (.tail _ (.head _)))).strAll HPL.out (by omega); clear hSw; go_simp)
          (try (with_reducible rfl))
        (try simp only [List.getElem_toArray, List.getElem_cons_zero, List.getElem_cons_succ, Act.put, List.setIfInBounds_toArray, List.set_cons_zero, List.set_cons_succ])
        refine' wpAnyH_take (i := 15) (v := _) rfl (by kernel_rfl) (by kernel_rfl) (by kernel_rfl) (fun _ _ _ h => h) (Or.inl ⟨by rfl, ?taq12⟩) (by assumption) ?tbq12
        case taq12 =>
          intro wS hSw
          (try dsimp only at hSw)
          (have q0 := (hSw.blk (.head _)).strAll HYL.out (by omega); have q1 := (hSw.blk (.tail _ (.head _))).strAll HQL.out (by omega); have q2 := (hSw.blk (.tail _ (.tail _ (.head _)))).strAll HPL.out (by omega); clear hSw; go_simp)
          (try (with_reducible rfl))
        (try simp only [List.getElem_toArray, List.getElem_cons_zero, List.getElem_cons_succ, Act.put, List.setIfInBounds_toArray, List.set_cons_zero, List.set_cons_succ])
        refine' wpAnyH_take (i := 16) (v := _) rfl (by kernel_rfl) (by kernel_rfl) (by kernel_rfl) (fun _ _ _ h => h) (Or.inl ⟨by rfl, ?taq13⟩) (by assumption) ?tbq13
        case taq13 =>
          intro wS hSw
          (try dsimp only at hSw)
          (have q0 := (hSw.blk (.head _)).strAll HYL.out (by omega); have q1 := (hSw.blk (.tail _ (.head _))).strAll HQL.out (by omega); have q2 := (hSw.blk (.tail _ (.tail _ (.head _)))).strAll HPL.out (by omega); clear hSw; go_simp)
          (try (with_reducible rfl))
        (try simp only [List.getElem_toArray, List.getElem_cons_zero, List.getElem_cons_succ, Act.put, List.setIfInBounds_toArray, List.set_cons_zero, List.set_cons_succ])
        refine' wpAnyH_take (i := 17) (v := _) rfl (by kernel_rfl) (by kernel_rfl) (by kernel_rfl) (fun _ _ _ h => h) (Or.inl ⟨by rfl, ?taq14⟩) (by assumption) ?tbq14
        case taq14 =>
          intro wS hSw
          (try dsimp only at hSw)
          (have q0 := (hSw.blk (.head _)).strAll HYL.out (by omega); have q1 := (hSw.blk (.tail _ (.head _))).strAll HQL.out (by omega); have q2 := (hSw.blk (.tail _ (.tail _ (.head _)))).strAll HPL.out (by omega); clear hSw; go_simp)
          (try (with_reducible rfl))
        (try simp only [List.getElem_toArray, List.getElem_cons_zero, List.getElem_cons_succ, Act.put, List.setIfInBounds_toArray, List.set_cons_zero, List.set_cons_succ])
        refine' wpAnyH_take (i := 18) (v := _) rfl (by kernel_rfl) (by kernel_rfl) (by kernel_rfl) (fun _ _ _ h => h) (Or.inl ⟨by rfl, ?taq15⟩) (by assumption) ?tbq15
        case taq15 =>
          intro wS hSw
          (try dsimp only at hSw)
          (have q0 := (hSw.blk (.head _)).strAll HYL.out (by omega); have q1 := (hSw.blk (.tail _ (.head _))).strAll HQL.out (by omega); have q2 := (hSw.blk (.tail _ (.tail _ (.head _)))).strAll HPL.out (by omega); clear hSw; go_simp)
          (try (with_reducible rfl))
        (try simp only [List.getElem_toArray, List.getElem_cons_zero, List.getElem_cons_succ, Act.put, List.setIfInBounds_toArray, List.set_cons_zero, List.set_cons_succ])
        refine' wpAnyH_take (i := 19) (v := _) rfl (by kernel_rfl) (by kernel_rfl) (by kernel_rfl) (fun _ _ _ h => h) (Or.inl ⟨by rfl, ?taq16⟩) (by assumption) ?tbq16
        case taq16 =>
          intro wS hSw
          (try dsimp only at hSw)
          (have q0 := (hSw.blk (.head _)).strAll HYL.out (by omega); have q1 := (hSw.blk (.tail _ (.head _))).strAll HQL.out (by omega); have q2 := (hSw.blk (.tail _ (.tail _ (.head _)))).strAll HPL.out (by omega); clear hSw; go_simp)
          (try (with_reducible rfl))
        (try simp only [List.getElem_toArray, List.getElem_cons_zero, List.getElem_cons_succ, Act.put, List.setIfInBounds_toArray, List.set_cons_zero, List.set_cons_succ])
        refine' wpAnyH_take (i := 20) (v := _) rfl (by kernel_rfl) (by kernel_rfl) (by kernel_rfl) (fun _ _ _ h => h) (Or.inl ⟨by rfl, ?taq17⟩) (by assumption) ?tbq17
        case taq17 =>
          intro wS hSw
          (try dsimp only at hSw)
          (have q0 := (hSw.blk (.head _)).strAll HYL.out (by omega); have q1 := (hSw.blk (.tail _ (.head _))).strAll HQL.out (by omega); have q2 := (hSw.blk (.tail _ (.tail _ (.head _)))).strAll HPL.out (by omega); clear hSw; go_simp)
          (try (with_reducible rfl))
        (try simp only [List.getElem_toArray, List.getElem_cons_zero, List.getElem_cons_succ, Act.put, List.setIfInBounds_toArray, List.set_cons_zero, List.set_cons_succ])
        refine wpAnyH_ready (rs := [21]) (by kernel_rfl) (by simp) ?_
        refine AllReadyH.cons rfl (fun K9 hK9 => ?_) AllReadyH.nil
        (try simp only [List.getElem_toArray, List.getElem_cons_zero, List.getElem_cons_succ])
        go_simp
        refine (awake5_any wh).mono ?_
        rintro en wi ⟨rfl, hbf⟩
        have DE := Lib.hid (DD.out.below hbf)
        clear hbf
        refine hK9.out _ _ (DE.out) (fun hHeld9 => ?_)
        clear hK9 K9
        (try simp only [List.getElem_toArray, List.getElem_cons_zero, List.getElem_cons_succ, Act.put, List.setIfInBounds_toArray, List.set_cons_zero, List.set_cons_succ])
        refine' wpAnyH_take (i := 22) (v := _) rfl (by kernel_rfl) (by kernel_rfl) (by kernel_rfl) (fun _ _ _ h => h) (Or.inl ⟨by rfl, ?taq18⟩) (by assumption) ?tbq18
        case taq18 =>
          intro wS hSw
          (try dsimp only at hSw)
          (have q0 := (hSw.blk (.head _)).strAll HYL.out (by omega); have q1 := (hSw.blk (.tail _ (.head _))).strAll HQL.out (by omega); have q2 := (hSw.blk (.tail _ (.tail _ (.head _)))).strAll HPL.out (by omega); clear hSw; go_simp)
          (try (with_reducible rfl))
        (try simp only [List.getElem_toArray, List.getElem_cons_zero, List.getElem_cons_succ, Act.put, List.setIfInBounds_toArray, List.set_cons_zero, List.set_cons_succ])
        refine' wpAnyH_take (i := 23) (v := _) rfl (by kernel_rfl) (by kernel_rfl) (by kernel_rfl) (fun _ _ _ h => h) (Or.inl ⟨by rfl, ?taq19⟩) (by assumption) ?tbq19
        case taq19 =>
          intro wS hSw
          (try dsimp only at hSw)
          (have q0 := (hSw.blk (.head _)).strAll HYL.out (by omega); have q1 := (hSw.blk (.tail _ (.head _))).strAll HQL.out (by omega); have q2 := (hSw.blk (.tail _ (.tail _ (.head _)))).strAll HPL.out (by omega); clear hSw; go_simp)
          (try (with_reducible rfl))
        (try simp only [List.getElem_toArray, List.getElem_cons_zero, List.getElem_cons_succ, Act.put, List.setIfInBounds_toArray, List.set_cons_zero, List.set_cons_succ])
        refine wpAnyH_done (by kernel_rfl) ?_ _
        go_wp2
        go_ret
        exact ⟨rfl, DE.out.bel⟩
      · have tJK : ((J : Int) == (K : Int)) = false := beq_eq_false_iff_ne.2 (by omega)
        have HYP : Hid (Z = Y) := Lib.hid (by rw [← HY.out, if_neg hJK])
        clear hJK
        go_upto_region 20 with fail
        generalize (wa.alloc (.cells (zerosA (.int .u8 0) 64) 5)) = wb at D12 ⊢
        clear sz hmk
        obtain rfl := HYP.out
        refine wp_region_held_drew (S := (fun w' => DS w w' [(d, s), (q, t)] [(gw, 58, bytesV Z), (gz, 58, bytesV Q), (gy, 58, bytesV P)])) (by kernel_rfl) ((D12.out.drew.sub (fun b hb => .tail _ hb))) (fun hHeld => ?_)
        have DB : Hid (DS w wb.drew [(d, s), (q, t)] [(gw, 58, bytesV Z), (gz, 58, bytesV Q), (gy, 58, bytesV P)]) := Lib.hid (D12.out.drew.sub (fun b hb => .tail _ hb))
        refine' wpAnyH_take (i := 0) (v := _) rfl (by kernel_rfl) (by kernel_rfl) (by kernel_rfl) (fun _ _ _ h => h) (Or.inl ⟨by rfl, ?taq20⟩) (by assumption) ?tbq20
        case taq20 =>
          intro wS hSw
          (try dsimp only at hSw)
          (have q0 := (hSw.blk (.head _)).strAll HYL.out (by omega); have q1 := (hSw.blk (.tail _ (.head _))).strAll HQL.out (by omega); have q2 := (hSw.blk (.tail _ (.tail _ (.head _)))).strAll HPL.out (by omega); clear hSw; go_simp)
          (try (with_reducible rfl))
        (try simp only [List.getElem_toArray, List.getElem_cons_zero, List.getElem_cons_succ, Act.put, List.setIfInBounds_toArray, List.set_cons_zero, List.set_cons_succ])
        refine' wpAnyH_take (i := 1) (v := _) rfl (by kernel_rfl) (by kernel_rfl) (by kernel_rfl) (fun _ _ _ h => h) (Or.inl ⟨by rfl, ?taq21⟩) (by assumption) ?tbq21
        case taq21 =>
          intro wS hSw
          (try dsimp only at hSw)
          (have q0 := (hSw.blk (.head _)).strAll HYL.out (by omega); have q1 := (hSw.blk (.tail _ (.head _))).strAll HQL.out (by omega); have q2 := (hSw.blk (.tail _ (.tail _ (.head _)))).strAll HPL.out (by omega); clear hSw; go_simp)
          (try (with_reducible rfl))
        (try simp only [List.getElem_toArray, List.getElem_cons_zero, List.getElem_cons_succ, Act.put, List.setIfInBounds_toArray, List.set_cons_zero, List.set_cons_succ])
        refine' wpAnyH_take (i := 2) (v := _) rfl (by kernel_rfl) (by kernel_rfl) (by kernel_rfl) (fun _ _ _ h => h) (Or.inl ⟨by rfl, ?taq22⟩) (by assumption) ?tbq22
        case taq22 =>
          intro wS hSw
          (try dsimp only at hSw)
          (have q0 := (hSw.blk (.head _)).strAll HYL.out (by omega); have q1 := (hSw.blk (.tail _ (.head _))).strAll HQL.out (by omega); have q2 := (hSw.blk (.tail _ (.tail _ (.head _)))).strAll HPL.out (by omega); clear hSw; go_simp)
          (try (with_reducible rfl))
        (try simp only [List.getElem_toArray, List.getElem_cons_zero, List.getElem_cons_succ, Act.put, List.setIfInBounds_toArray, List.set_cons_zero, List.set_cons_succ])
        refine wpAnyH_ready (rs := [3]) (by kernel_rfl) (by simp) ?_
        refine AllReadyH.cons rfl (fun K9 hK9 => ?_) AllReadyH.nil
        (try simp only [List.getElem_toArray, List.getElem_cons_zero, List.getElem_cons_succ])
        go_simp
        refine (ds_sector DB.out _ a0 (.inl R0.out) 1 _ rfl).mono ?_
        rw [HP.out]
        rintro en wg ⟨g7, rfl, h⟩
        have DC := Lib.hid (h.sub (bs' := [(gw, 58, bytesV Z), (gz, 58, bytesV Q), (gy, 58, bytesV P)]) (fun b hb => .tail _ hb))
        have q7 := (h.blk (.head _)).strAll HPL.out (by omega)
        clear h
        refine hK9.out _ _ (DC.out) (fun hHeld9 => ?_)
        clear hK9 K9
        (try simp only [List.getElem_toArray, List.getElem_cons_zero, List.getElem_cons_succ, Act.put, List.setIfInBounds_toArray, List.set_cons_zero, List.set_cons_succ])
        refine wpAnyH_ready (rs := [4]) (by kernel_rfl) (by simp) ?_
        refine AllReadyH.cons rfl (fun K9 hK9 => ?_) AllReadyH.nil
        (try simp only [List.getElem_toArray, List.getElem_cons_zero, List.getElem_cons_succ])
        go_simp
        refine hK9.out _ _ (DC.out) (fun hHeld9 => ?_)
        clear hK9 K9
        (try simp only [List.getElem_toArray, List.getElem_cons_zero, List.getElem_cons_succ, Act.put, List.setIfInBounds_toArray, List.set_cons_zero, List.set_cons_succ])
        refine' wpAnyH_take (i := 5) (v := _) rfl (by kernel_rfl) (by kernel_rfl) (by kernel_rfl) (fun _ _ _ h => h) (Or.inl ⟨by rfl, ?taq23⟩) (by assumption) ?tbq23
        case taq23 =>
          intro wS hSw
          (try dsimp only at hSw)
          (have q0 := (hSw.blk (.head _)).strAll HYL.out (by omega); have q1 := (hSw.blk (.tail _ (.head _))).strAll HQL.out (by omega); have q2 := (hSw.blk (.tail _ (.tail _ (.head _)))).strAll HPL.out (by omega); clear hSw; go_simp)
          (try (with_reducible rfl))
        (try simp only [List.getElem_toArray, List.getElem_cons_zero, List.getElem_cons_succ, Act.put, List.setIfInBounds_toArray, List.set_cons_zero, List.set_cons_succ])
        refine' wpAnyH_take (i := 6) (v := _) rfl (by kernel_rfl) (by kernel_rfl) (by kernel_rfl) (fun _ _ _ h => h) (Or.inl ⟨by rfl, ?taq24⟩) (by assumption) ?tbq24
        case taq24 =>
          intro wS hSw
          (try dsimp only at hSw)
          (have q0 := (hSw.blk (.head _)).strAll HYL.out (by omega); have q1 := (hSw.blk (.tail _ (.head _))).strAll HQL.out (by omega); have q2 := (hSw.blk (.tail _ (.tail _ (.head _)))).strAll HPL.out (by omega); clear hSw; go_simp)
          (try (with_reducible rfl))
        (try simp only [List.getElem_toArray, List.getElem_cons_zero, List.getElem_cons_succ, Act.put, List.setIfInBounds_toArray, List.set_cons_zero, List.set_cons_succ])
        refine' wpAnyH_take (i := 7) (v := _) rfl (by kernel_rfl) (by kernel_rfl) (by kernel_rfl) (fun _ _ _ h => h) (Or.inl ⟨by rfl, ?taq25⟩) (by assumption) ?tbq25
        case taq25 =>
          intro wS hSw
          (try dsimp only at hSw)
          (have q0 := (hSw.blk (.head _)).strAll HYL.out (by omega); have q1 := (hSw.blk (.tail _ (.head _))).strAll HQL.out (by omega); have q2 := (hSw.blk (.tail _ (.tail _ (.head _)))).strAll HPL.out (by omega); clear hSw; go_simp)
          (try (with_reducible rfl))
        (try simp only [List.getElem_toArray, List.getElem_cons_zero, List.getElem_cons_succ, Act.put, List.setIfInBounds_toArray, List.set_cons_zero, List.set_cons_succ])
        refine' wpAnyH_take (i := 8) (v := _) rfl (by kernel_rfl) (by kernel_rfl) (by kernel_rfl) (fun _ _ _ h => h) (Or.inl ⟨by rfl, ?taq26⟩) (by assumption) ?tbq26
        case taq26 =>
          intro wS hSw
          (try dsimp only at hSw)
          (have q0 := (hSw.blk (.head _)).strAll HYL.out (by omega); have q1 := (hSw.blk (.tail _ (.head _))).strAll HQL.out (by omega); have q2 := (hSw.blk (.tail _ (.tail _ (.head _)))).strAll HPL.out (by omega); clear hSw; go_simp)
          (try (with_reducible rfl))
        (try simp only [List.getElem_toArray, List.getElem_cons_zero, List.getElem_cons_succ, Act.put, List.setIfInBounds_toArray, List.set_cons_zero, List.set_cons_succ])
        refine' wpAnyH_take (i := 9) (v := _) rfl (by kernel_rfl) (by kernel_rfl) (by kernel_rfl) (fun _ _ _ h => h) (Or.inl ⟨by rfl, ?taq27⟩) (by assumption) ?tbq27
        case taq27 =>
          intro wS hSw
          (try dsimp only at hSw)
          (have q0 := (hSw.blk (.head _)).strAll HYL.out (by omega); have q1 := (hSw.blk (.tail _ (.head _))).strAll HQL.out (by omega); have q2 := (hSw.blk (.tail _ (.tail _ (.head _)))).strAll HPL.out (by omega); clear hSw; go_simp)
          (try (with_reducible rfl))
        (try simp only [List.getElem_toArray, List.getElem_cons_zero, List.getElem_cons_succ, Act.put, List.setIfInBounds_toArray, List.set_cons_zero, List.set_cons_succ])
        refine wpAnyH_ready (rs := [10]) (by kernel_rfl) (by simp) ?_
        refine AllReadyH.cons rfl (fun K9 hK9 => ?_) AllReadyH.nil
        (try simp only [List.getElem_toArray, List.getElem_cons_zero, List.getElem_cons_succ])
        go_simp
        refine (ds_sector DC.out _ a1 (.inl R1.out) 2 _ rfl).mono ?_
        rw [HQ.out]
        rintro en wh ⟨g8, rfl, h⟩
        have DD := Lib.hid (h.sub (bs' := [(gw, 58, bytesV Z), (gz, 58, bytesV Q), (gy, 58, bytesV P)]) (fun b hb => .tail _ hb))
        have q8 := (h.blk (.head _)).strAll HQL.out (by omega)
        clear h
        refine hK9.out _ _ (DD.out) (fun hHeld9 => ?_)
        clear hK9 K9
        (try simp only [List.getElem_toArray, List.getElem_cons_zero, List.getElem_cons_succ, Act.put, List.setIfInBounds_toArray, List.set_cons_zero, List.set_cons_succ])
        refine wpAnyH_ready (rs := [11]) (by kernel_rfl) (by simp) ?_
        refine AllReadyH.cons rfl (fun K9 hK9 => ?_) AllReadyH.nil
        (try simp only [List.getElem_toArray, List.getElem_cons_zero, List.getElem_cons_succ])
        go_simp
        refine hK9.out _ _ (DD.out) (fun hHeld9 => ?_)
        clear hK9 K9
        (try simp only [List.getElem_toArray, List.getElem_cons_zero, List.getElem_cons_succ, Act.put, List.setIfInBounds_toArray, List.set_cons_zero, List.set_cons_succ])
        refine' wpAnyH_take (i := 12) (v := _) rfl (by kernel_rfl) (by kernel_rfl) (by kernel_rfl) (fun _ _ _ h => h) (Or.inl ⟨by rfl, ?taq28⟩) (by assumption) ?tbq28
        case taq28 =>
          intro wS hSw
          (try dsimp only at hSw)
          (have q0 := (hSw.blk (.head _)).strAll HYL.out (by omega); have q1 := (hSw.blk (.tail _ (.head _))).strAll HQL.out (by omega); have q2 := (hSw.blk (.tail _ (.tail _ (.head _)))).strAll HPL.out (by omega); clear hSw; go_simp)
          (try (with_reducible rfl))
        (try simp only [List.getElem_toArray, List.getElem_cons_zero, List.getElem_cons_succ, Act.put, List.setIfInBounds_toArray, List.set_cons_zero, List.set_cons_succ])
        refine' wpAnyH_take (i := 13) (v := _) rfl (by kernel_rfl) (by kernel_rfl) (by kernel_rfl) (fun _ _ _ h => h) (Or.inl ⟨by rfl, ?taq29⟩) (by assumption) ?tbq29
        case taq29 =>
          intro wS hSw
          (try dsimp only at hSw)
          (have q0 := (hSw.blk (.head _)).strAll HYL.out (by omega); have q1 := (hSw.blk (.tail _ (.head _))).strAll HQL.out (by omega); have q2 := (hSw.blk (.tail _ (.tail _ (.head _)))).strAll HPL.out (by omega); clear hSw; go_simp)
          (try (with_reducible rfl))
        (try simp only [List.getElem_toArray, List.getElem_cons_zero, List.getElem_cons_succ, Act.put, List.setIfInBounds_toArray, List.set_cons_zero, List.set_cons_succ])
        refine' wpAnyH_take (i := 14) (v := _) rfl (by kernel_rfl) (by kernel_rfl) (by kernel_rfl) (fun _ _ _ h => h) (Or.inl ⟨by rfl, ?taq30⟩) (by assumption) ?tbq30
        case taq30 =>
          intro wS hSw
          (try dsimp only at hSw)
          (have q0 := (hSw.blk (.head _)).strAll HYL.out (by omega); have q1 := (hSw.blk (.tail _ (.head _))).strAll HQL.out (by omega); have q2 := (hSw.blk (.tail _ (.tail _ (.head _)))).strAll HPL.out (by omega); clear hSw; go_simp)
          (try (with_reducible rfl))
        (try simp only [List.getElem_toArray, List.getElem_cons_zero, List.getElem_cons_succ, Act.put, List.setIfInBounds_toArray, List.set_cons_zero, List.set_cons_succ])
        refine' wpAnyH_take (i := 15) (v := _) rfl (by kernel_rfl) (by kernel_rfl) (by kernel_rfl) (fun _ _ _ h => h) (Or.inl ⟨by rfl, ?taq31⟩) (by assumption) ?tbq31
        case taq31 =>
          intro wS hSw
          (try dsimp only at hSw)
          (have q0 := (hSw.blk (.head _)).strAll HYL.out (by omega); have q1 := (hSw.blk (.tail _ (.head _))).strAll HQL.out (by omega); have q2 := (hSw.blk (.tail _ (.tail _ (.head _)))).strAll HPL.out (by omega); clear hSw; go_simp)
          (try (with_reducible rfl))
        (try simp only [List.getElem_toArray, List.getElem_cons_zero, List.getElem_cons_succ, Act.put, List.setIfInBounds_toArray, List.set_cons_zero, List.set_cons_succ])
        refine' wpAnyH_take (i := 16) (v := _) rfl (by kernel_rfl) (by kernel_rfl) (by kernel_rfl) (fun _ _ _ h => h) (Or.inl ⟨by rfl, ?taq32⟩) (by assumption) ?tbq32
        case taq32 =>
          intro wS hSw
          (try dsimp only at hSw)
          (have q0 := (hSw.blk (.head _)).strAll HYL.out (by omega); have q1 := (hSw.blk (.tail _ (.head _))).strAll HQL.out (by omega); have q2 := (hSw.blk (.tail _ (.tail _ (.head _)))).strAll HPL.out (by omega); clear hSw; go_simp)
          (try (with_reducible rfl))
        (try simp only [List.getElem_toArray, List.getElem_cons_zero, List.getElem_cons_succ, Act.put, List.setIfInBounds_toArray, List.set_cons_zero, List.set_cons_succ])
        refine' wpAnyH_take (i := 17) (v := _) rfl (by kernel_rfl) (by kernel_rfl) (by kernel_rfl) (fun _ _ _ h => h) (Or.inl ⟨by rfl, ?taq33⟩) (by assumption) ?tbq33
        case taq33 =>
          intro wS hSw
          (try dsimp only at hSw)
          (have q0 := (hSw.blk (.head _)).strAll HYL.out (by omega); have q1 := (hSw.blk (.tail _ (.head _))).strAll HQL.out (by omega); have q2 := (hSw.blk (.tail _ (.tail _ (.head _)))).strAll HPL.out (by omega); clear hSw; go_simp)
          (try (with_reducible rfl))
        (try simp only [List.getElem_toArray, List.getElem_cons_zero, List.getElem_cons_succ, Act.put, List.setIfInBounds_toArray, List.set_cons_zero, List.set_cons_succ])
        refine' wpAnyH_take (i := 18) (v := _) rfl (by kernel_rfl) (by kernel_rfl) (by kernel_rfl) (fun _ _ _ h => h) (Or.inl ⟨by rfl, ?taq34⟩) (by assumption) ?tbq34
        case taq34 =>
          intro wS hSw
          (try dsimp only at hSw)
          (have q0 := (hSw.blk (.head _)).strAll HYL.out (by omega); have q1 := (hSw.blk (.tail _ (.head _))).strAll HQL.out (by omega); have q2 := (hSw.blk (.tail _ (.tail _ (.head _)))).strAll HPL.out (by omega); clear hSw; go_simp)
          (try (with_reducible rfl))
        (try simp only [List.getElem_toArray, List.getElem_cons_zero, List.getElem_cons_succ, Act.put, List.setIfInBounds_toArray, List.set_cons_zero, List.set_cons_succ])
        refine' wpAnyH_take (i := 19) (v := _) rfl (by kernel_rfl) (by kernel_rfl) (by kernel_rfl) (fun _ _ _ h => h) (Or.inl ⟨by rfl, ?taq35⟩) (by assumption) ?tbq35
        case taq35 =>
          intro wS hSw
          (try dsimp only at hSw)
          (have q0 := (hSw.blk (.head _)).strAll HYL.out (by omega); have q1 := (hSw.blk (.tail _ (.head _))).strAll HQL.out (by omega); have q2 := (hSw.blk (.tail _ (.tail _ (.head _)))).strAll HPL.out (by omega); clear hSw; go_simp)
          (try (with_reducible rfl))
        (try simp only [List.getElem_toArray, List.getElem_cons_zero, List.getElem_cons_succ, Act.put, List.setIfInBounds_toArray, List.set_cons_zero, List.set_cons_succ])
        refine' wpAnyH_take (i := 20) (v := _) rfl (by kernel_rfl) (by kernel_rfl) (by kernel_rfl) (fun _ _ _ h => h) (Or.inl ⟨by rfl, ?taq36⟩) (by assumption) ?tbq36
        case taq36 =>
          intro wS hSw
          (try dsimp only at hSw)
          (have q0 := (hSw.blk (.head _)).strAll HYL.out (by omega); have q1 := (hSw.blk (.tail _ (.head _))).strAll HQL.out (by omega); have q2 := (hSw.blk (.tail _ (.tail _ (.head _)))).strAll HPL.out (by omega); clear hSw; go_simp)
          (try (with_reducible rfl))
        (try simp only [List.getElem_toArray, List.getElem_cons_zero, List.getElem_cons_succ, Act.put, List.setIfInBounds_toArray, List.set_cons_zero, List.set_cons_succ])
        refine wpAnyH_ready (rs := [21]) (by kernel_rfl) (by simp) ?_
        refine AllReadyH.cons rfl (fun K9 hK9 => ?_) AllReadyH.nil
        (try simp only [List.getElem_toArray, List.getElem_cons_zero, List.getElem_cons_succ])
        go_simp
        refine (awake5_any wh).mono ?_
        rintro en wi ⟨rfl, hbf⟩
        have DE := Lib.hid (DD.out.below hbf)
        clear hbf
        refine hK9.out _ _ (DE.out) (fun hHeld9 => ?_)
        clear hK9 K9
        (try simp only [List.getElem_toArray, List.getElem_cons_zero, List.getElem_cons_succ, Act.put, List.setIfInBounds_toArray, List.set_cons_zero, List.set_cons_succ])
        refine' wpAnyH_take (i := 22) (v := _) rfl (by kernel_rfl) (by kernel_rfl) (by kernel_rfl) (fun _ _ _ h => h) (Or.inl ⟨by rfl, ?taq37⟩) (by assumption) ?tbq37
        case taq37 =>
          intro wS hSw
          (try dsimp only at hSw)
          (have q0 := (hSw.blk (.head _)).strAll HYL.out (by omega); have q1 := (hSw.blk (.tail _ (.head _))).strAll HQL.out (by omega); have q2 := (hSw.blk (.tail _ (.tail _ (.head _)))).strAll HPL.out (by omega); clear hSw; go_simp)
          (try (with_reducible rfl))
        (try simp only [List.getElem_toArray, List.getElem_cons_zero, List.getElem_cons_succ, Act.put, List.setIfInBounds_toArray, List.set_cons_zero, List.set_cons_succ])
        refine' wpAnyH_take (i := 23) (v := _) rfl (by kernel_rfl) (by kernel_rfl) (by kernel_rfl) (fun _ _ _ h => h) (Or.inl ⟨by rfl, ?taq38⟩) (by assumption) ?tbq38
        case taq38 =>
          intro wS hSw
          (try dsimp only at hSw)
          (have q0 := (hSw.blk (.head _)).strAll HYL.out (by omega); have q1 := (hSw.blk (.tail _ (.head _))).strAll HQL.out (by omega); have q2 := (hSw.blk (.tail _ (.tail _ (.head _)))).strAll HPL.out (by omega); clear hSw; go_simp)
          (try (with_reducible rfl))
        (try simp only [List.getElem_toArray, List.getElem_cons_zero, List.getElem_cons_succ, Act.put, List.setIfInBounds_toArray, List.set_cons_zero, List.set_cons_succ])
        refine wpAnyH_done (by kernel_rfl) ?_ _
        go_wp2
        go_ret
        exact ⟨rfl, DE.out.bel⟩
end Go.Proofs.Ytcgmgogkfhlgpaa
