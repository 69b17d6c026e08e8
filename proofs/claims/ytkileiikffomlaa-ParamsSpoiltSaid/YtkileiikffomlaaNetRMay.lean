/- Contracts of the reference's mayIn, mayLayer, MayModel. -/
import Derived.Test.YtkileiikffomlaaNetMay2
import Derived.Deep.RegionHeld3
import Derived.Deep.DrawnRows
namespace Go.Proofs.Ytkileiikffomlaa
open Go.RowKit
set_option linter.unusedVariables false
set_option linter.unusedSimpArgs false
attribute [local go_sem high] eql_layer

theorem rmayin_any (a b c : Int) (r : Bool) (hr : entersI a b c = r) (w : World) :
    Calls Try.prog 40 #[.agg #[.int .i64 a, .int .i64 b, .int .i64 c]] w fun en w' => en = .returned (.bool r) ∧ Below w.heap.size w w' := by
  subst hr
  obtain ⟨c1, h1⟩ : ∃ x, inI a 1 8 = x := ⟨_, rfl⟩
  obtain ⟨c2, h2⟩ : ∃ x, inI b 1 16 = x := ⟨_, rfl⟩
  obtain ⟨c3, h3⟩ : ∃ x, inI c 1 16 = x := ⟨_, rfl⟩
  have H1 := Lib.hid (rin_any a 1 8 c1 h1)
  have H2 := Lib.hid (rin_any b 1 16 c2 h2)
  have H3 := Lib.hid (rin_any c 1 16 c3 h3)
  have hq : entersI a b c = ((c1 && c2) && c3) := by unfold entersI; rw [h1, h2, h3]
  rw [hq]
  clear hq h1 h2 h3
  cases c1 <;> cases c2 <;>
  · go_enter Try.func40, Try.ntmps40
    go_wp2_with (first
      | (go_at_call 35; (with_reducible refine (H1.out _).mono ?_); rintro en w' ⟨rfl, rfl⟩)
      | (go_at_call 35; (with_reducible refine (H2.out _).mono ?_); rintro en w' ⟨rfl, rfl⟩)
      | (go_at_call 35; (with_reducible refine (H3.out _).mono ?_); rintro en w' ⟨rfl, rfl⟩))
    go_ret
    exact ⟨rfl, net_one w _⟩


set_option maxHeartbeats 6400000 in
set_option maxRecDepth 100000 in
theorem rmayL_any (kd out k st pd fr : Int) (fz : Bool) (ah : Int) (ha0 : 0 ≤ ah) (ha1 : ah ≤ 1000000) (r : Bool) (hr : mayL ⟨kd, out, k, st, pd, fr, fz⟩ ah = r) (w : World) :
    Calls Try.prog 41 #[.agg #[.int .i64 kd, .int .i64 out, .int .i64 k, .int .i64 st, .int .i64 pd, .int .i64 fr, .bool fz], .int .i64 ah] w fun en w' => en = .returned (.bool r) ∧ Below w.heap.size w w' := by
  have HR := Lib.hid hr
  clear hr
  by_cases hd : kd = 1
  · subst hd
    obtain ⟨c1, h1⟩ : ∃ x, inI out 1 4096 = x := ⟨_, rfl⟩
    have H1 := Lib.hid (rin_any out 1 4096 c1 h1)
    have HQ : Hid ((c1 && sameL ⟨1, out, k, st, pd, fr, fz⟩ ⟨1, out, 0, 0, 0, 0, fz⟩) = mayL ⟨1, out, k, st, pd, fr, fz⟩ ah) := Lib.hid (by unfold mayL okL plainL windowI; rw [← h1]; rfl)
    clear h1
    go_enter Try.func41, Try.ntmps41
    go_wp2_with fail
    go_region
    all_goals
      cases c1 <;>
      · go_wp2_with (go_at_call 35; (with_reducible refine (H1.out _).mono ?_); rintro en w2 ⟨rfl, rfl⟩)
        go_ret
        refine ⟨?_, ?_⟩
        · rw [← HR.out, ← HQ.out]; rfl
        · first | exact net_two w _ _ | exact (net_two w _ _).drew
  · have t1 : (kd == 1) = false := by simpa using hd
    have T1 := Lib.hid hd
    clear hd
    by_cases hd : kd = 2
    · subst hd
      obtain ⟨c1, h1⟩ : ∃ x, inI out 1 8 = x := ⟨_, rfl⟩
      obtain ⟨c2, h2⟩ : ∃ x, inI k 1 5 = x := ⟨_, rfl⟩
      obtain ⟨c3, h3⟩ : ∃ x, inI st 1 4 = x := ⟨_, rfl⟩
      obtain ⟨c4, h4⟩ : ∃ x, inI pd 0 (k - 1) = x := ⟨_, rfl⟩
      have H1 := Lib.hid (rin_any out 1 8 c1 h1)
      have H2 := Lib.hid (rin_any k 1 5 c2 h2)
      have H3 := Lib.hid (rin_any st 1 4 c3 h3)
      have H4 := Lib.hid (rin_any pd 0 (k - 1) c4 h4)
      have HQ : Hid ((((c1 && (c2 && c3)) && c4) && sameL ⟨2, out, k, st, pd, fr, fz⟩ ⟨2, out, k, st, pd, 0, fz⟩) = mayL ⟨2, out, k, st, pd, fr, fz⟩ ah) := Lib.hid (by unfold mayL okL plainL windowI; rw [← h1, ← h2, ← h3, ← h4]; rfl)
      have HB : Hid (c2 = true → 1 ≤ k ∧ k ≤ 5) := Lib.hid (fun hc => inI_of (by rw [h2, hc]))
      clear h1 h2 h3 h4
      go_enter Try.func41, Try.ntmps41
      go_upto_region 9 with fail
      have hL := Blk.fresh w 43 [.int .i64 2, .int .i64 out, .int .i64 k, .int .i64 st, .int .i64 pd, .int .i64 fr, .bool fz]
      refine wp_region_held_drew (S := (fun w' => w'.cell? ⟨w.heap.size, 0, none⟩ = some (.int .i64 2) ∧ w'.cell? ⟨w.heap.size, 1, none⟩ = some (.int .i64 out) ∧ w'.cell? ⟨w.heap.size, 2, none⟩ = some (.int .i64 k) ∧ w'.cell? ⟨w.heap.size, 3, none⟩ = some (.int .i64 st) ∧ w'.cell? ⟨w.heap.size, 4, none⟩ = some (.int .i64 pd) ∧ w'.cell? ⟨w.heap.size, 5, none⟩ = some (.int .i64 fr) ∧ w'.cell? ⟨w.heap.size, 6, none⟩ = some (.bool fz))) (by kernel_rfl) (⟨((hL.alloc (.cells #[.int .i64 2, .int .i64 0, .int .i64 0, .int .i64 0, .int .i64 0, .int .i64 0, .bool false] 43)).drew).cell 0, ((hL.alloc (.cells #[.int .i64 2, .int .i64 0, .int .i64 0, .int .i64 0, .int .i64 0, .int .i64 0, .bool false] 43)).drew).cell 1, ((hL.alloc (.cells #[.int .i64 2, .int .i64 0, .int .i64 0, .int .i64 0, .int .i64 0, .int .i64 0, .bool false] 43)).drew).cell 2, ((hL.alloc (.cells #[.int .i64 2, .int .i64 0, .int .i64 0, .int .i64 0, .int .i64 0, .int .i64 0, .bool false] 43)).drew).cell 3, ((hL.alloc (.cells #[.int .i64 2, .int .i64 0, .int .i64 0, .int .i64 0, .int .i64 0, .int .i64 0, .bool false] 43)).drew).cell 4, ((hL.alloc (.cells #[.int .i64 2, .int .i64 0, .int .i64 0, .int .i64 0, .int .i64 0, .int .i64 0, .bool false] 43)).drew).cell 5, ((hL.alloc (.cells #[.int .i64 2, .int .i64 0, .int .i64 0, .int .i64 0, .int .i64 0, .int .i64 0, .bool false] 43)).drew).cell 6⟩) (fun hHeld => ?_)
      refine' wpAnyH_take (i := 0) (v := _) rfl (by kernel_rfl) (by kernel_rfl) (by kernel_rfl) (fun _ _ _ h => h) (Or.inl ⟨by rfl, ?taq1⟩) (by assumption) ?tbq1
      case taq1 =>
        intro wS hSw
        (try dsimp only at hSw)
        go_simp
        (try (with_reducible rfl))
      (try simp only [List.getElem_toArray, List.getElem_cons_zero, List.getElem_cons_succ, Act.put, List.setIfInBounds_toArray, List.set_cons_zero, List.set_cons_succ])
      refine' wpAnyH_take (i := 1) (v := _) rfl (by kernel_rfl) (by kernel_rfl) (by kernel_rfl) (fun _ _ _ h => h) (Or.inl ⟨by rfl, ?taq2⟩) (by assumption) ?tbq2
      case taq2 =>
        intro wS hSw
        (try dsimp only at hSw)
        go_simp
        (try (with_reducible rfl))
      (try simp only [List.getElem_toArray, List.getElem_cons_zero, List.getElem_cons_succ, Act.put, List.setIfInBounds_toArray, List.set_cons_zero, List.set_cons_succ])
      refine' wpAnyH_take (i := 2) (v := _) rfl (by kernel_rfl) (by kernel_rfl) (by kernel_rfl) (fun _ _ _ h => h) (Or.inl ⟨by rfl, ?taq3⟩) (by assumption) ?tbq3
      case taq3 =>
        intro wS hSw
        (try dsimp only at hSw)
        go_simp
        (try (with_reducible rfl))
      (try simp only [List.getElem_toArray, List.getElem_cons_zero, List.getElem_cons_succ, Act.put, List.setIfInBounds_toArray, List.set_cons_zero, List.set_cons_succ])
      refine' wpAnyH_take (i := 3) (v := _) rfl (by kernel_rfl) (by kernel_rfl) (by kernel_rfl) (fun _ _ _ h => h) (Or.inl ⟨by rfl, ?taq4⟩) (by assumption) ?tbq4
      case taq4 =>
        intro wS hSw
        (try dsimp only at hSw)
        go_simp
        (try (with_reducible rfl))
      (try simp only [List.getElem_toArray, List.getElem_cons_zero, List.getElem_cons_succ, Act.put, List.setIfInBounds_toArray, List.set_cons_zero, List.set_cons_succ])
      refine' wpAnyH_take (i := 4) (v := _) rfl (by kernel_rfl) (by kernel_rfl) (by kernel_rfl) (fun _ _ _ h => h) (Or.inl ⟨by rfl, ?taq5⟩) (by assumption) ?tbq5
      case taq5 =>
        intro wS hSw
        (try dsimp only at hSw)
        go_simp
        (try (with_reducible rfl))
      (try simp only [List.getElem_toArray, List.getElem_cons_zero, List.getElem_cons_succ, Act.put, List.setIfInBounds_toArray, List.set_cons_zero, List.set_cons_succ])
      refine' wpAnyH_take (i := 5) (v := _) rfl (by kernel_rfl) (by kernel_rfl) (by kernel_rfl) (fun _ _ _ h => h) (Or.inl ⟨by rfl, ?taq6⟩) (by assumption) ?tbq6
      case taq6 =>
        intro wS hSw
        (try dsimp only at hSw)
        go_simp
        (try (with_reducible rfl))
      (try simp only [List.getElem_toArray, List.getElem_cons_zero, List.getElem_cons_succ, Act.put, List.setIfInBounds_toArray, List.set_cons_zero, List.set_cons_succ])
      refine' wpAnyH_take (i := 6) (v := _) rfl (by kernel_rfl) (by kernel_rfl) (by kernel_rfl) (fun _ _ _ h => h) (Or.inl ⟨by rfl, ?taq7⟩) (by assumption) ?tbq7
      case taq7 =>
        intro wS hSw
        (try dsimp only at hSw)
        go_simp
        (try (with_reducible rfl))
      (try simp only [List.getElem_toArray, List.getElem_cons_zero, List.getElem_cons_succ, Act.put, List.setIfInBounds_toArray, List.set_cons_zero, List.set_cons_succ])
      refine' wpAnyH_take (i := 7) (v := _) rfl (by kernel_rfl) (by kernel_rfl) (by kernel_rfl) (fun _ _ _ h => h) (Or.inl ⟨by rfl, ?taq8⟩) (by assumption) ?tbq8
      case taq8 =>
        intro wS hSw
        (try dsimp only at hSw)
        go_simp
        (try (with_reducible rfl))
      (try simp only [List.getElem_toArray, List.getElem_cons_zero, List.getElem_cons_succ, Act.put, List.setIfInBounds_toArray, List.set_cons_zero, List.set_cons_succ])
      refine' wpAnyH_take (i := 8) (v := _) rfl (by kernel_rfl) (by kernel_rfl) (by kernel_rfl) (fun _ _ _ h => h) (Or.inl ⟨by rfl, ?taq9⟩) (by assumption) ?tbq9
      case taq9 =>
        intro wS hSw
        (try dsimp only at hSw)
        go_simp
        (try (with_reducible rfl))
      (try simp only [List.getElem_toArray, List.getElem_cons_zero, List.getElem_cons_succ, Act.put, List.setIfInBounds_toArray, List.set_cons_zero, List.set_cons_succ])
      refine' wpAnyH_take (i := 9) (v := _) rfl (by kernel_rfl) (by kernel_rfl) (by kernel_rfl) (fun _ _ _ h => h) (Or.inl ⟨by rfl, ?taq10⟩) (by assumption) ?tbq10
      case taq10 =>
        intro wS hSw
        (try dsimp only at hSw)
        go_simp
        (try (with_reducible rfl))
      (try simp only [List.getElem_toArray, List.getElem_cons_zero, List.getElem_cons_succ, Act.put, List.setIfInBounds_toArray, List.set_cons_zero, List.set_cons_succ])
      refine' wpAnyH_take (i := 10) (v := _) rfl (by kernel_rfl) (by kernel_rfl) (by kernel_rfl) (fun _ _ _ h => h) (Or.inl ⟨by rfl, ?taq11⟩) (by assumption) ?tbq11
      case taq11 =>
        intro wS hSw
        (try dsimp only at hSw)
        go_simp
        (try (with_reducible rfl))
      (try simp only [List.getElem_toArray, List.getElem_cons_zero, List.getElem_cons_succ, Act.put, List.setIfInBounds_toArray, List.set_cons_zero, List.set_cons_succ])
      refine wpAnyH_ready (rs := [11]) (by kernel_rfl) (by simp) ?_
      refine AllReadyH.cons rfl (fun K9 hK9 => ?_) AllReadyH.nil
      (try simp only [List.getElem_toArray, List.getElem_cons_zero, List.getElem_cons_succ])
      go_simp
      refine hK9.out _ _ (⟨((hL.alloc (.cells #[.int .i64 2, .int .i64 out, .int .i64 0, .int .i64 0, .int .i64 0, .int .i64 0, .bool false] 43)).drew).cell 0, ((hL.alloc (.cells #[.int .i64 2, .int .i64 out, .int .i64 0, .int .i64 0, .int .i64 0, .int .i64 0, .bool false] 43)).drew).cell 1, ((hL.alloc (.cells #[.int .i64 2, .int .i64 out, .int .i64 0, .int .i64 0, .int .i64 0, .int .i64 0, .bool false] 43)).drew).cell 2, ((hL.alloc (.cells #[.int .i64 2, .int .i64 out, .int .i64 0, .int .i64 0, .int .i64 0, .int .i64 0, .bool false] 43)).drew).cell 3, ((hL.alloc (.cells #[.int .i64 2, .int .i64 out, .int .i64 0, .int .i64 0, .int .i64 0, .int .i64 0, .bool false] 43)).drew).cell 4, ((hL.alloc (.cells #[.int .i64 2, .int .i64 out, .int .i64 0, .int .i64 0, .int .i64 0, .int .i64 0, .bool false] 43)).drew).cell 5, ((hL.alloc (.cells #[.int .i64 2, .int .i64 out, .int .i64 0, .int .i64 0, .int .i64 0, .int .i64 0, .bool false] 43)).drew).cell 6⟩) (fun hHeld9 => ?_)
      clear hK9 K9
      (try simp only [List.getElem_toArray, List.getElem_cons_zero, List.getElem_cons_succ, Act.put, List.setIfInBounds_toArray, List.set_cons_zero, List.set_cons_succ])
      refine' wpAnyH_take (i := 12) (v := _) rfl (by kernel_rfl) (by kernel_rfl) (by kernel_rfl) (fun _ _ _ h => h) (Or.inl ⟨by rfl, ?taq12⟩) (by assumption) ?tbq12
      case taq12 =>
        intro wS hSw
        (try dsimp only at hSw)
        go_simp
        (try (with_reducible rfl))
      (try simp only [List.getElem_toArray, List.getElem_cons_zero, List.getElem_cons_succ, Act.put, List.setIfInBounds_toArray, List.set_cons_zero, List.set_cons_succ])
      refine wpAnyH_ready (rs := [13]) (by kernel_rfl) (by simp) ?_
      refine AllReadyH.cons rfl (fun K9 hK9 => ?_) AllReadyH.nil
      (try simp only [List.getElem_toArray, List.getElem_cons_zero, List.getElem_cons_succ])
      go_simp
      refine hK9.out _ _ (⟨((hL.alloc (.cells #[.int .i64 2, .int .i64 out, .int .i64 k, .int .i64 0, .int .i64 0, .int .i64 0, .bool false] 43)).drew).cell 0, ((hL.alloc (.cells #[.int .i64 2, .int .i64 out, .int .i64 k, .int .i64 0, .int .i64 0, .int .i64 0, .bool false] 43)).drew).cell 1, ((hL.alloc (.cells #[.int .i64 2, .int .i64 out, .int .i64 k, .int .i64 0, .int .i64 0, .int .i64 0, .bool false] 43)).drew).cell 2, ((hL.alloc (.cells #[.int .i64 2, .int .i64 out, .int .i64 k, .int .i64 0, .int .i64 0, .int .i64 0, .bool false] 43)).drew).cell 3, ((hL.alloc (.cells #[.int .i64 2, .int .i64 out, .int .i64 k, .int .i64 0, .int .i64 0, .int .i64 0, .bool false] 43)).drew).cell 4, ((hL.alloc (.cells #[.int .i64 2, .int .i64 out, .int .i64 k, .int .i64 0, .int .i64 0, .int .i64 0, .bool false] 43)).drew).cell 5, ((hL.alloc (.cells #[.int .i64 2, .int .i64 out, .int .i64 k, .int .i64 0, .int .i64 0, .int .i64 0, .bool false] 43)).drew).cell 6⟩) (fun hHeld9 => ?_)
      clear hK9 K9
      (try simp only [List.getElem_toArray, List.getElem_cons_zero, List.getElem_cons_succ, Act.put, List.setIfInBounds_toArray, List.set_cons_zero, List.set_cons_succ])
      refine' wpAnyH_take (i := 14) (v := _) rfl (by kernel_rfl) (by kernel_rfl) (by kernel_rfl) (fun _ _ _ h => h) (Or.inl ⟨by rfl, ?taq13⟩) (by assumption) ?tbq13
      case taq13 =>
        intro wS hSw
        (try dsimp only at hSw)
        go_simp
        (try (with_reducible rfl))
      (try simp only [List.getElem_toArray, List.getElem_cons_zero, List.getElem_cons_succ, Act.put, List.setIfInBounds_toArray, List.set_cons_zero, List.set_cons_succ])
      refine wpAnyH_ready (rs := [15]) (by kernel_rfl) (by simp) ?_
      refine AllReadyH.cons rfl (fun K9 hK9 => ?_) AllReadyH.nil
      (try simp only [List.getElem_toArray, List.getElem_cons_zero, List.getElem_cons_succ])
      go_simp
      refine hK9.out _ _ (⟨((hL.alloc (.cells #[.int .i64 2, .int .i64 out, .int .i64 k, .int .i64 st, .int .i64 0, .int .i64 0, .bool false] 43)).drew).cell 0, ((hL.alloc (.cells #[.int .i64 2, .int .i64 out, .int .i64 k, .int .i64 st, .int .i64 0, .int .i64 0, .bool false] 43)).drew).cell 1, ((hL.alloc (.cells #[.int .i64 2, .int .i64 out, .int .i64 k, .int .i64 st, .int .i64 0, .int .i64 0, .bool false] 43)).drew).cell 2, ((hL.alloc (.cells #[.int .i64 2, .int .i64 out, .int .i64 k, .int .i64 st, .int .i64 0, .int .i64 0, .bool false] 43)).drew).cell 3, ((hL.alloc (.cells #[.int .i64 2, .int .i64 out, .int .i64 k, .int .i64 st, .int .i64 0, .int .i64 0, .bool false] 43)).drew).cell 4, ((hL.alloc (.cells #[.int .i64 2, .int .i64 out, .int .i64 k, .int .i64 st, .int .i64 0, .int .i64 0, .bool false] 43)).drew).cell 5, ((hL.alloc (.cells #[.int .i64 2, .int .i64 out, .int .i64 k, .int .i64 st, .int .i64 0, .int .i64 0, .bool false] 43)).drew).cell 6⟩) (fun hHeld9 => ?_)
      clear hK9 K9
      (try simp only [List.getElem_toArray, List.getElem_cons_zero, List.getElem_cons_succ, Act.put, List.setIfInBounds_toArray, List.set_cons_zero, List.set_cons_succ])
      refine' wpAnyH_take (i := 16) (v := _) rfl (by kernel_rfl) (by kernel_rfl) (by kernel_rfl) (fun _ _ _ h => h) (Or.inl ⟨by rfl, ?taq14⟩) (by assumption) ?tbq14
      case taq14 =>
        intro wS hSw
        (try dsimp only at hSw)
        go_simp
        (try (with_reducible rfl))
      (try simp only [List.getElem_toArray, List.getElem_cons_zero, List.getElem_cons_succ, Act.put, List.setIfInBounds_toArray, List.set_cons_zero, List.set_cons_succ])
      refine wpAnyH_ready (rs := [17]) (by kernel_rfl) (by simp) ?_
      refine AllReadyH.cons rfl (fun K9 hK9 => ?_) AllReadyH.nil
      (try simp only [List.getElem_toArray, List.getElem_cons_zero, List.getElem_cons_succ])
      go_simp
      refine hK9.out _ _ (⟨((hL.alloc (.cells #[.int .i64 2, .int .i64 out, .int .i64 k, .int .i64 st, .int .i64 pd, .int .i64 0, .bool false] 43)).drew).cell 0, ((hL.alloc (.cells #[.int .i64 2, .int .i64 out, .int .i64 k, .int .i64 st, .int .i64 pd, .int .i64 0, .bool false] 43)).drew).cell 1, ((hL.alloc (.cells #[.int .i64 2, .int .i64 out, .int .i64 k, .int .i64 st, .int .i64 pd, .int .i64 0, .bool false] 43)).drew).cell 2, ((hL.alloc (.cells #[.int .i64 2, .int .i64 out, .int .i64 k, .int .i64 st, .int .i64 pd, .int .i64 0, .bool false] 43)).drew).cell 3, ((hL.alloc (.cells #[.int .i64 2, .int .i64 out, .int .i64 k, .int .i64 st, .int .i64 pd, .int .i64 0, .bool false] 43)).drew).cell 4, ((hL.alloc (.cells #[.int .i64 2, .int .i64 out, .int .i64 k, .int .i64 st, .int .i64 pd, .int .i64 0, .bool false] 43)).drew).cell 5, ((hL.alloc (.cells #[.int .i64 2, .int .i64 out, .int .i64 k, .int .i64 st, .int .i64 pd, .int .i64 0, .bool false] 43)).drew).cell 6⟩) (fun hHeld9 => ?_)
      clear hK9 K9
      (try simp only [List.getElem_toArray, List.getElem_cons_zero, List.getElem_cons_succ, Act.put, List.setIfInBounds_toArray, List.set_cons_zero, List.set_cons_succ])
      refine' wpAnyH_take (i := 18) (v := _) rfl (by kernel_rfl) (by kernel_rfl) (by kernel_rfl) (fun _ _ _ h => h) (Or.inl ⟨by rfl, ?taq15⟩) (by assumption) ?tbq15
      case taq15 =>
        intro wS hSw
        (try dsimp only at hSw)
        go_simp
        (try (with_reducible rfl))
      (try simp only [List.getElem_toArray, List.getElem_cons_zero, List.getElem_cons_succ, Act.put, List.setIfInBounds_toArray, List.set_cons_zero, List.set_cons_succ])
      refine wpAnyH_ready (rs := [19]) (by kernel_rfl) (by simp) ?_
      refine AllReadyH.cons rfl (fun K9 hK9 => ?_) AllReadyH.nil
      (try simp only [List.getElem_toArray, List.getElem_cons_zero, List.getElem_cons_succ])
      go_simp
      refine hK9.out _ _ (⟨((hL.alloc (.cells #[.int .i64 2, .int .i64 out, .int .i64 k, .int .i64 st, .int .i64 pd, .int .i64 0, .bool fz] 43)).drew).cell 0, ((hL.alloc (.cells #[.int .i64 2, .int .i64 out, .int .i64 k, .int .i64 st, .int .i64 pd, .int .i64 0, .bool fz] 43)).drew).cell 1, ((hL.alloc (.cells #[.int .i64 2, .int .i64 out, .int .i64 k, .int .i64 st, .int .i64 pd, .int .i64 0, .bool fz] 43)).drew).cell 2, ((hL.alloc (.cells #[.int .i64 2, .int .i64 out, .int .i64 k, .int .i64 st, .int .i64 pd, .int .i64 0, .bool fz] 43)).drew).cell 3, ((hL.alloc (.cells #[.int .i64 2, .int .i64 out, .int .i64 k, .int .i64 st, .int .i64 pd, .int .i64 0, .bool fz] 43)).drew).cell 4, ((hL.alloc (.cells #[.int .i64 2, .int .i64 out, .int .i64 k, .int .i64 st, .int .i64 pd, .int .i64 0, .bool fz] 43)).drew).cell 5, ((hL.alloc (.cells #[.int .i64 2, .int .i64 out, .int .i64 k, .int .i64 st, .int .i64 pd, .int .i64 0, .bool fz] 43)).drew).cell 6⟩) (fun hHeld9 => ?_)
      clear hK9 K9
      (try simp only [List.getElem_toArray, List.getElem_cons_zero, List.getElem_cons_succ, Act.put, List.setIfInBounds_toArray, List.set_cons_zero, List.set_cons_succ])
      refine wpAnyH_done (by kernel_rfl) ?_ _
      clear hL
      cases c1 with
      | false =>
        go_wp2_with (first | (go_at_call 35; (with_reducible refine (H1.out _).mono ?_); rintro en w2 ⟨rfl, rfl⟩))
        go_ret
        refine ⟨?_, ?_⟩
        · rw [← HR.out, ← HQ.out]; rfl
        · first | exact net_two w _ _ | exact (net_two w _ _).drew
      | true =>
        cases c2 with
        | false =>
          go_wp2_with (first | (go_at_call 35; (with_reducible refine (H1.out _).mono ?_); rintro en w2 ⟨rfl, rfl⟩) | (go_at_call 35; (with_reducible refine (H2.out _).mono ?_); rintro en w2 ⟨rfl, rfl⟩))
          go_ret
          refine ⟨?_, ?_⟩
          · rw [← HR.out, ← HQ.out]; rfl
          · first | exact net_two w _ _ | exact (net_two w _ _).drew
        | true =>
          obtain ⟨k0, k1⟩ := HB.out rfl
          cases c3 with
          | false =>
            go_wp2_with (first | (go_at_call 35; (with_reducible refine (H1.out _).mono ?_); rintro en w2 ⟨rfl, rfl⟩) | (go_at_call 35; (with_reducible refine (H2.out _).mono ?_); rintro en w2 ⟨rfl, rfl⟩) | (go_at_call 35; (with_reducible refine (H3.out _).mono ?_); rintro en w2 ⟨rfl, rfl⟩))
            go_ret
            refine ⟨?_, ?_⟩
            · rw [← HR.out, ← HQ.out]; rfl
            · first | exact net_two w _ _ | exact (net_two w _ _).drew
          | true =>
            cases c4 <;>
            · go_wp2_with (first | (go_at_call 35; (with_reducible refine (H1.out _).mono ?_); rintro en w2 ⟨rfl, rfl⟩) | (go_at_call 35; (with_reducible refine (H2.out _).mono ?_); rintro en w2 ⟨rfl, rfl⟩) | (go_at_call 35; (with_reducible refine (H3.out _).mono ?_); rintro en w2 ⟨rfl, rfl⟩) | (go_at_call 35; (with_reducible refine (H4.out _).mono ?_); rintro en w2 ⟨rfl, rfl⟩))
              go_ret
              refine ⟨?_, ?_⟩
              · rw [← HR.out, ← HQ.out]; rfl
              · first | exact net_two w _ _ | exact (net_two w _ _).drew
    · have t2 : (kd == 2) = false := by simpa using hd
      have T2 := Lib.hid hd
      clear hd
      by_cases hd : kd = 3
      · subst hd
        obtain ⟨c1, h1⟩ : ∃ x, inI k 1 5 = x := ⟨_, rfl⟩
        obtain ⟨c2, h2⟩ : ∃ x, inI st 1 4 = x := ⟨_, rfl⟩
        have H1 := Lib.hid (rin_any k 1 5 c1 h1)
        have H2 := Lib.hid (rin_any st 1 4 c2 h2)
        have HQ : Hid (((c1 && c2) && sameL ⟨3, out, k, st, pd, fr, fz⟩ ⟨3, 0, k, st, 0, 0, false⟩) = mayL ⟨3, out, k, st, pd, fr, fz⟩ ah) := Lib.hid (by unfold mayL okL plainL windowI; rw [← h1, ← h2]; rfl)
        clear h1 h2
        go_enter Try.func41, Try.ntmps41
        go_wp2_with fail
        go_region
        all_goals
          cases c1 <;> cases c2 <;>
          · go_wp2_with (first | (go_at_call 35; (with_reducible refine (H1.out _).mono ?_); rintro en w2 ⟨rfl, rfl⟩) | (go_at_call 35; (with_reducible refine (H2.out _).mono ?_); rintro en w2 ⟨rfl, rfl⟩))
            go_ret
            refine ⟨?_, ?_⟩
            · rw [← HR.out, ← HQ.out]; rfl
            · first | exact net_two w _ _ | exact (net_two w _ _).drew
      · have t3 : (kd == 3) = false := by simpa using hd
        have T3 := Lib.hid hd
        clear hd
        by_cases hd : kd = 4
        · subst hd
          obtain ⟨c1, h1⟩ : ∃ x, inI k 1 5 = x := ⟨_, rfl⟩
          obtain ⟨c2, h2⟩ : ∃ x, inI st 1 4 = x := ⟨_, rfl⟩
          have H1 := Lib.hid (rin_any k 1 5 c1 h1)
          have H2 := Lib.hid (rin_any st 1 4 c2 h2)
          have HQ : Hid (((c1 && c2) && sameL ⟨4, out, k, st, pd, fr, fz⟩ ⟨4, 0, k, st, 0, 0, false⟩) = mayL ⟨4, out, k, st, pd, fr, fz⟩ ah) := Lib.hid (by unfold mayL okL plainL windowI; rw [← h1, ← h2]; rfl)
          clear h1 h2
          go_enter Try.func41, Try.ntmps41
          go_wp2_with fail
          go_region
          all_goals
            cases c1 <;> cases c2 <;>
            · go_wp2_with (first | (go_at_call 35; (with_reducible refine (H1.out _).mono ?_); rintro en w2 ⟨rfl, rfl⟩) | (go_at_call 35; (with_reducible refine (H2.out _).mono ?_); rintro en w2 ⟨rfl, rfl⟩))
              go_ret
              refine ⟨?_, ?_⟩
              · rw [← HR.out, ← HQ.out]; rfl
              · first | exact net_two w _ _ | exact (net_two w _ _).drew
        · have t4 : (kd == 4) = false := by simpa using hd
          have T4 := Lib.hid hd
          clear hd
          by_cases hd : kd = 5
          · subst hd
            have HQ : Hid ((true && sameL ⟨5, out, k, st, pd, fr, fz⟩ ⟨5, 0, 0, 0, 0, 0, false⟩) = mayL ⟨5, out, k, st, pd, fr, fz⟩ ah) := Lib.hid (by unfold mayL okL plainL windowI; rfl)
            go_enter Try.func41, Try.ntmps41
            go_wp2
            go_ret
            refine ⟨?_, ?_⟩
            · rw [← HR.out, ← HQ.out]; rfl
            · first | exact net_two w _ _ | exact (net_two w _ _).drew
          · have t5 : (kd == 5) = false := by simpa using hd
            have T5 := Lib.hid hd
            clear hd
            by_cases hd : kd = 6
            · subst hd
              have HQ : Hid ((true && sameL ⟨6, out, k, st, pd, fr, fz⟩ ⟨6, 0, 0, 0, 0, 0, false⟩) = mayL ⟨6, out, k, st, pd, fr, fz⟩ ah) := Lib.hid (by unfold mayL okL plainL windowI; rfl)
              go_enter Try.func41, Try.ntmps41
              go_wp2
              go_ret
              refine ⟨?_, ?_⟩
              · rw [← HR.out, ← HQ.out]; rfl
              · first | exact net_two w _ _ | exact (net_two w _ _).drew
            · have t6 : (kd == 6) = false := by simpa using hd
              have T6 := Lib.hid hd
              clear hd
              by_cases hd : kd = 7
              · subst hd
                obtain ⟨c1, h1⟩ : ∃ x, inI fr 0 (ah - 1) = x := ⟨_, rfl⟩
                have H1 := Lib.hid (rin_any fr 0 (ah - 1) c1 h1)
                have HQ : Hid ((c1 && sameL ⟨7, out, k, st, pd, fr, fz⟩ ⟨7, 0, 0, 0, 0, fr, false⟩) = mayL ⟨7, out, k, st, pd, fr, fz⟩ ah) := Lib.hid (by unfold mayL okL plainL windowI; rw [← h1]; rfl)
                clear h1
                cases c1 <;>
                · go_enter Try.func41, Try.ntmps41
                  go_wp2_with (go_at_call 35; (with_reducible refine (H1.out _).mono ?_); rintro en w2 ⟨rfl, rfl⟩)
                  go_ret
                  refine ⟨?_, ?_⟩
                  · rw [← HR.out, ← HQ.out]; rfl
                  · first | exact net_two w _ _ | exact (net_two w _ _).drew
              · have t7 : (kd == 7) = false := by simpa using hd
                have T7 := Lib.hid hd
                clear hd
                have HQ : Hid (false = mayL ⟨kd, out, k, st, pd, fr, fz⟩ ah) := Lib.hid (by
                  unfold mayL okL
                  rw [if_neg T1.out, if_neg T2.out, if_neg T3.out, if_neg T4.out, if_neg T5.out, if_neg T6.out, if_neg T7.out]
                  rfl)
                go_enter Try.func41, Try.ntmps41
                go_wp2
                go_ret
                refine ⟨?_, ?_⟩
                · rw [← HR.out, ← HQ.out]; rfl
                · first | exact net_two w _ _ | exact (net_two w _ _).drew

set_option maxHeartbeats 3200000 in
set_option maxRecDepth 100000 in
theorem rMayModel_any (a b c : Int) (v : Value) (ls : List LayV) (w : World) (B : Nat) (hB : B ≤ w.heap.size) (h : LaysOf w B v ls) (r : Bool) (hr : mayM a b c ls = r) :
    Calls Try.prog 20 #[.agg #[.int .i64 a, .int .i64 b, .int .i64 c, v]] w fun en w' => en = .returned (.bool r) ∧ Below w.heap.size w w' := by
  obtain ⟨A, cc, rfl⟩ := h.form
  have hlen := h.len
  have HL := Lib.hid h
  have HR := Lib.hid hr
  obtain ⟨e1, h1⟩ : ∃ x, entersI a b c = x := ⟨_, rfl⟩
  obtain ⟨e2, h2⟩ : ∃ x, inI (ls.length : Int) 1 12 = x := ⟨_, rfl⟩
  have HE := Lib.hid (rmayin_any a b c e1 h1)
  have HI := Lib.hid (rin_any (ls.length : Int) 1 12 e2 h2)
  have HQ : Hid (mayM a b c ls = (e1 && (e2 && mayLs ls 0))) := Lib.hid (by unfold mayM; rw [h1, h2])
  have H12 : Hid (e2 = true → ls.length ≤ 12) := Lib.hid (fun he => by rw [he] at h2; have := inI_of h2; omega)
  have hb0 := Lib.hid (net_one w (.cells #[.int .i64 a, .int .i64 b, .int .i64 c, .slice A ls.length cc] 25))
  have hsz : w.heap.size < (w.alloc (.cells #[.int .i64 a, .int .i64 b, .int .i64 c, .slice A ls.length cc] 25)).heap.size := by simp
  have k3 : (w.alloc (.cells #[.int .i64 a, .int .i64 b, .int .i64 c, .slice A ls.length cc] 25)).cell? ⟨w.heap.size, 3, none⟩ = some (.slice A ls.length cc) := (Blk.fresh w 25 [.int .i64 a, .int .i64 b, .int .i64 c, .slice A ls.length cc]).cell 3
  clear h hr h1 h2
  go_enter Try.func20, Try.ntmps20
  go_wp2_with fail
  generalize (w.alloc (.cells #[.int .i64 a, .int .i64 b, .int .i64 c, .slice A ls.length cc] 25)) = w1 at hb0 hsz k3 ⊢
  refine (HE.out _).mono ?_
  rintro en w2 ⟨rfl, hb2⟩
  have k3' : w2.cell? ⟨w.heap.size, 3, none⟩ = some (.slice A ls.length cc) := (hb2.cell (p := ⟨w.heap.size, 3, none⟩) hsz).trans k3
  have HB2 := Lib.hid (hb0.out.trans (hb2.mono (by omega)))
  clear k3 hb2 hsz hb0
  cases e1 with
  | false =>
    go_wp2
    go_ret
    exact ⟨by rw [← HR.out, HQ.out]; rfl, HB2.out⟩
  | true =>
    cases e2 with
    | false =>
      go_wp2_with (go_at_call 35; (with_reducible refine (HI.out _).mono ?_); rintro en w3 ⟨rfl, rfl⟩)
      go_ret
      exact ⟨by rw [← HR.out, HQ.out]; rfl, HB2.out⟩
    | true =>
      have h12 := H12.out rfl
      go_wp2_with (go_at_call 35; (with_reducible refine (HI.out _).mono ?_); rintro en w3 ⟨rfl, rfl⟩)
      go_loopw [19] (fun i wr => ∃ k : Nat, k ≤ ls.length ∧ i = .int .i64 k ∧ Hid (mayLs (ls.take k) 0 = true) ∧ Below w.heap.size w wr) (fun i _ => ls.length - (intOf i).toNat)
      case atStart => exact ⟨0, by omega, rfl, Lib.hid rfl, HB2.out⟩
      case round =>
        clear HB2 k3'
        obtain ⟨k, hk, rfl, hmk, hwr⟩ := hrel
        by_cases hlt : k < ls.length
        · obtain ⟨g, o, c', l, e1, hlk, hok, hg, q0, q1, q2, q3, q4, q5, q6⟩ := (HL.out.below (hwr.mono hB)).at_ hlt
          injection e1 with e1 _ e3
          subst e1 e3
          have hsz := hwr.size
          have hal := net_one wr (.cells #[.int .i64 l.kind, .int .i64 l.out, .int .i64 l.k, .int .i64 l.stride, .int .i64 l.pad, .int .i64 l.frm, .bool l.frozen] 43)
          have HB3 := Lib.hid (hwr.trans (hal.mono hsz))
          obtain ⟨m, hm⟩ : ∃ m, mayL l (k : Int) = m := ⟨_, rfl⟩
          have HM := Lib.hid (rmayL_any l.kind l.out l.k l.stride l.pad l.frm l.frozen (k : Int) (by omega) (by omega) m hm)
          have HT := Lib.hid (mayLs_take ls 0 k l hlk)
          have HF := Lib.hid (mayLs_false ls 0 k l hlk)
          have HMM := Lib.hid hm
          clear hwr hal hlk hok hm
          obtain ⟨x0, x1, x2, x3, x4, x5, x6⟩ := l
          dsimp only at q0 q1 q2 q3 q4 q5 q6 HB3 HM
          cases m with
          | false =>
            go_wp2_with (go_at_call 41; refine (HM.out _).mono ?_; rintro en w3 ⟨rfl, hb3⟩)
            go_ret
            refine ⟨?_, HB3.out.trans (hb3.mono HB3.out.size)⟩
            rw [← HR.out, HQ.out, HF.out (by rw [Int.zero_add]; exact HMM.out)]
            rfl
          | true =>
            go_wp2_with fail
            refine (HM.out _).mono ?_
            rintro en w3 ⟨rfl, hb3⟩
            have HB4 := Lib.hid (HB3.out.trans (hb3.mono HB3.out.size))
            clear hb3
            go_wp2
            go_roundw
            case rel => exact ⟨k + 1, by omega, by go_num, Lib.hid (by rw [HT.out, hmk.out, Int.zero_add, HMM.out]; rfl), HB4.out⟩
            case measure => simp [intOf]; omega
        · have HW := Lib.hid hwr
          clear hwr
          go_wp2
          go_ret
          refine ⟨?_, HW.out⟩
          rw [← HR.out, HQ.out]
          have := hmk.out
          rw [List.take_of_length_le (by omega)] at this
          rw [this]
          rfl
end Go.Proofs.Ytkileiikffomlaa
