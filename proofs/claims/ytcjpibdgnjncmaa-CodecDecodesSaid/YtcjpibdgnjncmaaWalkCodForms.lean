/- The walk of CodecForms. -/
import Derived.Test.YtcjpibdgnjncmaaCodREnc
import Derived.Test.YtcjpibdgnjncmaaCodUse
import Derived.Test.YtcjpibdgnjncmaaOpenS
namespace Go.Proofs.Ytcjpibdgnjncmaa
open Go.RowKit
set_option linter.unusedVariables false
set_option linter.unusedSimpArgs false

/-- a dataset's bytes, the error -/
def encB (d : StV) : List UInt8 := if mayS d = true then encS d else []
def encE (d : StV) : Int := if mayS d = true then 0 else 1
theorem EncOf.use {w w' : World} {d : StV} {en : Ending} (h : EncOf w d en w') : Below w.heap.size w w' ∧ ∃ A c, en = .returned (.tuple #[.slice A (encB d).length c, .int .i64 (encE d)]) ∧ w'.ownsRow w.heap.size 5 1 (.slice A (encB d).length c) (encB d).length (bytesV (encB d)) := by
  obtain ⟨hb, ⟨hm, rfl⟩ | ⟨hm, A, c, rfl, hown⟩⟩ := h
  · refine ⟨hb, none, 0, ?_, ?_⟩
    · unfold encB encE
      simp [hm]
    · have e : encB d = [] := by unfold encB; simp [hm]
      rw [e]
      exact World.ownsRow_nil _ _ _ _
  · refine ⟨hb, A, c, ?_, ?_⟩
    · unfold encB encE
      simp [hm]
    · have e : encB d = encS d := by unfold encB; simp [hm]
      rw [e]
      exact hown
set_option maxRecDepth 100000 in
set_option maxHeartbeats 6400000 in
theorem codecForms_walk (v0 : Value) (a0 : StV) (v1 : Value) (a1 : StV) (w : World) (o0 : StOf w w.heap.size v0 a0) (o1 : StOf w w.heap.size v1 a1) :
    Calls Try.prog 6 #[v0, v1] w fun en w' => en = .returned (.bool true) ∧ Below w.heap.size w w' := by
  obtain ⟨seed, step, lv, xs⟩ := a0
  obtain ⟨seed', step', lv', xs'⟩ := a1
  have h0 := o0
  have h1 := o1
  obtain ⟨rfl, _, _, hx⟩ := o0
  obtain ⟨rfl, _, _, hx'⟩ := o1
  dsimp only at hx hx'
  obtain ⟨A, k, rfl⟩ := hx.form
  obtain ⟨A', k', rfl⟩ := hx'.form
  have hb0 := (Below.refl w.heap.size w).alloc (Nat.le_refl _) (.cells #[.int .u64 seed, .int .i64 step, .slice A xs.length k] 25)
  have hb1 := hb0.alloc hb0.size (.cells #[.int .u64 seed', .int .i64 step', .slice A' xs'.length k'] 25)
  have hk0 := Blk.fresh w 25 [.int .u64 seed, .int .i64 step, .slice A xs.length k]
  have hk1 := hk0.alloc (.cells #[.int .u64 seed', .int .i64 step', .slice A' xs'.length k'] 25)
  have hk2 := Blk.fresh (w.alloc (.cells #[.int .u64 seed, .int .i64 step, .slice A xs.length k] 25)) 25 [.int .u64 seed', .int .i64 step', .slice A' xs'.length k']
  rw [World.size_alloc] at hk2
  have HB := Lib.hid hb1
  have K1 := Lib.hid hk1
  have K2 := Lib.hid hk2
  have D1 := Lib.hid (h0.below hb1)
  have D2 := Lib.hid (h1.below hb1)
  have s1 := hb1.size
  have l1 := hk1.lt
  have l2 := hk2.lt
  clear h0 h1 hx hx' hb0 hb1 hk0 hk1 hk2
  go_enter Try.func6, Try.ntmps6
  go_wp2_with fail
  generalize ((w.alloc (.cells #[.int .u64 seed, .int .i64 step, .slice A xs.length k] 25)).alloc (.cells #[.int .u64 seed', .int .i64 step', .slice A' xs'.length k'] 25)) = w1 at HB K1 K2 D1 D2 s1 l1 l2 ⊢
  refine (light_any _ _ w1 w.heap.size s1 D1.out).mono ?_
  rintro en w2 ⟨⟨b2, rfl⟩, hw⟩
  have HB2 := Lib.hid (HB.out.trans (hw.mono s1))
  have K12 := Lib.hid (K1.out.below hw l1)
  have K22 := Lib.hid (K2.out.below hw l2)
  have D12 := Lib.hid (D1.out.below (hw.mono s1))
  have D22 := Lib.hid (D2.out.below (hw.mono s1))
  have s2 := HB2.out.size
  have l12 := K12.out.lt
  have l22 := K22.out.lt
  clear HB K1 K2 D1 D2 hw s1 l1 l2
  cases b2 with
  | false =>
    go_wp2_with (go_at_call 9; refine (awake24_any _).mono ?_; rintro en w' ⟨rfl, hb9⟩)
    go_ret
    exact ⟨rfl, HB2.out.trans (hb9.mono s2)⟩
  | true =>
    have m0 := K22.out.cell 0
    have m1 := K22.out.cell 1
    have m2 := K22.out.cell 2
    simp only [List.getElem?_cons_zero, List.getElem?_cons_succ] at m0 m1 m2
    go_wp2_with fail
    refine (light_any _ _ w2 w.heap.size s2 D22.out).mono ?_
    clear m0 m1 m2
    rintro en w3 ⟨⟨b3, rfl⟩, hw⟩
    have HB3 := Lib.hid (HB2.out.trans (hw.mono s2))
    have K13 := Lib.hid (K12.out.below hw l12)
    have K23 := Lib.hid (K22.out.below hw l22)
    have D13 := Lib.hid (D12.out.below (hw.mono s2))
    have D23 := Lib.hid (D22.out.below (hw.mono s2))
    have s3 := HB3.out.size
    have l13 := K13.out.lt
    have l23 := K23.out.lt
    clear HB2 K12 K22 D12 D22 hw s2 l12 l22
    cases b3 with
    | false =>
      go_wp2_with (go_at_call 9; refine (awake24_any _).mono ?_; rintro en w' ⟨rfl, hb9⟩)
      go_ret
      exact ⟨rfl, HB3.out.trans (hb9.mono s3)⟩
    | true =>
      have m0 := K13.out.cell 0
      have m1 := K13.out.cell 1
      have m2 := K13.out.cell 2
      simp only [List.getElem?_cons_zero, List.getElem?_cons_succ] at m0 m1 m2
      go_wp2_with fail
      refine (cenc_any _ _ w3 w.heap.size s3 D13.out).mono ?_
      clear m0 m1 m2
      intro en w4 hen
      obtain ⟨hw, A4, c4, rfl, ho4⟩ := hen.use
      have HB4 := Lib.hid (HB3.out.trans (hw.mono s3))
      have K14 := Lib.hid (K13.out.below hw l13)
      have K24 := Lib.hid (K23.out.below hw l23)
      have D14 := Lib.hid (D13.out.below (hw.mono s3))
      have D24 := Lib.hid (D23.out.below (hw.mono s3))
      have RA4 := Lib.hid (Reads.of_own ho4)
      have s4 := HB4.out.size
      have l14 := K14.out.lt
      clear HB3 K13 K23 D13 D23 hw s3 l13 l23 hen ho4
      have m0 := K14.out.cell 0
      have m1 := K14.out.cell 1
      have m2 := K14.out.cell 2
      simp only [List.getElem?_cons_zero, List.getElem?_cons_succ] at m0 m1 m2
      go_wp2_with fail
      refine (rcenc_any _ _ w4 w.heap.size s4 D14.out).mono ?_
      clear m0 m1 m2
      intro en w5 hen
      obtain ⟨hw, A5, c5, rfl, ho5⟩ := hen.use
      have HB5 := Lib.hid (HB4.out.trans (hw.mono s4))
      have K15 := Lib.hid (K14.out.below hw l14)
      have K25 := Lib.hid (K24.out.below hw K24.out.lt)
      have D15 := Lib.hid (D14.out.below (hw.mono s4))
      have D25 := Lib.hid (D24.out.below (hw.mono s4))
      have RA := Lib.hid ((RA4.out.below hw).more hw.size)
      have RB := Lib.hid (Reads.of_own ho5)
      have s5 := HB5.out.size
      obtain ⟨bs, hbs⟩ : ∃ bs, encB ⟨seed, step, .slice A xs.length k, xs⟩ = bs := ⟨_, rfl⟩
      rw [hbs] at RA RB ⊢
      generalize encE ⟨seed, step, .slice A xs.length k, xs⟩ = ee
      obtain ⟨r, hr⟩ : ∃ r, mayS ⟨seed, step, .slice A xs.length k, xs⟩ = r := ⟨_, rfl⟩
      obtain ⟨s, hs⟩ : ∃ r, sameS ⟨seed, step, .slice A xs.length k, xs⟩ ⟨seed', step', .slice A' xs'.length k', xs'⟩ = r := ⟨_, rfl⟩
      have C1 : Hid (∀ W, Below w5.heap.size w5 W → Calls Try.prog 16 #[.agg #[.int .u64 seed, .int .i64 step, .slice A xs.length k]] W fun en w' => en = .returned (.bool r) ∧ Below W.heap.size W w') := Lib.hid (fun W hW => cmay_any _ _ W w.heap.size (by have := hW.size; omega) (D15.out.below (hW.mono s5)) r hr)
      have C2 : Hid (∀ W, Below w5.heap.size w5 W → Calls Try.prog 17 #[.agg #[.int .u64 seed, .int .i64 step, .slice A xs.length k]] W fun en w' => en = .returned (.bool r) ∧ Below W.heap.size W w') := Lib.hid (fun W hW => rmays_any _ _ W w.heap.size (by have := hW.size; omega) (D15.out.below (hW.mono s5)) r hr)
      have C3 : Hid (∀ W, Below w5.heap.size w5 W → Calls Try.prog 18 #[.agg #[.int .u64 seed, .int .i64 step, .slice A xs.length k], .agg #[.int .u64 seed', .int .i64 step', .slice A' xs'.length k']] W fun en w' => en = .returned (.bool s) ∧ Below W.heap.size W w') := Lib.hid (fun W hW => by
        have h := csame_any _ _ _ _ W w.heap.size (by have := hW.size; omega) (D15.out.below (hW.mono s5)) (D25.out.below (hW.mono s5)) s hs
        exact h)
      have C4 : Hid (∀ W, Below w5.heap.size w5 W → Calls Try.prog 13 #[.agg #[.int .u64 seed, .int .i64 step, .slice A xs.length k], .agg #[.int .u64 seed', .int .i64 step', .slice A' xs'.length k']] W fun en w' => en = .returned (.bool s) ∧ Below W.heap.size W w') := Lib.hid (fun W hW => by
        have h := rsames_any _ _ _ _ W w.heap.size (by have := hW.size; omega) (D15.out.below (hW.mono s5)) (D25.out.below (hW.mono s5)) s hs
        exact h)
      have z1 : (r == r) = true := by simp
      have z2 : (s == s) = true := by simp
      have z3 : (ee == ee) = true := by simp
      clear hw hen ho5 hbs hr hs HB4 K14 K24 D14 D24 RA4 s4 l14
      go_wp2_with fail
      refine wp_region_held_drew (S := ((fun w' => Below w5.heap.size w5 w'))) (by kernel_rfl) ((Below.refl w5.heap.size w5).drew) (fun hHeld => ?_)
      refine' wpAnyH_take (i := 0) (v := _) rfl (by kernel_rfl) (by kernel_rfl) (by kernel_rfl) (fun _ _ _ h => h) (Or.inl ⟨by rfl, ?taq1⟩) (by assumption) ?tbq1
      case taq1 =>
        intro wS hSw
        (try dsimp only at hSw)
        (have kx := K15.out.below hSw K15.out.lt; have ky := K25.out.below hSw K25.out.lt; have m0 := kx.cell 0; have m1 := kx.cell 1; have m2 := kx.cell 2; simp only [List.getElem?_cons_zero, List.getElem?_cons_succ] at m0 m1 m2; clear hSw kx ky; go_simp)
        (try (with_reducible rfl))
      (try simp only [List.getElem_toArray, List.getElem_cons_zero, List.getElem_cons_succ, Act.put, List.setIfInBounds_toArray, List.set_cons_zero, List.set_cons_succ])
      refine' wpAnyH_take (i := 2) (v := _) rfl (by kernel_rfl) (by kernel_rfl) (by kernel_rfl) (fun _ _ _ h => h) (Or.inl ⟨by rfl, ?taq2⟩) (by assumption) ?tbq2
      case taq2 =>
        intro wS hSw
        (try dsimp only at hSw)
        (have kx := K15.out.below hSw K15.out.lt; have ky := K25.out.below hSw K25.out.lt; have m0 := kx.cell 0; have m1 := kx.cell 1; have m2 := kx.cell 2; simp only [List.getElem?_cons_zero, List.getElem?_cons_succ] at m0 m1 m2; clear hSw kx ky; go_simp)
        (try (with_reducible rfl))
      (try simp only [List.getElem_toArray, List.getElem_cons_zero, List.getElem_cons_succ, Act.put, List.setIfInBounds_toArray, List.set_cons_zero, List.set_cons_succ])
      refine wpAnyH_ready (rs := [1]) (by kernel_rfl) (by simp) ?_
      refine AllReadyH.cons rfl (fun K9 hK9 => ?_) AllReadyH.nil
      (try simp only [List.getElem_toArray, List.getElem_cons_zero, List.getElem_cons_succ])
      go_simp
      refine (C1.out _ (Below.refl w5.heap.size w5).drew).mono ?_
      rintro en w6 ⟨rfl, hw6⟩
      have H6 := Lib.hid ((Below.refl w5.heap.size w5).drew.trans hw6)
      clear hw6
      refine hK9.out _ _ (H6.out) (fun hHeld9 => ?_)
      clear hK9 K9
      (try simp only [List.getElem_toArray, List.getElem_cons_zero, List.getElem_cons_succ, Act.put, List.setIfInBounds_toArray, List.set_cons_zero, List.set_cons_succ])
      refine wpAnyH_ready (rs := [3]) (by kernel_rfl) (by simp) ?_
      refine AllReadyH.cons rfl (fun K9 hK9 => ?_) AllReadyH.nil
      (try simp only [List.getElem_toArray, List.getElem_cons_zero, List.getElem_cons_succ])
      go_simp
      refine (C2.out _ H6.out).mono ?_
      rintro en w7 ⟨rfl, hw7⟩
      have H7 := Lib.hid (H6.out.trans (hw7.mono H6.out.size))
      clear hw7
      refine hK9.out _ _ (H7.out) (fun hHeld9 => ?_)
      clear hK9 K9
      (try simp only [List.getElem_toArray, List.getElem_cons_zero, List.getElem_cons_succ, Act.put, List.setIfInBounds_toArray, List.set_cons_zero, List.set_cons_succ])
      refine' wpAnyH_take (i := 4) (v := _) rfl (by kernel_rfl) (by kernel_rfl) (by kernel_rfl) (fun _ _ _ h => h) (Or.inl ⟨by rfl, ?taq3⟩) (by assumption) ?tbq3
      case taq3 =>
        intro wS hSw
        (try dsimp only at hSw)
        (have q1 := run_str_k (RA.out.below hSw); have q2 := run_str_k (RB.out.below hSw); have kx := K15.out.below hSw K15.out.lt; have ky := K25.out.below hSw K25.out.lt; have m0 := kx.cell 0; have m1 := kx.cell 1; have m2 := kx.cell 2; have n0 := ky.cell 0; have n1 := ky.cell 1; have n2 := ky.cell 2; simp only [List.getElem?_cons_zero, List.getElem?_cons_succ] at m0 m1 m2 n0 n1 n2; clear hSw kx ky; go_simp)
        (try (with_reducible rfl))
      (try simp only [List.getElem_toArray, List.getElem_cons_zero, List.getElem_cons_succ, Act.put, List.setIfInBounds_toArray, List.set_cons_zero, List.set_cons_succ])
      refine' wpAnyH_take (i := 5) (v := _) rfl (by kernel_rfl) (by kernel_rfl) (by kernel_rfl) (fun _ _ _ h => h) (Or.inl ⟨by rfl, ?taq4⟩) (by assumption) ?tbq4
      case taq4 =>
        intro wS hSw
        (try dsimp only at hSw)
        (have q1 := run_str_k (RA.out.below hSw); have q2 := run_str_k (RB.out.below hSw); have kx := K15.out.below hSw K15.out.lt; have ky := K25.out.below hSw K25.out.lt; have m0 := kx.cell 0; have m1 := kx.cell 1; have m2 := kx.cell 2; have n0 := ky.cell 0; have n1 := ky.cell 1; have n2 := ky.cell 2; simp only [List.getElem?_cons_zero, List.getElem?_cons_succ] at m0 m1 m2 n0 n1 n2; clear hSw kx ky; go_simp)
        (try (with_reducible rfl))
      (try simp only [List.getElem_toArray, List.getElem_cons_zero, List.getElem_cons_succ, Act.put, List.setIfInBounds_toArray, List.set_cons_zero, List.set_cons_succ])
      refine' wpAnyH_take (i := 6) (v := _) rfl (by kernel_rfl) (by kernel_rfl) (by kernel_rfl) (fun _ _ _ h => h) (Or.inl ⟨by rfl, ?taq5⟩) (by assumption) ?tbq5
      case taq5 =>
        intro wS hSw
        (try dsimp only at hSw)
        (have q1 := run_str_k (RA.out.below hSw); have q2 := run_str_k (RB.out.below hSw); have kx := K15.out.below hSw K15.out.lt; have ky := K25.out.below hSw K25.out.lt; have m0 := kx.cell 0; have m1 := kx.cell 1; have m2 := kx.cell 2; have n0 := ky.cell 0; have n1 := ky.cell 1; have n2 := ky.cell 2; simp only [List.getElem?_cons_zero, List.getElem?_cons_succ] at m0 m1 m2 n0 n1 n2; clear hSw kx ky; go_simp)
        (try (with_reducible rfl))
      (try simp only [List.getElem_toArray, List.getElem_cons_zero, List.getElem_cons_succ, Act.put, List.setIfInBounds_toArray, List.set_cons_zero, List.set_cons_succ])
      refine' wpAnyH_take (i := 7) (v := _) rfl (by kernel_rfl) (by kernel_rfl) (by kernel_rfl) (fun _ _ _ h => h) (Or.inl ⟨by rfl, ?taq6⟩) (by assumption) ?tbq6
      case taq6 =>
        intro wS hSw
        (try dsimp only at hSw)
        (have q1 := run_str_k (RA.out.below hSw); have q2 := run_str_k (RB.out.below hSw); have kx := K15.out.below hSw K15.out.lt; have ky := K25.out.below hSw K25.out.lt; have m0 := kx.cell 0; have m1 := kx.cell 1; have m2 := kx.cell 2; have n0 := ky.cell 0; have n1 := ky.cell 1; have n2 := ky.cell 2; simp only [List.getElem?_cons_zero, List.getElem?_cons_succ] at m0 m1 m2 n0 n1 n2; clear hSw kx ky; go_simp)
        (try (with_reducible rfl))
      (try simp only [List.getElem_toArray, List.getElem_cons_zero, List.getElem_cons_succ, Act.put, List.setIfInBounds_toArray, List.set_cons_zero, List.set_cons_succ])
      refine' wpAnyH_take (i := 8) (v := _) rfl (by kernel_rfl) (by kernel_rfl) (by kernel_rfl) (fun _ _ _ h => h) (Or.inl ⟨by rfl, ?taq7⟩) (by assumption) ?tbq7
      case taq7 =>
        intro wS hSw
        (try dsimp only at hSw)
        (have q1 := run_str_k (RA.out.below hSw); have q2 := run_str_k (RB.out.below hSw); have kx := K15.out.below hSw K15.out.lt; have ky := K25.out.below hSw K25.out.lt; have m0 := kx.cell 0; have m1 := kx.cell 1; have m2 := kx.cell 2; have n0 := ky.cell 0; have n1 := ky.cell 1; have n2 := ky.cell 2; simp only [List.getElem?_cons_zero, List.getElem?_cons_succ] at m0 m1 m2 n0 n1 n2; clear hSw kx ky; go_simp)
        (try (with_reducible rfl))
      (try simp only [List.getElem_toArray, List.getElem_cons_zero, List.getElem_cons_succ, Act.put, List.setIfInBounds_toArray, List.set_cons_zero, List.set_cons_succ])
      refine' wpAnyH_take (i := 9) (v := _) rfl (by kernel_rfl) (by kernel_rfl) (by kernel_rfl) (fun _ _ _ h => h) (Or.inl ⟨by rfl, ?taq8⟩) (by assumption) ?tbq8
      case taq8 =>
        intro wS hSw
        (try dsimp only at hSw)
        (have q1 := run_str_k (RA.out.below hSw); have q2 := run_str_k (RB.out.below hSw); have kx := K15.out.below hSw K15.out.lt; have ky := K25.out.below hSw K25.out.lt; have m0 := kx.cell 0; have m1 := kx.cell 1; have m2 := kx.cell 2; have n0 := ky.cell 0; have n1 := ky.cell 1; have n2 := ky.cell 2; simp only [List.getElem?_cons_zero, List.getElem?_cons_succ] at m0 m1 m2 n0 n1 n2; clear hSw kx ky; go_simp)
        (try (with_reducible rfl))
      (try simp only [List.getElem_toArray, List.getElem_cons_zero, List.getElem_cons_succ, Act.put, List.setIfInBounds_toArray, List.set_cons_zero, List.set_cons_succ])
      refine' wpAnyH_take (i := 10) (v := _) rfl (by kernel_rfl) (by kernel_rfl) (by kernel_rfl) (fun _ _ _ h => h) (Or.inl ⟨by rfl, ?taq9⟩) (by assumption) ?tbq9
      case taq9 =>
        intro wS hSw
        (try dsimp only at hSw)
        (have q1 := run_str_k (RA.out.below hSw); have q2 := run_str_k (RB.out.below hSw); have kx := K15.out.below hSw K15.out.lt; have ky := K25.out.below hSw K25.out.lt; have m0 := kx.cell 0; have m1 := kx.cell 1; have m2 := kx.cell 2; have n0 := ky.cell 0; have n1 := ky.cell 1; have n2 := ky.cell 2; simp only [List.getElem?_cons_zero, List.getElem?_cons_succ] at m0 m1 m2 n0 n1 n2; clear hSw kx ky; go_simp)
        (try (with_reducible rfl))
      (try simp only [List.getElem_toArray, List.getElem_cons_zero, List.getElem_cons_succ, Act.put, List.setIfInBounds_toArray, List.set_cons_zero, List.set_cons_succ])
      refine' wpAnyH_take (i := 11) (v := _) rfl (by kernel_rfl) (by kernel_rfl) (by kernel_rfl) (fun _ _ _ h => h) (Or.inl ⟨by rfl, ?taq10⟩) (by assumption) ?tbq10
      case taq10 =>
        intro wS hSw
        (try dsimp only at hSw)
        (have q1 := run_str_k (RA.out.below hSw); have q2 := run_str_k (RB.out.below hSw); have kx := K15.out.below hSw K15.out.lt; have ky := K25.out.below hSw K25.out.lt; have m0 := kx.cell 0; have m1 := kx.cell 1; have m2 := kx.cell 2; have n0 := ky.cell 0; have n1 := ky.cell 1; have n2 := ky.cell 2; simp only [List.getElem?_cons_zero, List.getElem?_cons_succ] at m0 m1 m2 n0 n1 n2; clear hSw kx ky; go_simp)
        (try (with_reducible rfl))
      (try simp only [List.getElem_toArray, List.getElem_cons_zero, List.getElem_cons_succ, Act.put, List.setIfInBounds_toArray, List.set_cons_zero, List.set_cons_succ])
      refine' wpAnyH_take (i := 12) (v := _) rfl (by kernel_rfl) (by kernel_rfl) (by kernel_rfl) (fun _ _ _ h => h) (Or.inl ⟨by rfl, ?taq11⟩) (by assumption) ?tbq11
      case taq11 =>
        intro wS hSw
        (try dsimp only at hSw)
        (have q1 := run_str_k (RA.out.below hSw); have q2 := run_str_k (RB.out.below hSw); have kx := K15.out.below hSw K15.out.lt; have ky := K25.out.below hSw K25.out.lt; have m0 := kx.cell 0; have m1 := kx.cell 1; have m2 := kx.cell 2; have n0 := ky.cell 0; have n1 := ky.cell 1; have n2 := ky.cell 2; simp only [List.getElem?_cons_zero, List.getElem?_cons_succ] at m0 m1 m2 n0 n1 n2; clear hSw kx ky; go_simp)
        (try (with_reducible rfl))
      (try simp only [List.getElem_toArray, List.getElem_cons_zero, List.getElem_cons_succ, Act.put, List.setIfInBounds_toArray, List.set_cons_zero, List.set_cons_succ])
      refine' wpAnyH_take (i := 13) (v := _) rfl (by kernel_rfl) (by kernel_rfl) (by kernel_rfl) (fun _ _ _ h => h) (Or.inl ⟨by rfl, ?taq12⟩) (by assumption) ?tbq12
      case taq12 =>
        intro wS hSw
        (try dsimp only at hSw)
        (have q1 := run_str_k (RA.out.below hSw); have q2 := run_str_k (RB.out.below hSw); have kx := K15.out.below hSw K15.out.lt; have ky := K25.out.below hSw K25.out.lt; have m0 := kx.cell 0; have m1 := kx.cell 1; have m2 := kx.cell 2; have n0 := ky.cell 0; have n1 := ky.cell 1; have n2 := ky.cell 2; simp only [List.getElem?_cons_zero, List.getElem?_cons_succ] at m0 m1 m2 n0 n1 n2; clear hSw kx ky; go_simp)
        (try (with_reducible rfl))
      (try simp only [List.getElem_toArray, List.getElem_cons_zero, List.getElem_cons_succ, Act.put, List.setIfInBounds_toArray, List.set_cons_zero, List.set_cons_succ])
      refine' wpAnyH_take (i := 14) (v := _) rfl (by kernel_rfl) (by kernel_rfl) (by kernel_rfl) (fun _ _ _ h => h) (Or.inl ⟨by rfl, ?taq13⟩) (by assumption) ?tbq13
      case taq13 =>
        intro wS hSw
        (try dsimp only at hSw)
        (have q1 := run_str_k (RA.out.below hSw); have q2 := run_str_k (RB.out.below hSw); have kx := K15.out.below hSw K15.out.lt; have ky := K25.out.below hSw K25.out.lt; have m0 := kx.cell 0; have m1 := kx.cell 1; have m2 := kx.cell 2; have n0 := ky.cell 0; have n1 := ky.cell 1; have n2 := ky.cell 2; simp only [List.getElem?_cons_zero, List.getElem?_cons_succ] at m0 m1 m2 n0 n1 n2; clear hSw kx ky; go_simp)
        (try (with_reducible rfl))
      (try simp only [List.getElem_toArray, List.getElem_cons_zero, List.getElem_cons_succ, Act.put, List.setIfInBounds_toArray, List.set_cons_zero, List.set_cons_succ])
      refine' wpAnyH_take (i := 15) (v := _) rfl (by kernel_rfl) (by kernel_rfl) (by kernel_rfl) (fun _ _ _ h => h) (Or.inl ⟨by rfl, ?taq14⟩) (by assumption) ?tbq14
      case taq14 =>
        intro wS hSw
        (try dsimp only at hSw)
        (have q1 := run_str_k (RA.out.below hSw); have q2 := run_str_k (RB.out.below hSw); have kx := K15.out.below hSw K15.out.lt; have ky := K25.out.below hSw K25.out.lt; have m0 := kx.cell 0; have m1 := kx.cell 1; have m2 := kx.cell 2; have n0 := ky.cell 0; have n1 := ky.cell 1; have n2 := ky.cell 2; simp only [List.getElem?_cons_zero, List.getElem?_cons_succ] at m0 m1 m2 n0 n1 n2; clear hSw kx ky; go_simp)
        (try (with_reducible rfl))
      (try simp only [List.getElem_toArray, List.getElem_cons_zero, List.getElem_cons_succ, Act.put, List.setIfInBounds_toArray, List.set_cons_zero, List.set_cons_succ])
      refine' wpAnyH_take (i := 16) (v := _) rfl (by kernel_rfl) (by kernel_rfl) (by kernel_rfl) (fun _ _ _ h => h) (Or.inl ⟨by rfl, ?taq15⟩) (by assumption) ?tbq15
      case taq15 =>
        intro wS hSw
        (try dsimp only at hSw)
        (have q1 := run_str_k (RA.out.below hSw); have q2 := run_str_k (RB.out.below hSw); have kx := K15.out.below hSw K15.out.lt; have ky := K25.out.below hSw K25.out.lt; have m0 := kx.cell 0; have m1 := kx.cell 1; have m2 := kx.cell 2; have n0 := ky.cell 0; have n1 := ky.cell 1; have n2 := ky.cell 2; simp only [List.getElem?_cons_zero, List.getElem?_cons_succ] at m0 m1 m2 n0 n1 n2; clear hSw kx ky; go_simp)
        (try (with_reducible rfl))
      (try simp only [List.getElem_toArray, List.getElem_cons_zero, List.getElem_cons_succ, Act.put, List.setIfInBounds_toArray, List.set_cons_zero, List.set_cons_succ])
      refine' wpAnyH_take (i := 17) (v := _) rfl (by kernel_rfl) (by kernel_rfl) (by kernel_rfl) (fun _ _ _ h => h) (Or.inl ⟨by rfl, ?taq16⟩) (by assumption) ?tbq16
      case taq16 =>
        intro wS hSw
        (try dsimp only at hSw)
        (have q1 := run_str_k (RA.out.below hSw); have q2 := run_str_k (RB.out.below hSw); have kx := K15.out.below hSw K15.out.lt; have ky := K25.out.below hSw K25.out.lt; have m0 := kx.cell 0; have m1 := kx.cell 1; have m2 := kx.cell 2; have n0 := ky.cell 0; have n1 := ky.cell 1; have n2 := ky.cell 2; simp only [List.getElem?_cons_zero, List.getElem?_cons_succ] at m0 m1 m2 n0 n1 n2; clear hSw kx ky; go_simp)
        (try (with_reducible rfl))
      (try simp only [List.getElem_toArray, List.getElem_cons_zero, List.getElem_cons_succ, Act.put, List.setIfInBounds_toArray, List.set_cons_zero, List.set_cons_succ])
      refine' wpAnyH_take (i := 18) (v := _) rfl (by kernel_rfl) (by kernel_rfl) (by kernel_rfl) (fun _ _ _ h => h) (Or.inl ⟨by rfl, ?taq17⟩) (by assumption) ?tbq17
      case taq17 =>
        intro wS hSw
        (try dsimp only at hSw)
        (have q1 := run_str_k (RA.out.below hSw); have q2 := run_str_k (RB.out.below hSw); have kx := K15.out.below hSw K15.out.lt; have ky := K25.out.below hSw K25.out.lt; have m0 := kx.cell 0; have m1 := kx.cell 1; have m2 := kx.cell 2; have n0 := ky.cell 0; have n1 := ky.cell 1; have n2 := ky.cell 2; simp only [List.getElem?_cons_zero, List.getElem?_cons_succ] at m0 m1 m2 n0 n1 n2; clear hSw kx ky; go_simp)
        (try (with_reducible rfl))
      (try simp only [List.getElem_toArray, List.getElem_cons_zero, List.getElem_cons_succ, Act.put, List.setIfInBounds_toArray, List.set_cons_zero, List.set_cons_succ])
      refine' wpAnyH_take (i := 19) (v := _) rfl (by kernel_rfl) (by kernel_rfl) (by kernel_rfl) (fun _ _ _ h => h) (Or.inl ⟨by rfl, ?taq18⟩) (by assumption) ?tbq18
      case taq18 =>
        intro wS hSw
        (try dsimp only at hSw)
        (have q1 := run_str_k (RA.out.below hSw); have q2 := run_str_k (RB.out.below hSw); have kx := K15.out.below hSw K15.out.lt; have ky := K25.out.below hSw K25.out.lt; have m0 := kx.cell 0; have m1 := kx.cell 1; have m2 := kx.cell 2; have n0 := ky.cell 0; have n1 := ky.cell 1; have n2 := ky.cell 2; simp only [List.getElem?_cons_zero, List.getElem?_cons_succ] at m0 m1 m2 n0 n1 n2; clear hSw kx ky; go_simp)
        (try (with_reducible rfl))
      (try simp only [List.getElem_toArray, List.getElem_cons_zero, List.getElem_cons_succ, Act.put, List.setIfInBounds_toArray, List.set_cons_zero, List.set_cons_succ])
      refine' wpAnyH_take (i := 21) (v := _) rfl (by kernel_rfl) (by kernel_rfl) (by kernel_rfl) (fun _ _ _ h => h) (Or.inl ⟨by rfl, ?taq19⟩) (by assumption) ?tbq19
      case taq19 =>
        intro wS hSw
        (try dsimp only at hSw)
        (have q1 := run_str_k (RA.out.below hSw); have q2 := run_str_k (RB.out.below hSw); have kx := K15.out.below hSw K15.out.lt; have ky := K25.out.below hSw K25.out.lt; have m0 := kx.cell 0; have m1 := kx.cell 1; have m2 := kx.cell 2; have n0 := ky.cell 0; have n1 := ky.cell 1; have n2 := ky.cell 2; simp only [List.getElem?_cons_zero, List.getElem?_cons_succ] at m0 m1 m2 n0 n1 n2; clear hSw kx ky; go_simp)
        (try (with_reducible rfl))
      (try simp only [List.getElem_toArray, List.getElem_cons_zero, List.getElem_cons_succ, Act.put, List.setIfInBounds_toArray, List.set_cons_zero, List.set_cons_succ])
      refine' wpAnyH_take (i := 22) (v := _) rfl (by kernel_rfl) (by kernel_rfl) (by kernel_rfl) (fun _ _ _ h => h) (Or.inl ⟨by rfl, ?taq20⟩) (by assumption) ?tbq20
      case taq20 =>
        intro wS hSw
        (try dsimp only at hSw)
        (have q1 := run_str_k (RA.out.below hSw); have q2 := run_str_k (RB.out.below hSw); have kx := K15.out.below hSw K15.out.lt; have ky := K25.out.below hSw K25.out.lt; have m0 := kx.cell 0; have m1 := kx.cell 1; have m2 := kx.cell 2; have n0 := ky.cell 0; have n1 := ky.cell 1; have n2 := ky.cell 2; simp only [List.getElem?_cons_zero, List.getElem?_cons_succ] at m0 m1 m2 n0 n1 n2; clear hSw kx ky; go_simp)
        (try (with_reducible rfl))
      (try simp only [List.getElem_toArray, List.getElem_cons_zero, List.getElem_cons_succ, Act.put, List.setIfInBounds_toArray, List.set_cons_zero, List.set_cons_succ])
      refine wpAnyH_ready (rs := [20]) (by kernel_rfl) (by simp) ?_
      refine AllReadyH.cons rfl (fun K9 hK9 => ?_) AllReadyH.nil
      (try simp only [List.getElem_toArray, List.getElem_cons_zero, List.getElem_cons_succ])
      go_simp
      refine (C3.out _ H7.out).mono ?_
      rintro en w8 ⟨rfl, hw8⟩
      have H8 := Lib.hid (H7.out.trans (hw8.mono H7.out.size))
      clear hw8
      refine hK9.out _ _ (H8.out) (fun hHeld9 => ?_)
      clear hK9 K9
      (try simp only [List.getElem_toArray, List.getElem_cons_zero, List.getElem_cons_succ, Act.put, List.setIfInBounds_toArray, List.set_cons_zero, List.set_cons_succ])
      refine wpAnyH_ready (rs := [23]) (by kernel_rfl) (by simp) ?_
      refine AllReadyH.cons rfl (fun K9 hK9 => ?_) AllReadyH.nil
      (try simp only [List.getElem_toArray, List.getElem_cons_zero, List.getElem_cons_succ])
      go_simp
      refine (C4.out _ H8.out).mono ?_
      rintro en w9 ⟨rfl, hw9⟩
      have H9 := Lib.hid (H8.out.trans (hw9.mono H8.out.size))
      clear hw9
      refine hK9.out _ _ (H9.out) (fun hHeld9 => ?_)
      clear hK9 K9
      (try simp only [List.getElem_toArray, List.getElem_cons_zero, List.getElem_cons_succ, Act.put, List.setIfInBounds_toArray, List.set_cons_zero, List.set_cons_succ])
      refine' wpAnyH_take (i := 24) (v := _) rfl (by kernel_rfl) (by kernel_rfl) (by kernel_rfl) (fun _ _ _ h => h) (Or.inl ⟨by rfl, ?taq21⟩) (by assumption) ?tbq21
      case taq21 =>
        intro wS hSw
        (try dsimp only at hSw)
        go_simp
        (try (with_reducible rfl))
      (try simp only [List.getElem_toArray, List.getElem_cons_zero, List.getElem_cons_succ, Act.put, List.setIfInBounds_toArray, List.set_cons_zero, List.set_cons_succ])
      refine' wpAnyH_take (i := 25) (v := _) rfl (by kernel_rfl) (by kernel_rfl) (by kernel_rfl) (fun _ _ _ h => h) (Or.inl ⟨by rfl, ?taq22⟩) (by assumption) ?tbq22
      case taq22 =>
        intro wS hSw
        (try dsimp only at hSw)
        go_simp
        (try (with_reducible rfl))
      (try simp only [List.getElem_toArray, List.getElem_cons_zero, List.getElem_cons_succ, Act.put, List.setIfInBounds_toArray, List.set_cons_zero, List.set_cons_succ])
      refine' wpAnyH_take (i := 26) (v := _) rfl (by kernel_rfl) (by kernel_rfl) (by kernel_rfl) (fun _ _ _ h => h) (Or.inl ⟨by rfl, ?taq23⟩) (by assumption) ?tbq23
      case taq23 =>
        intro wS hSw
        (try dsimp only at hSw)
        go_simp
        (try (with_reducible rfl))
      (try simp only [List.getElem_toArray, List.getElem_cons_zero, List.getElem_cons_succ, Act.put, List.setIfInBounds_toArray, List.set_cons_zero, List.set_cons_succ])
      refine wpAnyH_ready (rs := [27]) (by kernel_rfl) (by simp) ?_
      refine AllReadyH.cons rfl (fun K9 hK9 => ?_) AllReadyH.nil
      (try simp only [List.getElem_toArray, List.getElem_cons_zero, List.getElem_cons_succ])
      go_simp
      refine (awake24_any _).mono ?_
      rintro en w10 ⟨rfl, hw10⟩
      have H10 := Lib.hid (H9.out.trans (hw10.mono H9.out.size))
      clear hw10
      refine hK9.out _ _ (H10.out) (fun hHeld9 => ?_)
      clear hK9 K9
      (try simp only [List.getElem_toArray, List.getElem_cons_zero, List.getElem_cons_succ, Act.put, List.setIfInBounds_toArray, List.set_cons_zero, List.set_cons_succ])
      refine' wpAnyH_take (i := 28) (v := _) rfl (by kernel_rfl) (by kernel_rfl) (by kernel_rfl) (fun _ _ _ h => h) (Or.inl ⟨by rfl, ?taq24⟩) (by assumption) ?tbq24
      case taq24 =>
        intro wS hSw
        (try dsimp only at hSw)
        go_simp
        (try (with_reducible rfl))
      (try simp only [List.getElem_toArray, List.getElem_cons_zero, List.getElem_cons_succ, Act.put, List.setIfInBounds_toArray, List.set_cons_zero, List.set_cons_succ])
      refine' wpAnyH_take (i := 29) (v := _) rfl (by kernel_rfl) (by kernel_rfl) (by kernel_rfl) (fun _ _ _ h => h) (Or.inl ⟨by rfl, ?taq25⟩) (by assumption) ?tbq25
      case taq25 =>
        intro wS hSw
        (try dsimp only at hSw)
        go_simp
        (try (with_reducible rfl))
      (try simp only [List.getElem_toArray, List.getElem_cons_zero, List.getElem_cons_succ, Act.put, List.setIfInBounds_toArray, List.set_cons_zero, List.set_cons_succ])
      refine wpAnyH_done (by kernel_rfl) ?_ _
      go_wp2
      go_ret
      exact ⟨rfl, HB5.out.trans (H10.out.mono s5)⟩
end Go.Proofs.Ytcjpibdgnjncmaa
