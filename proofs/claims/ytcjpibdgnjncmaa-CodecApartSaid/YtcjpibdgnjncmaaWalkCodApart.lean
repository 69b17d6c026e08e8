/- The walk of CodecApart. -/
import Derived.Test.YtcjpibdgnjncmaaCodUse
import Derived.Test.YtcjpibdgnjncmaaCodRSame
import Derived.Test.YtcjpibdgnjncmaaOpenS
namespace Go.Proofs.Ytcjpibdgnjncmaa
open Go.RowKit
set_option linter.unusedVariables false
set_option linter.unusedSimpArgs false

theorem apart_same {s t : StV} (hs : okN s.seed s.step s.cs) (ht : okN t.seed t.step t.cs) : (encS s == encS t) = sameS s t := by
  rw [Bool.eq_iff_iff, beq_iff_eq]
  unfold sameS
  rw [Bool.and_eq_true, Bool.and_eq_true, beq_iff_eq, beq_iff_eq, sameCs_eq]
  constructor
  · intro e
    exact encC_inj hs ht e
  · rintro ⟨h1, h2, h3⟩
    rw [StV.encS_eq, StV.encS_eq, h1, h2]
    unfold StV.cs
    rw [h3]
/-- what the last region reads -/
structure ApS (w w' : World) (b0 b1 : Nat) (cs0 cs1 : List Value) (G : Nat) (va vb : Value) (ea eb : List UInt8) : Prop where
  bel : Below w.heap.size w w'
  k0 : Blk w' b0 25 cs0
  k1 : Blk w' b1 25 cs1
  ra : Reads w' G va (bytesV ea)
  rb : Reads w' G vb (bytesV eb)
  g : G ≤ w'.heap.size
theorem ApS.below {w w' w'' : World} {b0 b1 G : Nat} {cs0 cs1 : List Value} {va vb : Value} {ea eb : List UInt8} (h : ApS w w' b0 b1 cs0 cs1 G va vb ea eb) (hb : Below w'.heap.size w' w'') : ApS w w'' b0 b1 cs0 cs1 G va vb ea eb :=
  ⟨h.bel.trans (hb.mono h.bel.size), h.k0.below hb h.k0.lt, h.k1.below hb h.k1.lt, h.ra.below (hb.mono h.g), h.rb.below (hb.mono h.g), Nat.le_trans h.g hb.size⟩
set_option maxRecDepth 100000 in
set_option maxHeartbeats 3200000 in
theorem codecApart_walk (v0 : Value) (a0 : StV) (v1 : Value) (a1 : StV) (w : World) (o0 : StOf w w.heap.size v0 a0) (o1 : StOf w w.heap.size v1 a1) :
    Calls Try.prog 4 #[v0, v1] w fun en w' => en = .returned (.bool true) ∧ Below w.heap.size w w' := by
  obtain ⟨seed, step, lv, ps⟩ := a0
  obtain ⟨seed', step', lv', qs⟩ := a1
  have h0 := o0
  have h1 := o1
  obtain ⟨rfl, _, _, hx⟩ := o0
  obtain ⟨rfl, _, _, hy⟩ := o1
  dsimp only at hx hy h0 h1 ⊢
  obtain ⟨A, k, rfl⟩ := hx.form
  obtain ⟨A', k', rfl⟩ := hy.form
  have hb0 := ((Below.refl w.heap.size w).alloc (Nat.le_refl _) (.cells #[.int .u64 seed, .int .i64 step, .slice A ps.length k] 25)).alloc (by simp) (.cells #[.int .u64 seed', .int .i64 step', .slice A' qs.length k'] 25)
  have hk0 := (Blk.fresh w 25 [.int .u64 seed, .int .i64 step, .slice A ps.length k]).alloc (.cells #[.int .u64 seed', .int .i64 step', .slice A' qs.length k'] 25)
  have hk1 := Blk.fresh (w.alloc (.cells #[.int .u64 seed, .int .i64 step, .slice A ps.length k] 25)) 25 [.int .u64 seed', .int .i64 step', .slice A' qs.length k']
  rw [World.size_alloc] at hk1
  have HB := Lib.hid hb0
  have HK := Lib.hid hk0
  have HJ := Lib.hid hk1
  have HD := Lib.hid (h0.below hb0)
  have HE := Lib.hid (h1.below hb0)
  have HY := Lib.hid h0
  have HZ := Lib.hid h1
  have hs := hb0.size
  have hl := hk0.lt
  have hl1 := hk1.lt
  have HL1 : Hid (∀ W, Below w.heap.size w W → Calls Try.prog 8 #[.agg #[.int .u64 seed, .int .i64 step, .slice A ps.length k]] W (LightB W)) := Lib.hid (fun W hW => light_any _ _ W w.heap.size hW.size (h0.below hW))
  have HL2 : Hid (∀ W, Below w.heap.size w W → Calls Try.prog 8 #[.agg #[.int .u64 seed', .int .i64 step', .slice A' qs.length k']] W (LightB W)) := Lib.hid (fun W hW => light_any _ _ W w.heap.size hW.size (h1.below hW))
  have m0 := HK.out.cell 0
  have m1 := HK.out.cell 1
  have m2 := HK.out.cell 2
  simp only [List.getElem?_cons_zero, List.getElem?_cons_succ] at m0 m1 m2
  clear h0 h1 hx hy hb0 hk0 hk1
  go_enter Try.func4, Try.ntmps4
  go_wp2_with fail
  clear m0 m1 m2
  generalize ((w.alloc (.cells #[.int .u64 seed, .int .i64 step, .slice A ps.length k] 25)).alloc (.cells #[.int .u64 seed', .int .i64 step', .slice A' qs.length k'] 25)) = w1 at HB HK HJ HD HE hs hl hl1 ⊢
  refine (HL1.out _ HB.out).mono ?_
  rintro en w2 ⟨⟨b2, rfl⟩, hw2⟩
  have HK2 := Lib.hid (HK.out.below hw2 hl)
  have HJ2 := Lib.hid (HJ.out.below hw2 hl1)
  have HB2 := Lib.hid (HB.out.trans (hw2.mono hs))
  have s2 := HB2.out.size
  clear HD HE HK HJ HB HL1 hw2 hl hl1 hs
  cases b2 with
  | false =>
    clear HL2
    go_wp2_with (go_at_call 9; refine (awake24_any _).mono ?_; rintro en w' ⟨rfl, hb9⟩)
    go_ret
    exact ⟨rfl, HB2.out.trans (hb9.mono s2)⟩
  | true =>
    have l2 := HK2.out.lt
    have j2 := HJ2.out.lt
    have m0 := HK2.out.cell 0
    have m1 := HK2.out.cell 1
    have m2 := HK2.out.cell 2
    simp only [List.getElem?_cons_zero, List.getElem?_cons_succ] at m0 m1 m2
    have u0 := HJ2.out.cell 0
    have u1 := HJ2.out.cell 1
    have u2 := HJ2.out.cell 2
    simp only [List.getElem?_cons_zero, List.getElem?_cons_succ] at u0 u1 u2
    go_wp2_with fail
    refine (HL2.out _ HB2.out).mono ?_
    rintro en w3 ⟨⟨b3, rfl⟩, hw3⟩
    have HK3 := Lib.hid (HK2.out.below hw3 l2)
    have HJ3 := Lib.hid (HJ2.out.below hw3 j2)
    have HB3 := Lib.hid (HB2.out.trans (hw3.mono s2))
    have s3 := HB3.out.size
    clear HK2 HJ2 HB2 HL2 hw3 l2 j2 m0 m1 m2 u0 u1 u2
    cases b3 with
    | false =>
      go_wp2_with (go_at_call 9; refine (awake24_any _).mono ?_; rintro en w' ⟨rfl, hb9⟩)
      go_ret
      exact ⟨rfl, HB3.out.trans (hb9.mono s3)⟩
    | true =>
      have l3 := HK3.out.lt
      have j3 := HJ3.out.lt
      have m0 := HK3.out.cell 0
      have m1 := HK3.out.cell 1
      have m2 := HK3.out.cell 2
      simp only [List.getElem?_cons_zero, List.getElem?_cons_succ] at m0 m1 m2
      go_wp2_with fail
      refine (cenc_any _ ⟨seed, step, .slice A ps.length k, ps⟩ w3 w.heap.size s3 (HY.out.below HB3.out)).mono ?_
      rintro en w4 ⟨hb4, hcase⟩
      have HK4 := Lib.hid (HK3.out.below hb4 l3)
      have HJ4 := Lib.hid (HJ3.out.below hb4 j3)
      have HB4 := Lib.hid (HB3.out.trans (hb4.mono s3))
      have s4 := HB4.out.size
      have l4 := HK4.out.lt
      have j4 := HJ4.out.lt
      clear hb4 HK3 HJ3 HB3 l3 j3 m0 m1 m2
      rcases hcase with ⟨hm, rfl⟩ | ⟨hm, A4, c4, rfl, hown4⟩
      · clear hm
        have u0 := HJ4.out.cell 0
        have u1 := HJ4.out.cell 1
        have u2 := HJ4.out.cell 2
        simp only [List.getElem?_cons_zero, List.getElem?_cons_succ] at u0 u1 u2
        go_wp2_with fail
        refine (cenc_any _ ⟨seed', step', .slice A' qs.length k', qs⟩ w4 w.heap.size s4 (HZ.out.below HB4.out)).mono ?_
        rintro en w5 ⟨hb5, hcase⟩
        have HB5 := Lib.hid (HB4.out.trans (hb5.mono s4))
        have s5 := HB5.out.size
        clear hb5 u0 u1 u2
        rcases hcase with ⟨hm, rfl⟩ | ⟨hm, A5, c5, rfl, hown5⟩
        · clear hm
          go_wp2_with (go_at_call 9; refine (awake24_any _).mono ?_; rintro en w' ⟨rfl, hb9⟩)
          go_ret
          exact ⟨rfl, HB5.out.trans (hb9.mono s5)⟩
        · clear hm hown5
          go_wp2_with (go_at_call 9; refine (awake24_any _).mono ?_; rintro en w' ⟨rfl, hb9⟩)
          go_ret
          exact ⟨rfl, HB5.out.trans (hb9.mono s5)⟩
      · have HM := Lib.hid hm
        have HR4 := Lib.hid (Reads.of_own hown4)
        clear hm hown4
        have u0 := HJ4.out.cell 0
        have u1 := HJ4.out.cell 1
        have u2 := HJ4.out.cell 2
        simp only [List.getElem?_cons_zero, List.getElem?_cons_succ] at u0 u1 u2
        go_wp2_with fail
        refine (cenc_any _ ⟨seed', step', .slice A' qs.length k', qs⟩ w4 w.heap.size s4 (HZ.out.below HB4.out)).mono ?_
        rintro en w5 ⟨hb5, hcase⟩
        have HB5 := Lib.hid (HB4.out.trans (hb5.mono s4))
        have s5 := HB5.out.size
        have HK5 := Lib.hid (HK4.out.below hb5 l4)
        have HJ5 := Lib.hid (HJ4.out.below hb5 j4)
        have HR5 := Lib.hid ((HR4.out.below hb5).more hb5.size)
        clear hb5 u0 u1 u2 HR4 HK4 HJ4 HB4 l4 j4
        rcases hcase with ⟨hm, rfl⟩ | ⟨hm, A5, c5, rfl, hown5⟩
        · clear hm
          go_wp2_with (go_at_call 9; refine (awake24_any _).mono ?_; rintro en w' ⟨rfl, hb9⟩)
          go_ret
          exact ⟨rfl, HB5.out.trans (hb9.mono s5)⟩
        · have HQ5 := Lib.hid (Reads.of_own hown5)
          have hap := apart_same (s := ⟨seed, step, .slice A ps.length k, ps⟩) (t := ⟨seed', step', .slice A' qs.length k', qs⟩) (stOf_okN HY.out HM.out) (stOf_okN HZ.out hm)
          have HAP := Lib.hid hap
          have HA5 : Hid (ApS w w5 w.heap.size (w.heap.size + 1) [.int .u64 seed, .int .i64 step, .slice A ps.length k] [.int .u64 seed', .int .i64 step', .slice A' qs.length k'] w5.heap.size (.slice A4 (encS ⟨seed, step, .slice A ps.length k, ps⟩).length c4) (.slice A5 (encS ⟨seed', step', .slice A' qs.length k', qs⟩).length c5) (encS ⟨seed, step, .slice A ps.length k, ps⟩) (encS ⟨seed', step', .slice A' qs.length k', qs⟩)) := Lib.hid ⟨HB5.out, HK5.out, HJ5.out, HR5.out, HQ5.out, Nat.le_refl _⟩
          clear hap hm hown5 HK5 HJ5 HR5 HQ5 HM
          generalize encS ⟨seed, step, .slice A ps.length k, ps⟩ = E at HA5 HAP ⊢
          generalize encS ⟨seed', step', .slice A' qs.length k', qs⟩ = F at HA5 HAP ⊢
          obtain ⟨bev, hbev⟩ : ∃ b, (E == F) = b := ⟨_, rfl⟩
          rw [hbev] at HAP
          unfold sameS at HAP
          dsimp only at HAP
          obtain ⟨d3, hd3⟩ : ∃ b, sameCs (ps.map (·.c)) (qs.map (·.c)) = b := ⟨_, rfl⟩
          have HS3 : Hid (∀ W, Below w.heap.size w W → Calls Try.prog 15 #[.slice A ps.length k, .slice A' qs.length k'] W fun en w' => en = .returned (.bool d3) ∧ Below W.heap.size W w') := Lib.hid (fun W hW => by
            have h := rsamep_any ps qs _ _ w.heap.size W hW.size (HY.out.ps.below hW) (HZ.out.ps.below hW)
            rw [hd3] at h
            exact h)
          rw [hd3] at HAP
          clear hd3
          go_upto_region 7 with fail
          refine wp_region_held_drew (S := ((fun w' => ApS w w' w.heap.size (w.heap.size + 1) [.int .u64 seed, .int .i64 step, .slice A ps.length k] [.int .u64 seed', .int .i64 step', .slice A' qs.length k'] w5.heap.size (.slice A4 E.length c4) (.slice A5 F.length c5) E F))) (by kernel_rfl) (HA5.out.below (Below.refl _ _).drew) (fun hHeld => ?_)
          generalize w5.drew = wd at hHeld ⊢
          clear HA5 HB5 s5
          cases c1 : (seed == seed') with
          | false =>
            have hbf : bev = false := by rw [HAP.out, c1]; rfl
            subst hbf
            refine' wpAnyH_take (i := 0) (v := _) rfl (by kernel_rfl) (by kernel_rfl) (by kernel_rfl) (fun _ _ _ h => h) (Or.inl ⟨by rfl, ?taq1⟩) (by assumption) ?tbq1
            case taq1 =>
              intro wS hSw
              (try dsimp only at hSw)
              (have m0 := hSw.k0.cell 0; have m1 := hSw.k0.cell 1; have m2 := hSw.k0.cell 2; have l0 := hSw.k0.lt; have u0 := hSw.k1.cell 0; have u1 := hSw.k1.cell 1; have u2 := hSw.k1.cell 2; have j0 := hSw.k1.lt; simp only [List.getElem?_cons_zero, List.getElem?_cons_succ] at m0 m1 m2 u0 u1 u2; have za := run_str_k hSw.ra; have zb := run_str_k hSw.rb; clear hSw; go_simp)
              (try (with_reducible rfl))
            (try simp only [List.getElem_toArray, List.getElem_cons_zero, List.getElem_cons_succ, Act.put, List.setIfInBounds_toArray, List.set_cons_zero, List.set_cons_succ])
            refine' wpAnyH_take (i := 1) (v := _) rfl (by kernel_rfl) (by kernel_rfl) (by kernel_rfl) (fun _ _ _ h => h) (Or.inl ⟨by rfl, ?taq2⟩) (by assumption) ?tbq2
            case taq2 =>
              intro wS hSw
              (try dsimp only at hSw)
              (have m0 := hSw.k0.cell 0; have m1 := hSw.k0.cell 1; have m2 := hSw.k0.cell 2; have l0 := hSw.k0.lt; have u0 := hSw.k1.cell 0; have u1 := hSw.k1.cell 1; have u2 := hSw.k1.cell 2; have j0 := hSw.k1.lt; simp only [List.getElem?_cons_zero, List.getElem?_cons_succ] at m0 m1 m2 u0 u1 u2; have za := run_str_k hSw.ra; have zb := run_str_k hSw.rb; clear hSw; go_simp)
              (try (with_reducible rfl))
            (try simp only [List.getElem_toArray, List.getElem_cons_zero, List.getElem_cons_succ, Act.put, List.setIfInBounds_toArray, List.set_cons_zero, List.set_cons_succ])
            refine' wpAnyH_take (i := 2) (v := _) rfl (by kernel_rfl) (by kernel_rfl) (by kernel_rfl) (fun _ _ _ h => h) (Or.inl ⟨by rfl, ?taq3⟩) (by assumption) ?tbq3
            case taq3 =>
              intro wS hSw
              (try dsimp only at hSw)
              (have m0 := hSw.k0.cell 0; have m1 := hSw.k0.cell 1; have m2 := hSw.k0.cell 2; have l0 := hSw.k0.lt; have u0 := hSw.k1.cell 0; have u1 := hSw.k1.cell 1; have u2 := hSw.k1.cell 2; have j0 := hSw.k1.lt; simp only [List.getElem?_cons_zero, List.getElem?_cons_succ] at m0 m1 m2 u0 u1 u2; have za := run_str_k hSw.ra; have zb := run_str_k hSw.rb; clear hSw; go_simp)
              (try (with_reducible rfl))
            (try simp only [List.getElem_toArray, List.getElem_cons_zero, List.getElem_cons_succ, Act.put, List.setIfInBounds_toArray, List.set_cons_zero, List.set_cons_succ])
            refine' wpAnyH_take (i := 3) (v := _) rfl (by kernel_rfl) (by kernel_rfl) (by kernel_rfl) (fun _ _ _ h => h) (Or.inl ⟨by rfl, ?taq4⟩) (by assumption) ?tbq4
            case taq4 =>
              intro wS hSw
              (try dsimp only at hSw)
              (have m0 := hSw.k0.cell 0; have m1 := hSw.k0.cell 1; have m2 := hSw.k0.cell 2; have l0 := hSw.k0.lt; have u0 := hSw.k1.cell 0; have u1 := hSw.k1.cell 1; have u2 := hSw.k1.cell 2; have j0 := hSw.k1.lt; simp only [List.getElem?_cons_zero, List.getElem?_cons_succ] at m0 m1 m2 u0 u1 u2; have za := run_str_k hSw.ra; have zb := run_str_k hSw.rb; clear hSw; go_simp)
              (try (with_reducible rfl))
            (try simp only [List.getElem_toArray, List.getElem_cons_zero, List.getElem_cons_succ, Act.put, List.setIfInBounds_toArray, List.set_cons_zero, List.set_cons_succ])
            refine' wpAnyH_take (i := 4) (v := _) rfl (by kernel_rfl) (by kernel_rfl) (by kernel_rfl) (fun _ _ _ h => h) (Or.inl ⟨by rfl, ?taq5⟩) (by assumption) ?tbq5
            case taq5 =>
              intro wS hSw
              (try dsimp only at hSw)
              (have m0 := hSw.k0.cell 0; have m1 := hSw.k0.cell 1; have m2 := hSw.k0.cell 2; have l0 := hSw.k0.lt; have u0 := hSw.k1.cell 0; have u1 := hSw.k1.cell 1; have u2 := hSw.k1.cell 2; have j0 := hSw.k1.lt; simp only [List.getElem?_cons_zero, List.getElem?_cons_succ] at m0 m1 m2 u0 u1 u2; have za := run_str_k hSw.ra; have zb := run_str_k hSw.rb; clear hSw; go_simp)
              (try (with_reducible rfl))
            (try simp only [List.getElem_toArray, List.getElem_cons_zero, List.getElem_cons_succ, Act.put, List.setIfInBounds_toArray, List.set_cons_zero, List.set_cons_succ])
            refine' wpAnyH_take (i := 5) (v := _) rfl (by kernel_rfl) (by kernel_rfl) (by kernel_rfl) (fun _ _ _ h => h) (Or.inl ⟨by rfl, ?taq6⟩) (by assumption) ?tbq6
            case taq6 =>
              intro wS hSw
              (try dsimp only at hSw)
              (have m0 := hSw.k0.cell 0; have m1 := hSw.k0.cell 1; have m2 := hSw.k0.cell 2; have l0 := hSw.k0.lt; have u0 := hSw.k1.cell 0; have u1 := hSw.k1.cell 1; have u2 := hSw.k1.cell 2; have j0 := hSw.k1.lt; simp only [List.getElem?_cons_zero, List.getElem?_cons_succ] at m0 m1 m2 u0 u1 u2; have za := run_str_k hSw.ra; have zb := run_str_k hSw.rb; clear hSw; go_simp)
              (try (with_reducible rfl))
            (try simp only [List.getElem_toArray, List.getElem_cons_zero, List.getElem_cons_succ, Act.put, List.setIfInBounds_toArray, List.set_cons_zero, List.set_cons_succ])
            refine' wpAnyH_take (i := 6) (v := _) rfl (by kernel_rfl) (by kernel_rfl) (by kernel_rfl) (fun _ _ _ h => h) (Or.inl ⟨by rfl, ?taq7⟩) (by assumption) ?tbq7
            case taq7 =>
              intro wS hSw
              (try dsimp only at hSw)
              (have m0 := hSw.k0.cell 0; have m1 := hSw.k0.cell 1; have m2 := hSw.k0.cell 2; have l0 := hSw.k0.lt; have u0 := hSw.k1.cell 0; have u1 := hSw.k1.cell 1; have u2 := hSw.k1.cell 2; have j0 := hSw.k1.lt; simp only [List.getElem?_cons_zero, List.getElem?_cons_succ] at m0 m1 m2 u0 u1 u2; have za := run_str_k hSw.ra; have zb := run_str_k hSw.rb; clear hSw; go_simp)
              (try (with_reducible rfl))
            (try simp only [List.getElem_toArray, List.getElem_cons_zero, List.getElem_cons_succ, Act.put, List.setIfInBounds_toArray, List.set_cons_zero, List.set_cons_succ])
            refine' wpAnyH_take (i := 7) (v := _) rfl (by kernel_rfl) (by kernel_rfl) (by kernel_rfl) (fun _ _ _ h => h) (Or.inl ⟨by rfl, ?taq8⟩) (by assumption) ?tbq8
            case taq8 =>
              intro wS hSw
              (try dsimp only at hSw)
              (have m0 := hSw.k0.cell 0; have m1 := hSw.k0.cell 1; have m2 := hSw.k0.cell 2; have l0 := hSw.k0.lt; have u0 := hSw.k1.cell 0; have u1 := hSw.k1.cell 1; have u2 := hSw.k1.cell 2; have j0 := hSw.k1.lt; simp only [List.getElem?_cons_zero, List.getElem?_cons_succ] at m0 m1 m2 u0 u1 u2; have za := run_str_k hSw.ra; have zb := run_str_k hSw.rb; clear hSw; go_simp)
              (try (with_reducible rfl))
            (try simp only [List.getElem_toArray, List.getElem_cons_zero, List.getElem_cons_succ, Act.put, List.setIfInBounds_toArray, List.set_cons_zero, List.set_cons_succ])
            refine' wpAnyH_take (i := 8) (v := _) rfl (by kernel_rfl) (by kernel_rfl) (by kernel_rfl) (fun _ _ _ h => h) (Or.inl ⟨by rfl, ?taq9⟩) (by assumption) ?tbq9
            case taq9 =>
              intro wS hSw
              (try dsimp only at hSw)
              (have m0 := hSw.k0.cell 0; have m1 := hSw.k0.cell 1; have m2 := hSw.k0.cell 2; have l0 := hSw.k0.lt; have u0 := hSw.k1.cell 0; have u1 := hSw.k1.cell 1; have u2 := hSw.k1.cell 2; have j0 := hSw.k1.lt; simp only [List.getElem?_cons_zero, List.getElem?_cons_succ] at m0 m1 m2 u0 u1 u2; have za := run_str_k hSw.ra; have zb := run_str_k hSw.rb; clear hSw; go_simp)
              (try (with_reducible rfl))
            (try simp only [List.getElem_toArray, List.getElem_cons_zero, List.getElem_cons_succ, Act.put, List.setIfInBounds_toArray, List.set_cons_zero, List.set_cons_succ])
            refine' wpAnyH_take (i := 9) (v := _) rfl (by kernel_rfl) (by kernel_rfl) (by kernel_rfl) (fun _ _ _ h => h) (Or.inl ⟨by rfl, ?taq10⟩) (by assumption) ?tbq10
            case taq10 =>
              intro wS hSw
              (try dsimp only at hSw)
              (have m0 := hSw.k0.cell 0; have m1 := hSw.k0.cell 1; have m2 := hSw.k0.cell 2; have l0 := hSw.k0.lt; have u0 := hSw.k1.cell 0; have u1 := hSw.k1.cell 1; have u2 := hSw.k1.cell 2; have j0 := hSw.k1.lt; simp only [List.getElem?_cons_zero, List.getElem?_cons_succ] at m0 m1 m2 u0 u1 u2; have za := run_str_k hSw.ra; have zb := run_str_k hSw.rb; clear hSw; go_simp)
              (try (with_reducible rfl))
            (try simp only [List.getElem_toArray, List.getElem_cons_zero, List.getElem_cons_succ, Act.put, List.setIfInBounds_toArray, List.set_cons_zero, List.set_cons_succ])
            refine' wpAnyH_take (i := 10) (v := _) rfl (by kernel_rfl) (by kernel_rfl) (by kernel_rfl) (fun _ _ _ h => h) (Or.inl ⟨by rfl, ?taq11⟩) (by assumption) ?tbq11
            case taq11 =>
              intro wS hSw
              (try dsimp only at hSw)
              (have m0 := hSw.k0.cell 0; have m1 := hSw.k0.cell 1; have m2 := hSw.k0.cell 2; have l0 := hSw.k0.lt; have u0 := hSw.k1.cell 0; have u1 := hSw.k1.cell 1; have u2 := hSw.k1.cell 2; have j0 := hSw.k1.lt; simp only [List.getElem?_cons_zero, List.getElem?_cons_succ] at m0 m1 m2 u0 u1 u2; have za := run_str_k hSw.ra; have zb := run_str_k hSw.rb; clear hSw; go_simp)
              (try (with_reducible rfl))
            (try simp only [List.getElem_toArray, List.getElem_cons_zero, List.getElem_cons_succ, Act.put, List.setIfInBounds_toArray, List.set_cons_zero, List.set_cons_succ])
            refine' wpAnyH_take (i := 11) (v := _) rfl (by kernel_rfl) (by kernel_rfl) (by kernel_rfl) (fun _ _ _ h => h) (Or.inr ⟨by rfl, rfl⟩) (by assumption) ?tbq12
            (try simp only [List.getElem_toArray, List.getElem_cons_zero, List.getElem_cons_succ, Act.put, List.setIfInBounds_toArray, List.set_cons_zero, List.set_cons_succ])
            refine' wpAnyH_take (i := 12) (v := _) rfl (by kernel_rfl) (by kernel_rfl) (by kernel_rfl) (fun _ _ _ h => h) (Or.inr ⟨by rfl, rfl⟩) (by assumption) ?tbq13
            (try simp only [List.getElem_toArray, List.getElem_cons_zero, List.getElem_cons_succ, Act.put, List.setIfInBounds_toArray, List.set_cons_zero, List.set_cons_succ])
            refine' wpAnyH_take (i := 13) (v := _) rfl (by kernel_rfl) (by kernel_rfl) (by kernel_rfl) (fun _ _ _ h => h) (Or.inr ⟨by rfl, rfl⟩) (by assumption) ?tbq14
            (try simp only [List.getElem_toArray, List.getElem_cons_zero, List.getElem_cons_succ, Act.put, List.setIfInBounds_toArray, List.set_cons_zero, List.set_cons_succ])
            refine' wpAnyH_take (i := 14) (v := _) rfl (by kernel_rfl) (by kernel_rfl) (by kernel_rfl) (fun _ _ _ h => h) (Or.inr ⟨by rfl, rfl⟩) (by assumption) ?tbq15
            (try simp only [List.getElem_toArray, List.getElem_cons_zero, List.getElem_cons_succ, Act.put, List.setIfInBounds_toArray, List.set_cons_zero, List.set_cons_succ])
            refine' wpAnyH_take (i := 15) (v := _) rfl (by kernel_rfl) (by kernel_rfl) (by kernel_rfl) (fun _ _ _ h => h) (Or.inr ⟨by rfl, rfl⟩) (by assumption) ?tbq16
            (try simp only [List.getElem_toArray, List.getElem_cons_zero, List.getElem_cons_succ, Act.put, List.setIfInBounds_toArray, List.set_cons_zero, List.set_cons_succ])
            refine' wpAnyH_take (i := 16) (v := _) rfl (by kernel_rfl) (by kernel_rfl) (by kernel_rfl) (fun _ _ _ h => h) (Or.inl ⟨by rfl, ?taq17⟩) (by assumption) ?tbq17
            case taq17 =>
              intro wS hSw
              (try dsimp only at hSw)
              go_simp
              (try (with_reducible rfl))
            (try simp only [List.getElem_toArray, List.getElem_cons_zero, List.getElem_cons_succ, Act.put, List.setIfInBounds_toArray, List.set_cons_zero, List.set_cons_succ])
            refine' wpAnyH_take (i := 17) (v := _) rfl (by kernel_rfl) (by kernel_rfl) (by kernel_rfl) (fun _ _ _ h => h) (Or.inl ⟨by rfl, ?taq18⟩) (by assumption) ?tbq18
            case taq18 =>
              intro wS hSw
              (try dsimp only at hSw)
              go_simp
              (try (with_reducible rfl))
            (try simp only [List.getElem_toArray, List.getElem_cons_zero, List.getElem_cons_succ, Act.put, List.setIfInBounds_toArray, List.set_cons_zero, List.set_cons_succ])
            refine' wpAnyH_take (i := 18) (v := _) rfl (by kernel_rfl) (by kernel_rfl) (by kernel_rfl) (fun _ _ _ h => h) (Or.inr ⟨by rfl, rfl⟩) (by assumption) ?tbq19
            (try simp only [List.getElem_toArray, List.getElem_cons_zero, List.getElem_cons_succ, Act.put, List.setIfInBounds_toArray, List.set_cons_zero, List.set_cons_succ])
            refine' wpAnyH_take (i := 19) (v := _) rfl (by kernel_rfl) (by kernel_rfl) (by kernel_rfl) (fun _ _ _ h => h) (Or.inr ⟨by rfl, rfl⟩) (by assumption) ?tbq20
            (try simp only [List.getElem_toArray, List.getElem_cons_zero, List.getElem_cons_succ, Act.put, List.setIfInBounds_toArray, List.set_cons_zero, List.set_cons_succ])
            refine' wpAnyH_take (i := 20) (v := _) rfl (by kernel_rfl) (by kernel_rfl) (by kernel_rfl) (fun _ _ _ h => h) (Or.inr ⟨by rfl, rfl⟩) (by assumption) ?tbq21
            (try simp only [List.getElem_toArray, List.getElem_cons_zero, List.getElem_cons_succ, Act.put, List.setIfInBounds_toArray, List.set_cons_zero, List.set_cons_succ])
            refine' wpAnyH_take (i := 21) (v := _) rfl (by kernel_rfl) (by kernel_rfl) (by kernel_rfl) (fun _ _ _ h => h) (Or.inr ⟨by rfl, rfl⟩) (by assumption) ?tbq22
            (try simp only [List.getElem_toArray, List.getElem_cons_zero, List.getElem_cons_succ, Act.put, List.setIfInBounds_toArray, List.set_cons_zero, List.set_cons_succ])
            refine' wpAnyH_take (i := 22) (v := _) rfl (by kernel_rfl) (by kernel_rfl) (by kernel_rfl) (fun _ _ _ h => h) (Or.inr ⟨by rfl, rfl⟩) (by assumption) ?tbq23
            (try simp only [List.getElem_toArray, List.getElem_cons_zero, List.getElem_cons_succ, Act.put, List.setIfInBounds_toArray, List.set_cons_zero, List.set_cons_succ])
            refine' wpAnyH_take (i := 23) (v := _) rfl (by kernel_rfl) (by kernel_rfl) (by kernel_rfl) (fun _ _ _ h => h) (Or.inl ⟨by rfl, ?taq24⟩) (by assumption) ?tbq24
            case taq24 =>
              intro wS hSw
              (try dsimp only at hSw)
              go_simp
              (try (with_reducible rfl))
            (try simp only [List.getElem_toArray, List.getElem_cons_zero, List.getElem_cons_succ, Act.put, List.setIfInBounds_toArray, List.set_cons_zero, List.set_cons_succ])
            refine' wpAnyH_take (i := 24) (v := _) rfl (by kernel_rfl) (by kernel_rfl) (by kernel_rfl) (fun _ _ _ h => h) (Or.inl ⟨by rfl, ?taq25⟩) (by assumption) ?tbq25
            case taq25 =>
              intro wS hSw
              (try dsimp only at hSw)
              go_simp
              (try (with_reducible rfl))
            (try simp only [List.getElem_toArray, List.getElem_cons_zero, List.getElem_cons_succ, Act.put, List.setIfInBounds_toArray, List.set_cons_zero, List.set_cons_succ])
            refine' wpAnyH_take (i := 25) (v := _) rfl (by kernel_rfl) (by kernel_rfl) (by kernel_rfl) (fun _ _ _ h => h) (Or.inl ⟨by rfl, ?taq26⟩) (by assumption) ?tbq26
            case taq26 =>
              intro wS hSw
              (try dsimp only at hSw)
              go_simp
              (try (with_reducible rfl))
            (try simp only [List.getElem_toArray, List.getElem_cons_zero, List.getElem_cons_succ, Act.put, List.setIfInBounds_toArray, List.set_cons_zero, List.set_cons_succ])
            refine wpAnyH_ready (rs := [26]) (by kernel_rfl) (by simp) ?_
            refine AllReadyH.cons rfl (fun K9 hK9 => ?_) AllReadyH.nil
            (try simp only [List.getElem_toArray, List.getElem_cons_zero, List.getElem_cons_succ])
            go_simp
            refine (awake24_any _).mono ?_
            rintro en wz ⟨rfl, hbz⟩
            have hHz := hHeld.below hbz
            clear hHeld hbz
            refine hK9.out _ _ (hHz) (fun hHeld9 => ?_)
            clear hK9 K9
            (try simp only [List.getElem_toArray, List.getElem_cons_zero, List.getElem_cons_succ, Act.put, List.setIfInBounds_toArray, List.set_cons_zero, List.set_cons_succ])
            refine' wpAnyH_take (i := 27) (v := _) rfl (by kernel_rfl) (by kernel_rfl) (by kernel_rfl) (fun _ _ _ h => h) (Or.inl ⟨by rfl, ?taq27⟩) (by assumption) ?tbq27
            case taq27 =>
              intro wS hSw
              (try dsimp only at hSw)
              go_simp
              (try (with_reducible rfl))
            (try simp only [List.getElem_toArray, List.getElem_cons_zero, List.getElem_cons_succ, Act.put, List.setIfInBounds_toArray, List.set_cons_zero, List.set_cons_succ])
            refine' wpAnyH_take (i := 28) (v := _) rfl (by kernel_rfl) (by kernel_rfl) (by kernel_rfl) (fun _ _ _ h => h) (Or.inl ⟨by rfl, ?taq28⟩) (by assumption) ?tbq28
            case taq28 =>
              intro wS hSw
              (try dsimp only at hSw)
              go_simp
              (try (with_reducible rfl))
            (try simp only [List.getElem_toArray, List.getElem_cons_zero, List.getElem_cons_succ, Act.put, List.setIfInBounds_toArray, List.set_cons_zero, List.set_cons_succ])
            refine wpAnyH_done (by kernel_rfl) ?_ _
            clear hHeld9
            go_wp2_with fail
            go_ret
            exact ⟨rfl, hHz.bel⟩
          | true =>
            cases c2 : (step == step') with
            | false =>
              have hbf : bev = false := by rw [HAP.out, c1, c2]; rfl
              subst hbf
              refine' wpAnyH_take (i := 0) (v := _) rfl (by kernel_rfl) (by kernel_rfl) (by kernel_rfl) (fun _ _ _ h => h) (Or.inl ⟨by rfl, ?taq29⟩) (by assumption) ?tbq29
              case taq29 =>
                intro wS hSw
                (try dsimp only at hSw)
                (have m0 := hSw.k0.cell 0; have m1 := hSw.k0.cell 1; have m2 := hSw.k0.cell 2; have l0 := hSw.k0.lt; have u0 := hSw.k1.cell 0; have u1 := hSw.k1.cell 1; have u2 := hSw.k1.cell 2; have j0 := hSw.k1.lt; simp only [List.getElem?_cons_zero, List.getElem?_cons_succ] at m0 m1 m2 u0 u1 u2; have za := run_str_k hSw.ra; have zb := run_str_k hSw.rb; clear hSw; go_simp)
                (try (with_reducible rfl))
              (try simp only [List.getElem_toArray, List.getElem_cons_zero, List.getElem_cons_succ, Act.put, List.setIfInBounds_toArray, List.set_cons_zero, List.set_cons_succ])
              refine' wpAnyH_take (i := 1) (v := _) rfl (by kernel_rfl) (by kernel_rfl) (by kernel_rfl) (fun _ _ _ h => h) (Or.inl ⟨by rfl, ?taq30⟩) (by assumption) ?tbq30
              case taq30 =>
                intro wS hSw
                (try dsimp only at hSw)
                (have m0 := hSw.k0.cell 0; have m1 := hSw.k0.cell 1; have m2 := hSw.k0.cell 2; have l0 := hSw.k0.lt; have u0 := hSw.k1.cell 0; have u1 := hSw.k1.cell 1; have u2 := hSw.k1.cell 2; have j0 := hSw.k1.lt; simp only [List.getElem?_cons_zero, List.getElem?_cons_succ] at m0 m1 m2 u0 u1 u2; have za := run_str_k hSw.ra; have zb := run_str_k hSw.rb; clear hSw; go_simp)
                (try (with_reducible rfl))
              (try simp only [List.getElem_toArray, List.getElem_cons_zero, List.getElem_cons_succ, Act.put, List.setIfInBounds_toArray, List.set_cons_zero, List.set_cons_succ])
              refine' wpAnyH_take (i := 2) (v := _) rfl (by kernel_rfl) (by kernel_rfl) (by kernel_rfl) (fun _ _ _ h => h) (Or.inl ⟨by rfl, ?taq31⟩) (by assumption) ?tbq31
              case taq31 =>
                intro wS hSw
                (try dsimp only at hSw)
                (have m0 := hSw.k0.cell 0; have m1 := hSw.k0.cell 1; have m2 := hSw.k0.cell 2; have l0 := hSw.k0.lt; have u0 := hSw.k1.cell 0; have u1 := hSw.k1.cell 1; have u2 := hSw.k1.cell 2; have j0 := hSw.k1.lt; simp only [List.getElem?_cons_zero, List.getElem?_cons_succ] at m0 m1 m2 u0 u1 u2; have za := run_str_k hSw.ra; have zb := run_str_k hSw.rb; clear hSw; go_simp)
                (try (with_reducible rfl))
              (try simp only [List.getElem_toArray, List.getElem_cons_zero, List.getElem_cons_succ, Act.put, List.setIfInBounds_toArray, List.set_cons_zero, List.set_cons_succ])
              refine' wpAnyH_take (i := 3) (v := _) rfl (by kernel_rfl) (by kernel_rfl) (by kernel_rfl) (fun _ _ _ h => h) (Or.inl ⟨by rfl, ?taq32⟩) (by assumption) ?tbq32
              case taq32 =>
                intro wS hSw
                (try dsimp only at hSw)
                (have m0 := hSw.k0.cell 0; have m1 := hSw.k0.cell 1; have m2 := hSw.k0.cell 2; have l0 := hSw.k0.lt; have u0 := hSw.k1.cell 0; have u1 := hSw.k1.cell 1; have u2 := hSw.k1.cell 2; have j0 := hSw.k1.lt; simp only [List.getElem?_cons_zero, List.getElem?_cons_succ] at m0 m1 m2 u0 u1 u2; have za := run_str_k hSw.ra; have zb := run_str_k hSw.rb; clear hSw; go_simp)
                (try (with_reducible rfl))
              (try simp only [List.getElem_toArray, List.getElem_cons_zero, List.getElem_cons_succ, Act.put, List.setIfInBounds_toArray, List.set_cons_zero, List.set_cons_succ])
              refine' wpAnyH_take (i := 4) (v := _) rfl (by kernel_rfl) (by kernel_rfl) (by kernel_rfl) (fun _ _ _ h => h) (Or.inl ⟨by rfl, ?taq33⟩) (by assumption) ?tbq33
              case taq33 =>
                intro wS hSw
                (try dsimp only at hSw)
                (have m0 := hSw.k0.cell 0; have m1 := hSw.k0.cell 1; have m2 := hSw.k0.cell 2; have l0 := hSw.k0.lt; have u0 := hSw.k1.cell 0; have u1 := hSw.k1.cell 1; have u2 := hSw.k1.cell 2; have j0 := hSw.k1.lt; simp only [List.getElem?_cons_zero, List.getElem?_cons_succ] at m0 m1 m2 u0 u1 u2; have za := run_str_k hSw.ra; have zb := run_str_k hSw.rb; clear hSw; go_simp)
                (try (with_reducible rfl))
              (try simp only [List.getElem_toArray, List.getElem_cons_zero, List.getElem_cons_succ, Act.put, List.setIfInBounds_toArray, List.set_cons_zero, List.set_cons_succ])
              refine' wpAnyH_take (i := 5) (v := _) rfl (by kernel_rfl) (by kernel_rfl) (by kernel_rfl) (fun _ _ _ h => h) (Or.inl ⟨by rfl, ?taq34⟩) (by assumption) ?tbq34
              case taq34 =>
                intro wS hSw
                (try dsimp only at hSw)
                (have m0 := hSw.k0.cell 0; have m1 := hSw.k0.cell 1; have m2 := hSw.k0.cell 2; have l0 := hSw.k0.lt; have u0 := hSw.k1.cell 0; have u1 := hSw.k1.cell 1; have u2 := hSw.k1.cell 2; have j0 := hSw.k1.lt; simp only [List.getElem?_cons_zero, List.getElem?_cons_succ] at m0 m1 m2 u0 u1 u2; have za := run_str_k hSw.ra; have zb := run_str_k hSw.rb; clear hSw; go_simp)
                (try (with_reducible rfl))
              (try simp only [List.getElem_toArray, List.getElem_cons_zero, List.getElem_cons_succ, Act.put, List.setIfInBounds_toArray, List.set_cons_zero, List.set_cons_succ])
              refine' wpAnyH_take (i := 6) (v := _) rfl (by kernel_rfl) (by kernel_rfl) (by kernel_rfl) (fun _ _ _ h => h) (Or.inl ⟨by rfl, ?taq35⟩) (by assumption) ?tbq35
              case taq35 =>
                intro wS hSw
                (try dsimp only at hSw)
                (have m0 := hSw.k0.cell 0; have m1 := hSw.k0.cell 1; have m2 := hSw.k0.cell 2; have l0 := hSw.k0.lt; have u0 := hSw.k1.cell 0; have u1 := hSw.k1.cell 1; have u2 := hSw.k1.cell 2; have j0 := hSw.k1.lt; simp only [List.getElem?_cons_zero, List.getElem?_cons_succ] at m0 m1 m2 u0 u1 u2; have za := run_str_k hSw.ra; have zb := run_str_k hSw.rb; clear hSw; go_simp)
                (try (with_reducible rfl))
              (try simp only [List.getElem_toArray, List.getElem_cons_zero, List.getElem_cons_succ, Act.put, List.setIfInBounds_toArray, List.set_cons_zero, List.set_cons_succ])
              refine' wpAnyH_take (i := 7) (v := _) rfl (by kernel_rfl) (by kernel_rfl) (by kernel_rfl) (fun _ _ _ h => h) (Or.inl ⟨by rfl, ?taq36⟩) (by assumption) ?tbq36
              case taq36 =>
                intro wS hSw
                (try dsimp only at hSw)
                (have m0 := hSw.k0.cell 0; have m1 := hSw.k0.cell 1; have m2 := hSw.k0.cell 2; have l0 := hSw.k0.lt; have u0 := hSw.k1.cell 0; have u1 := hSw.k1.cell 1; have u2 := hSw.k1.cell 2; have j0 := hSw.k1.lt; simp only [List.getElem?_cons_zero, List.getElem?_cons_succ] at m0 m1 m2 u0 u1 u2; have za := run_str_k hSw.ra; have zb := run_str_k hSw.rb; clear hSw; go_simp)
                (try (with_reducible rfl))
              (try simp only [List.getElem_toArray, List.getElem_cons_zero, List.getElem_cons_succ, Act.put, List.setIfInBounds_toArray, List.set_cons_zero, List.set_cons_succ])
              refine' wpAnyH_take (i := 8) (v := _) rfl (by kernel_rfl) (by kernel_rfl) (by kernel_rfl) (fun _ _ _ h => h) (Or.inl ⟨by rfl, ?taq37⟩) (by assumption) ?tbq37
              case taq37 =>
                intro wS hSw
                (try dsimp only at hSw)
                (have m0 := hSw.k0.cell 0; have m1 := hSw.k0.cell 1; have m2 := hSw.k0.cell 2; have l0 := hSw.k0.lt; have u0 := hSw.k1.cell 0; have u1 := hSw.k1.cell 1; have u2 := hSw.k1.cell 2; have j0 := hSw.k1.lt; simp only [List.getElem?_cons_zero, List.getElem?_cons_succ] at m0 m1 m2 u0 u1 u2; have za := run_str_k hSw.ra; have zb := run_str_k hSw.rb; clear hSw; go_simp)
                (try (with_reducible rfl))
              (try simp only [List.getElem_toArray, List.getElem_cons_zero, List.getElem_cons_succ, Act.put, List.setIfInBounds_toArray, List.set_cons_zero, List.set_cons_succ])
              refine' wpAnyH_take (i := 9) (v := _) rfl (by kernel_rfl) (by kernel_rfl) (by kernel_rfl) (fun _ _ _ h => h) (Or.inl ⟨by rfl, ?taq38⟩) (by assumption) ?tbq38
              case taq38 =>
                intro wS hSw
                (try dsimp only at hSw)
                (have m0 := hSw.k0.cell 0; have m1 := hSw.k0.cell 1; have m2 := hSw.k0.cell 2; have l0 := hSw.k0.lt; have u0 := hSw.k1.cell 0; have u1 := hSw.k1.cell 1; have u2 := hSw.k1.cell 2; have j0 := hSw.k1.lt; simp only [List.getElem?_cons_zero, List.getElem?_cons_succ] at m0 m1 m2 u0 u1 u2; have za := run_str_k hSw.ra; have zb := run_str_k hSw.rb; clear hSw; go_simp)
                (try (with_reducible rfl))
              (try simp only [List.getElem_toArray, List.getElem_cons_zero, List.getElem_cons_succ, Act.put, List.setIfInBounds_toArray, List.set_cons_zero, List.set_cons_succ])
              refine' wpAnyH_take (i := 10) (v := _) rfl (by kernel_rfl) (by kernel_rfl) (by kernel_rfl) (fun _ _ _ h => h) (Or.inl ⟨by rfl, ?taq39⟩) (by assumption) ?tbq39
              case taq39 =>
                intro wS hSw
                (try dsimp only at hSw)
                (have m0 := hSw.k0.cell 0; have m1 := hSw.k0.cell 1; have m2 := hSw.k0.cell 2; have l0 := hSw.k0.lt; have u0 := hSw.k1.cell 0; have u1 := hSw.k1.cell 1; have u2 := hSw.k1.cell 2; have j0 := hSw.k1.lt; simp only [List.getElem?_cons_zero, List.getElem?_cons_succ] at m0 m1 m2 u0 u1 u2; have za := run_str_k hSw.ra; have zb := run_str_k hSw.rb; clear hSw; go_simp)
                (try (with_reducible rfl))
              (try simp only [List.getElem_toArray, List.getElem_cons_zero, List.getElem_cons_succ, Act.put, List.setIfInBounds_toArray, List.set_cons_zero, List.set_cons_succ])
              refine' wpAnyH_take (i := 11) (v := _) rfl (by kernel_rfl) (by kernel_rfl) (by kernel_rfl) (fun _ _ _ h => h) (Or.inl ⟨by rfl, ?taq40⟩) (by assumption) ?tbq40
              case taq40 =>
                intro wS hSw
                (try dsimp only at hSw)
                (have m0 := hSw.k0.cell 0; have m1 := hSw.k0.cell 1; have m2 := hSw.k0.cell 2; have l0 := hSw.k0.lt; have u0 := hSw.k1.cell 0; have u1 := hSw.k1.cell 1; have u2 := hSw.k1.cell 2; have j0 := hSw.k1.lt; simp only [List.getElem?_cons_zero, List.getElem?_cons_succ] at m0 m1 m2 u0 u1 u2; have za := run_str_k hSw.ra; have zb := run_str_k hSw.rb; clear hSw; go_simp)
                (try (with_reducible rfl))
              (try simp only [List.getElem_toArray, List.getElem_cons_zero, List.getElem_cons_succ, Act.put, List.setIfInBounds_toArray, List.set_cons_zero, List.set_cons_succ])
              refine' wpAnyH_take (i := 12) (v := _) rfl (by kernel_rfl) (by kernel_rfl) (by kernel_rfl) (fun _ _ _ h => h) (Or.inl ⟨by rfl, ?taq41⟩) (by assumption) ?tbq41
              case taq41 =>
                intro wS hSw
                (try dsimp only at hSw)
                (have m0 := hSw.k0.cell 0; have m1 := hSw.k0.cell 1; have m2 := hSw.k0.cell 2; have l0 := hSw.k0.lt; have u0 := hSw.k1.cell 0; have u1 := hSw.k1.cell 1; have u2 := hSw.k1.cell 2; have j0 := hSw.k1.lt; simp only [List.getElem?_cons_zero, List.getElem?_cons_succ] at m0 m1 m2 u0 u1 u2; have za := run_str_k hSw.ra; have zb := run_str_k hSw.rb; clear hSw; go_simp)
                (try (with_reducible rfl))
              (try simp only [List.getElem_toArray, List.getElem_cons_zero, List.getElem_cons_succ, Act.put, List.setIfInBounds_toArray, List.set_cons_zero, List.set_cons_succ])
              refine' wpAnyH_take (i := 13) (v := _) rfl (by kernel_rfl) (by kernel_rfl) (by kernel_rfl) (fun _ _ _ h => h) (Or.inl ⟨by rfl, ?taq42⟩) (by assumption) ?tbq42
              case taq42 =>
                intro wS hSw
                (try dsimp only at hSw)
                (have m0 := hSw.k0.cell 0; have m1 := hSw.k0.cell 1; have m2 := hSw.k0.cell 2; have l0 := hSw.k0.lt; have u0 := hSw.k1.cell 0; have u1 := hSw.k1.cell 1; have u2 := hSw.k1.cell 2; have j0 := hSw.k1.lt; simp only [List.getElem?_cons_zero, List.getElem?_cons_succ] at m0 m1 m2 u0 u1 u2; have za := run_str_k hSw.ra; have zb := run_str_k hSw.rb; clear hSw; go_simp)
                (try (with_reducible rfl))
              (try simp only [List.getElem_toArray, List.getElem_cons_zero, List.getElem_cons_succ, Act.put, List.setIfInBounds_toArray, List.set_cons_zero, List.set_cons_succ])
              refine' wpAnyH_take (i := 14) (v := _) rfl (by kernel_rfl) (by kernel_rfl) (by kernel_rfl) (fun _ _ _ h => h) (Or.inl ⟨by rfl, ?taq43⟩) (by assumption) ?tbq43
              case taq43 =>
                intro wS hSw
                (try dsimp only at hSw)
                (have m0 := hSw.k0.cell 0; have m1 := hSw.k0.cell 1; have m2 := hSw.k0.cell 2; have l0 := hSw.k0.lt; have u0 := hSw.k1.cell 0; have u1 := hSw.k1.cell 1; have u2 := hSw.k1.cell 2; have j0 := hSw.k1.lt; simp only [List.getElem?_cons_zero, List.getElem?_cons_succ] at m0 m1 m2 u0 u1 u2; have za := run_str_k hSw.ra; have zb := run_str_k hSw.rb; clear hSw; go_simp)
                (try (with_reducible rfl))
              (try simp only [List.getElem_toArray, List.getElem_cons_zero, List.getElem_cons_succ, Act.put, List.setIfInBounds_toArray, List.set_cons_zero, List.set_cons_succ])
              refine' wpAnyH_take (i := 15) (v := _) rfl (by kernel_rfl) (by kernel_rfl) (by kernel_rfl) (fun _ _ _ h => h) (Or.inl ⟨by rfl, ?taq44⟩) (by assumption) ?tbq44
              case taq44 =>
                intro wS hSw
                (try dsimp only at hSw)
                go_simp
                (try (with_reducible rfl))
              (try simp only [List.getElem_toArray, List.getElem_cons_zero, List.getElem_cons_succ, Act.put, List.setIfInBounds_toArray, List.set_cons_zero, List.set_cons_succ])
              refine' wpAnyH_take (i := 16) (v := _) rfl (by kernel_rfl) (by kernel_rfl) (by kernel_rfl) (fun _ _ _ h => h) (Or.inl ⟨by rfl, ?taq45⟩) (by assumption) ?tbq45
              case taq45 =>
                intro wS hSw
                (try dsimp only at hSw)
                go_simp
                (try (with_reducible rfl))
              (try simp only [List.getElem_toArray, List.getElem_cons_zero, List.getElem_cons_succ, Act.put, List.setIfInBounds_toArray, List.set_cons_zero, List.set_cons_succ])
              refine' wpAnyH_take (i := 17) (v := _) rfl (by kernel_rfl) (by kernel_rfl) (by kernel_rfl) (fun _ _ _ h => h) (Or.inl ⟨by rfl, ?taq46⟩) (by assumption) ?tbq46
              case taq46 =>
                intro wS hSw
                (try dsimp only at hSw)
                go_simp
                (try (with_reducible rfl))
              (try simp only [List.getElem_toArray, List.getElem_cons_zero, List.getElem_cons_succ, Act.put, List.setIfInBounds_toArray, List.set_cons_zero, List.set_cons_succ])
              refine' wpAnyH_take (i := 18) (v := _) rfl (by kernel_rfl) (by kernel_rfl) (by kernel_rfl) (fun _ _ _ h => h) (Or.inr ⟨by rfl, rfl⟩) (by assumption) ?tbq47
              (try simp only [List.getElem_toArray, List.getElem_cons_zero, List.getElem_cons_succ, Act.put, List.setIfInBounds_toArray, List.set_cons_zero, List.set_cons_succ])
              refine' wpAnyH_take (i := 19) (v := _) rfl (by kernel_rfl) (by kernel_rfl) (by kernel_rfl) (fun _ _ _ h => h) (Or.inr ⟨by rfl, rfl⟩) (by assumption) ?tbq48
              (try simp only [List.getElem_toArray, List.getElem_cons_zero, List.getElem_cons_succ, Act.put, List.setIfInBounds_toArray, List.set_cons_zero, List.set_cons_succ])
              refine' wpAnyH_take (i := 20) (v := _) rfl (by kernel_rfl) (by kernel_rfl) (by kernel_rfl) (fun _ _ _ h => h) (Or.inr ⟨by rfl, rfl⟩) (by assumption) ?tbq49
              (try simp only [List.getElem_toArray, List.getElem_cons_zero, List.getElem_cons_succ, Act.put, List.setIfInBounds_toArray, List.set_cons_zero, List.set_cons_succ])
              refine' wpAnyH_take (i := 21) (v := _) rfl (by kernel_rfl) (by kernel_rfl) (by kernel_rfl) (fun _ _ _ h => h) (Or.inr ⟨by rfl, rfl⟩) (by assumption) ?tbq50
              (try simp only [List.getElem_toArray, List.getElem_cons_zero, List.getElem_cons_succ, Act.put, List.setIfInBounds_toArray, List.set_cons_zero, List.set_cons_succ])
              refine' wpAnyH_take (i := 22) (v := _) rfl (by kernel_rfl) (by kernel_rfl) (by kernel_rfl) (fun _ _ _ h => h) (Or.inr ⟨by rfl, rfl⟩) (by assumption) ?tbq51
              (try simp only [List.getElem_toArray, List.getElem_cons_zero, List.getElem_cons_succ, Act.put, List.setIfInBounds_toArray, List.set_cons_zero, List.set_cons_succ])
              refine' wpAnyH_take (i := 23) (v := _) rfl (by kernel_rfl) (by kernel_rfl) (by kernel_rfl) (fun _ _ _ h => h) (Or.inl ⟨by rfl, ?taq52⟩) (by assumption) ?tbq52
              case taq52 =>
                intro wS hSw
                (try dsimp only at hSw)
                go_simp
                (try (with_reducible rfl))
              (try simp only [List.getElem_toArray, List.getElem_cons_zero, List.getElem_cons_succ, Act.put, List.setIfInBounds_toArray, List.set_cons_zero, List.set_cons_succ])
              refine' wpAnyH_take (i := 24) (v := _) rfl (by kernel_rfl) (by kernel_rfl) (by kernel_rfl) (fun _ _ _ h => h) (Or.inl ⟨by rfl, ?taq53⟩) (by assumption) ?tbq53
              case taq53 =>
                intro wS hSw
                (try dsimp only at hSw)
                go_simp
                (try (with_reducible rfl))
              (try simp only [List.getElem_toArray, List.getElem_cons_zero, List.getElem_cons_succ, Act.put, List.setIfInBounds_toArray, List.set_cons_zero, List.set_cons_succ])
              refine' wpAnyH_take (i := 25) (v := _) rfl (by kernel_rfl) (by kernel_rfl) (by kernel_rfl) (fun _ _ _ h => h) (Or.inl ⟨by rfl, ?taq54⟩) (by assumption) ?tbq54
              case taq54 =>
                intro wS hSw
                (try dsimp only at hSw)
                go_simp
                (try (with_reducible rfl))
              (try simp only [List.getElem_toArray, List.getElem_cons_zero, List.getElem_cons_succ, Act.put, List.setIfInBounds_toArray, List.set_cons_zero, List.set_cons_succ])
              refine wpAnyH_ready (rs := [26]) (by kernel_rfl) (by simp) ?_
              refine AllReadyH.cons rfl (fun K9 hK9 => ?_) AllReadyH.nil
              (try simp only [List.getElem_toArray, List.getElem_cons_zero, List.getElem_cons_succ])
              go_simp
              refine (awake24_any _).mono ?_
              rintro en wz ⟨rfl, hbz⟩
              have hHz := hHeld.below hbz
              clear hHeld hbz
              refine hK9.out _ _ (hHz) (fun hHeld9 => ?_)
              clear hK9 K9
              (try simp only [List.getElem_toArray, List.getElem_cons_zero, List.getElem_cons_succ, Act.put, List.setIfInBounds_toArray, List.set_cons_zero, List.set_cons_succ])
              refine' wpAnyH_take (i := 27) (v := _) rfl (by kernel_rfl) (by kernel_rfl) (by kernel_rfl) (fun _ _ _ h => h) (Or.inl ⟨by rfl, ?taq55⟩) (by assumption) ?tbq55
              case taq55 =>
                intro wS hSw
                (try dsimp only at hSw)
                go_simp
                (try (with_reducible rfl))
              (try simp only [List.getElem_toArray, List.getElem_cons_zero, List.getElem_cons_succ, Act.put, List.setIfInBounds_toArray, List.set_cons_zero, List.set_cons_succ])
              refine' wpAnyH_take (i := 28) (v := _) rfl (by kernel_rfl) (by kernel_rfl) (by kernel_rfl) (fun _ _ _ h => h) (Or.inl ⟨by rfl, ?taq56⟩) (by assumption) ?tbq56
              case taq56 =>
                intro wS hSw
                (try dsimp only at hSw)
                go_simp
                (try (with_reducible rfl))
              (try simp only [List.getElem_toArray, List.getElem_cons_zero, List.getElem_cons_succ, Act.put, List.setIfInBounds_toArray, List.set_cons_zero, List.set_cons_succ])
              refine wpAnyH_done (by kernel_rfl) ?_ _
              clear hHeld9
              go_wp2_with fail
              go_ret
              exact ⟨rfl, hHz.bel⟩
            | true =>
              have hbf : bev = d3 := by rw [HAP.out, c1, c2]; rfl
              subst hbf
              refine' wpAnyH_take (i := 0) (v := _) rfl (by kernel_rfl) (by kernel_rfl) (by kernel_rfl) (fun _ _ _ h => h) (Or.inl ⟨by rfl, ?taq57⟩) (by assumption) ?tbq57
              case taq57 =>
                intro wS hSw
                (try dsimp only at hSw)
                (have m0 := hSw.k0.cell 0; have m1 := hSw.k0.cell 1; have m2 := hSw.k0.cell 2; have l0 := hSw.k0.lt; have u0 := hSw.k1.cell 0; have u1 := hSw.k1.cell 1; have u2 := hSw.k1.cell 2; have j0 := hSw.k1.lt; simp only [List.getElem?_cons_zero, List.getElem?_cons_succ] at m0 m1 m2 u0 u1 u2; have za := run_str_k hSw.ra; have zb := run_str_k hSw.rb; clear hSw; go_simp)
                (try (with_reducible rfl))
              (try simp only [List.getElem_toArray, List.getElem_cons_zero, List.getElem_cons_succ, Act.put, List.setIfInBounds_toArray, List.set_cons_zero, List.set_cons_succ])
              refine' wpAnyH_take (i := 1) (v := _) rfl (by kernel_rfl) (by kernel_rfl) (by kernel_rfl) (fun _ _ _ h => h) (Or.inl ⟨by rfl, ?taq58⟩) (by assumption) ?tbq58
              case taq58 =>
                intro wS hSw
                (try dsimp only at hSw)
                (have m0 := hSw.k0.cell 0; have m1 := hSw.k0.cell 1; have m2 := hSw.k0.cell 2; have l0 := hSw.k0.lt; have u0 := hSw.k1.cell 0; have u1 := hSw.k1.cell 1; have u2 := hSw.k1.cell 2; have j0 := hSw.k1.lt; simp only [List.getElem?_cons_zero, List.getElem?_cons_succ] at m0 m1 m2 u0 u1 u2; have za := run_str_k hSw.ra; have zb := run_str_k hSw.rb; clear hSw; go_simp)
                (try (with_reducible rfl))
              (try simp only [List.getElem_toArray, List.getElem_cons_zero, List.getElem_cons_succ, Act.put, List.setIfInBounds_toArray, List.set_cons_zero, List.set_cons_succ])
              refine' wpAnyH_take (i := 2) (v := _) rfl (by kernel_rfl) (by kernel_rfl) (by kernel_rfl) (fun _ _ _ h => h) (Or.inl ⟨by rfl, ?taq59⟩) (by assumption) ?tbq59
              case taq59 =>
                intro wS hSw
                (try dsimp only at hSw)
                (have m0 := hSw.k0.cell 0; have m1 := hSw.k0.cell 1; have m2 := hSw.k0.cell 2; have l0 := hSw.k0.lt; have u0 := hSw.k1.cell 0; have u1 := hSw.k1.cell 1; have u2 := hSw.k1.cell 2; have j0 := hSw.k1.lt; simp only [List.getElem?_cons_zero, List.getElem?_cons_succ] at m0 m1 m2 u0 u1 u2; have za := run_str_k hSw.ra; have zb := run_str_k hSw.rb; clear hSw; go_simp)
                (try (with_reducible rfl))
              (try simp only [List.getElem_toArray, List.getElem_cons_zero, List.getElem_cons_succ, Act.put, List.setIfInBounds_toArray, List.set_cons_zero, List.set_cons_succ])
              refine' wpAnyH_take (i := 3) (v := _) rfl (by kernel_rfl) (by kernel_rfl) (by kernel_rfl) (fun _ _ _ h => h) (Or.inl ⟨by rfl, ?taq60⟩) (by assumption) ?tbq60
              case taq60 =>
                intro wS hSw
                (try dsimp only at hSw)
                (have m0 := hSw.k0.cell 0; have m1 := hSw.k0.cell 1; have m2 := hSw.k0.cell 2; have l0 := hSw.k0.lt; have u0 := hSw.k1.cell 0; have u1 := hSw.k1.cell 1; have u2 := hSw.k1.cell 2; have j0 := hSw.k1.lt; simp only [List.getElem?_cons_zero, List.getElem?_cons_succ] at m0 m1 m2 u0 u1 u2; have za := run_str_k hSw.ra; have zb := run_str_k hSw.rb; clear hSw; go_simp)
                (try (with_reducible rfl))
              (try simp only [List.getElem_toArray, List.getElem_cons_zero, List.getElem_cons_succ, Act.put, List.setIfInBounds_toArray, List.set_cons_zero, List.set_cons_succ])
              refine' wpAnyH_take (i := 4) (v := _) rfl (by kernel_rfl) (by kernel_rfl) (by kernel_rfl) (fun _ _ _ h => h) (Or.inl ⟨by rfl, ?taq61⟩) (by assumption) ?tbq61
              case taq61 =>
                intro wS hSw
                (try dsimp only at hSw)
                (have m0 := hSw.k0.cell 0; have m1 := hSw.k0.cell 1; have m2 := hSw.k0.cell 2; have l0 := hSw.k0.lt; have u0 := hSw.k1.cell 0; have u1 := hSw.k1.cell 1; have u2 := hSw.k1.cell 2; have j0 := hSw.k1.lt; simp only [List.getElem?_cons_zero, List.getElem?_cons_succ] at m0 m1 m2 u0 u1 u2; have za := run_str_k hSw.ra; have zb := run_str_k hSw.rb; clear hSw; go_simp)
                (try (with_reducible rfl))
              (try simp only [List.getElem_toArray, List.getElem_cons_zero, List.getElem_cons_succ, Act.put, List.setIfInBounds_toArray, List.set_cons_zero, List.set_cons_succ])
              refine' wpAnyH_take (i := 5) (v := _) rfl (by kernel_rfl) (by kernel_rfl) (by kernel_rfl) (fun _ _ _ h => h) (Or.inl ⟨by rfl, ?taq62⟩) (by assumption) ?tbq62
              case taq62 =>
                intro wS hSw
                (try dsimp only at hSw)
                (have m0 := hSw.k0.cell 0; have m1 := hSw.k0.cell 1; have m2 := hSw.k0.cell 2; have l0 := hSw.k0.lt; have u0 := hSw.k1.cell 0; have u1 := hSw.k1.cell 1; have u2 := hSw.k1.cell 2; have j0 := hSw.k1.lt; simp only [List.getElem?_cons_zero, List.getElem?_cons_succ] at m0 m1 m2 u0 u1 u2; have za := run_str_k hSw.ra; have zb := run_str_k hSw.rb; clear hSw; go_simp)
                (try (with_reducible rfl))
              (try simp only [List.getElem_toArray, List.getElem_cons_zero, List.getElem_cons_succ, Act.put, List.setIfInBounds_toArray, List.set_cons_zero, List.set_cons_succ])
              refine' wpAnyH_take (i := 6) (v := _) rfl (by kernel_rfl) (by kernel_rfl) (by kernel_rfl) (fun _ _ _ h => h) (Or.inl ⟨by rfl, ?taq63⟩) (by assumption) ?tbq63
              case taq63 =>
                intro wS hSw
                (try dsimp only at hSw)
                (have m0 := hSw.k0.cell 0; have m1 := hSw.k0.cell 1; have m2 := hSw.k0.cell 2; have l0 := hSw.k0.lt; have u0 := hSw.k1.cell 0; have u1 := hSw.k1.cell 1; have u2 := hSw.k1.cell 2; have j0 := hSw.k1.lt; simp only [List.getElem?_cons_zero, List.getElem?_cons_succ] at m0 m1 m2 u0 u1 u2; have za := run_str_k hSw.ra; have zb := run_str_k hSw.rb; clear hSw; go_simp)
                (try (with_reducible rfl))
              (try simp only [List.getElem_toArray, List.getElem_cons_zero, List.getElem_cons_succ, Act.put, List.setIfInBounds_toArray, List.set_cons_zero, List.set_cons_succ])
              refine' wpAnyH_take (i := 7) (v := _) rfl (by kernel_rfl) (by kernel_rfl) (by kernel_rfl) (fun _ _ _ h => h) (Or.inl ⟨by rfl, ?taq64⟩) (by assumption) ?tbq64
              case taq64 =>
                intro wS hSw
                (try dsimp only at hSw)
                (have m0 := hSw.k0.cell 0; have m1 := hSw.k0.cell 1; have m2 := hSw.k0.cell 2; have l0 := hSw.k0.lt; have u0 := hSw.k1.cell 0; have u1 := hSw.k1.cell 1; have u2 := hSw.k1.cell 2; have j0 := hSw.k1.lt; simp only [List.getElem?_cons_zero, List.getElem?_cons_succ] at m0 m1 m2 u0 u1 u2; have za := run_str_k hSw.ra; have zb := run_str_k hSw.rb; clear hSw; go_simp)
                (try (with_reducible rfl))
              (try simp only [List.getElem_toArray, List.getElem_cons_zero, List.getElem_cons_succ, Act.put, List.setIfInBounds_toArray, List.set_cons_zero, List.set_cons_succ])
              refine' wpAnyH_take (i := 8) (v := _) rfl (by kernel_rfl) (by kernel_rfl) (by kernel_rfl) (fun _ _ _ h => h) (Or.inl ⟨by rfl, ?taq65⟩) (by assumption) ?tbq65
              case taq65 =>
                intro wS hSw
                (try dsimp only at hSw)
                (have m0 := hSw.k0.cell 0; have m1 := hSw.k0.cell 1; have m2 := hSw.k0.cell 2; have l0 := hSw.k0.lt; have u0 := hSw.k1.cell 0; have u1 := hSw.k1.cell 1; have u2 := hSw.k1.cell 2; have j0 := hSw.k1.lt; simp only [List.getElem?_cons_zero, List.getElem?_cons_succ] at m0 m1 m2 u0 u1 u2; have za := run_str_k hSw.ra; have zb := run_str_k hSw.rb; clear hSw; go_simp)
                (try (with_reducible rfl))
              (try simp only [List.getElem_toArray, List.getElem_cons_zero, List.getElem_cons_succ, Act.put, List.setIfInBounds_toArray, List.set_cons_zero, List.set_cons_succ])
              refine' wpAnyH_take (i := 9) (v := _) rfl (by kernel_rfl) (by kernel_rfl) (by kernel_rfl) (fun _ _ _ h => h) (Or.inl ⟨by rfl, ?taq66⟩) (by assumption) ?tbq66
              case taq66 =>
                intro wS hSw
                (try dsimp only at hSw)
                (have m0 := hSw.k0.cell 0; have m1 := hSw.k0.cell 1; have m2 := hSw.k0.cell 2; have l0 := hSw.k0.lt; have u0 := hSw.k1.cell 0; have u1 := hSw.k1.cell 1; have u2 := hSw.k1.cell 2; have j0 := hSw.k1.lt; simp only [List.getElem?_cons_zero, List.getElem?_cons_succ] at m0 m1 m2 u0 u1 u2; have za := run_str_k hSw.ra; have zb := run_str_k hSw.rb; clear hSw; go_simp)
                (try (with_reducible rfl))
              (try simp only [List.getElem_toArray, List.getElem_cons_zero, List.getElem_cons_succ, Act.put, List.setIfInBounds_toArray, List.set_cons_zero, List.set_cons_succ])
              refine' wpAnyH_take (i := 10) (v := _) rfl (by kernel_rfl) (by kernel_rfl) (by kernel_rfl) (fun _ _ _ h => h) (Or.inl ⟨by rfl, ?taq67⟩) (by assumption) ?tbq67
              case taq67 =>
                intro wS hSw
                (try dsimp only at hSw)
                (have m0 := hSw.k0.cell 0; have m1 := hSw.k0.cell 1; have m2 := hSw.k0.cell 2; have l0 := hSw.k0.lt; have u0 := hSw.k1.cell 0; have u1 := hSw.k1.cell 1; have u2 := hSw.k1.cell 2; have j0 := hSw.k1.lt; simp only [List.getElem?_cons_zero, List.getElem?_cons_succ] at m0 m1 m2 u0 u1 u2; have za := run_str_k hSw.ra; have zb := run_str_k hSw.rb; clear hSw; go_simp)
                (try (with_reducible rfl))
              (try simp only [List.getElem_toArray, List.getElem_cons_zero, List.getElem_cons_succ, Act.put, List.setIfInBounds_toArray, List.set_cons_zero, List.set_cons_succ])
              refine' wpAnyH_take (i := 11) (v := _) rfl (by kernel_rfl) (by kernel_rfl) (by kernel_rfl) (fun _ _ _ h => h) (Or.inl ⟨by rfl, ?taq68⟩) (by assumption) ?tbq68
              case taq68 =>
                intro wS hSw
                (try dsimp only at hSw)
                (have m0 := hSw.k0.cell 0; have m1 := hSw.k0.cell 1; have m2 := hSw.k0.cell 2; have l0 := hSw.k0.lt; have u0 := hSw.k1.cell 0; have u1 := hSw.k1.cell 1; have u2 := hSw.k1.cell 2; have j0 := hSw.k1.lt; simp only [List.getElem?_cons_zero, List.getElem?_cons_succ] at m0 m1 m2 u0 u1 u2; have za := run_str_k hSw.ra; have zb := run_str_k hSw.rb; clear hSw; go_simp)
                (try (with_reducible rfl))
              (try simp only [List.getElem_toArray, List.getElem_cons_zero, List.getElem_cons_succ, Act.put, List.setIfInBounds_toArray, List.set_cons_zero, List.set_cons_succ])
              refine' wpAnyH_take (i := 12) (v := _) rfl (by kernel_rfl) (by kernel_rfl) (by kernel_rfl) (fun _ _ _ h => h) (Or.inl ⟨by rfl, ?taq69⟩) (by assumption) ?tbq69
              case taq69 =>
                intro wS hSw
                (try dsimp only at hSw)
                (have m0 := hSw.k0.cell 0; have m1 := hSw.k0.cell 1; have m2 := hSw.k0.cell 2; have l0 := hSw.k0.lt; have u0 := hSw.k1.cell 0; have u1 := hSw.k1.cell 1; have u2 := hSw.k1.cell 2; have j0 := hSw.k1.lt; simp only [List.getElem?_cons_zero, List.getElem?_cons_succ] at m0 m1 m2 u0 u1 u2; have za := run_str_k hSw.ra; have zb := run_str_k hSw.rb; clear hSw; go_simp)
                (try (with_reducible rfl))
              (try simp only [List.getElem_toArray, List.getElem_cons_zero, List.getElem_cons_succ, Act.put, List.setIfInBounds_toArray, List.set_cons_zero, List.set_cons_succ])
              refine' wpAnyH_take (i := 13) (v := _) rfl (by kernel_rfl) (by kernel_rfl) (by kernel_rfl) (fun _ _ _ h => h) (Or.inl ⟨by rfl, ?taq70⟩) (by assumption) ?tbq70
              case taq70 =>
                intro wS hSw
                (try dsimp only at hSw)
                (have m0 := hSw.k0.cell 0; have m1 := hSw.k0.cell 1; have m2 := hSw.k0.cell 2; have l0 := hSw.k0.lt; have u0 := hSw.k1.cell 0; have u1 := hSw.k1.cell 1; have u2 := hSw.k1.cell 2; have j0 := hSw.k1.lt; simp only [List.getElem?_cons_zero, List.getElem?_cons_succ] at m0 m1 m2 u0 u1 u2; have za := run_str_k hSw.ra; have zb := run_str_k hSw.rb; clear hSw; go_simp)
                (try (with_reducible rfl))
              (try simp only [List.getElem_toArray, List.getElem_cons_zero, List.getElem_cons_succ, Act.put, List.setIfInBounds_toArray, List.set_cons_zero, List.set_cons_succ])
              refine' wpAnyH_take (i := 14) (v := _) rfl (by kernel_rfl) (by kernel_rfl) (by kernel_rfl) (fun _ _ _ h => h) (Or.inl ⟨by rfl, ?taq71⟩) (by assumption) ?tbq71
              case taq71 =>
                intro wS hSw
                (try dsimp only at hSw)
                (have m0 := hSw.k0.cell 0; have m1 := hSw.k0.cell 1; have m2 := hSw.k0.cell 2; have l0 := hSw.k0.lt; have u0 := hSw.k1.cell 0; have u1 := hSw.k1.cell 1; have u2 := hSw.k1.cell 2; have j0 := hSw.k1.lt; simp only [List.getElem?_cons_zero, List.getElem?_cons_succ] at m0 m1 m2 u0 u1 u2; have za := run_str_k hSw.ra; have zb := run_str_k hSw.rb; clear hSw; go_simp)
                (try (with_reducible rfl))
              (try simp only [List.getElem_toArray, List.getElem_cons_zero, List.getElem_cons_succ, Act.put, List.setIfInBounds_toArray, List.set_cons_zero, List.set_cons_succ])
              refine' wpAnyH_take (i := 15) (v := _) rfl (by kernel_rfl) (by kernel_rfl) (by kernel_rfl) (fun _ _ _ h => h) (Or.inl ⟨by rfl, ?taq72⟩) (by assumption) ?tbq72
              case taq72 =>
                intro wS hSw
                (try dsimp only at hSw)
                go_simp
                (try (with_reducible rfl))
              (try simp only [List.getElem_toArray, List.getElem_cons_zero, List.getElem_cons_succ, Act.put, List.setIfInBounds_toArray, List.set_cons_zero, List.set_cons_succ])
              refine' wpAnyH_take (i := 16) (v := _) rfl (by kernel_rfl) (by kernel_rfl) (by kernel_rfl) (fun _ _ _ h => h) (Or.inl ⟨by rfl, ?taq73⟩) (by assumption) ?tbq73
              case taq73 =>
                intro wS hSw
                (try dsimp only at hSw)
                go_simp
                (try (with_reducible rfl))
              (try simp only [List.getElem_toArray, List.getElem_cons_zero, List.getElem_cons_succ, Act.put, List.setIfInBounds_toArray, List.set_cons_zero, List.set_cons_succ])
              refine' wpAnyH_take (i := 17) (v := _) rfl (by kernel_rfl) (by kernel_rfl) (by kernel_rfl) (fun _ _ _ h => h) (Or.inl ⟨by rfl, ?taq74⟩) (by assumption) ?tbq74
              case taq74 =>
                intro wS hSw
                (try dsimp only at hSw)
                go_simp
                (try (with_reducible rfl))
              (try simp only [List.getElem_toArray, List.getElem_cons_zero, List.getElem_cons_succ, Act.put, List.setIfInBounds_toArray, List.set_cons_zero, List.set_cons_succ])
              refine' wpAnyH_take (i := 18) (v := _) rfl (by kernel_rfl) (by kernel_rfl) (by kernel_rfl) (fun _ _ _ h => h) (Or.inl ⟨by rfl, ?taq75⟩) (by assumption) ?tbq75
              case taq75 =>
                intro wS hSw
                (try dsimp only at hSw)
                (have m0 := hSw.k0.cell 0; have m1 := hSw.k0.cell 1; have m2 := hSw.k0.cell 2; have l0 := hSw.k0.lt; have u0 := hSw.k1.cell 0; have u1 := hSw.k1.cell 1; have u2 := hSw.k1.cell 2; have j0 := hSw.k1.lt; simp only [List.getElem?_cons_zero, List.getElem?_cons_succ] at m0 m1 m2 u0 u1 u2; have za := run_str_k hSw.ra; have zb := run_str_k hSw.rb; clear hSw; go_simp)
                (try (with_reducible rfl))
              (try simp only [List.getElem_toArray, List.getElem_cons_zero, List.getElem_cons_succ, Act.put, List.setIfInBounds_toArray, List.set_cons_zero, List.set_cons_succ])
              refine' wpAnyH_take (i := 19) (v := _) rfl (by kernel_rfl) (by kernel_rfl) (by kernel_rfl) (fun _ _ _ h => h) (Or.inl ⟨by rfl, ?taq76⟩) (by assumption) ?tbq76
              case taq76 =>
                intro wS hSw
                (try dsimp only at hSw)
                (have m0 := hSw.k0.cell 0; have m1 := hSw.k0.cell 1; have m2 := hSw.k0.cell 2; have l0 := hSw.k0.lt; have u0 := hSw.k1.cell 0; have u1 := hSw.k1.cell 1; have u2 := hSw.k1.cell 2; have j0 := hSw.k1.lt; simp only [List.getElem?_cons_zero, List.getElem?_cons_succ] at m0 m1 m2 u0 u1 u2; have za := run_str_k hSw.ra; have zb := run_str_k hSw.rb; clear hSw; go_simp)
                (try (with_reducible rfl))
              (try simp only [List.getElem_toArray, List.getElem_cons_zero, List.getElem_cons_succ, Act.put, List.setIfInBounds_toArray, List.set_cons_zero, List.set_cons_succ])
              refine' wpAnyH_take (i := 20) (v := _) rfl (by kernel_rfl) (by kernel_rfl) (by kernel_rfl) (fun _ _ _ h => h) (Or.inl ⟨by rfl, ?taq77⟩) (by assumption) ?tbq77
              case taq77 =>
                intro wS hSw
                (try dsimp only at hSw)
                (have m0 := hSw.k0.cell 0; have m1 := hSw.k0.cell 1; have m2 := hSw.k0.cell 2; have l0 := hSw.k0.lt; have u0 := hSw.k1.cell 0; have u1 := hSw.k1.cell 1; have u2 := hSw.k1.cell 2; have j0 := hSw.k1.lt; simp only [List.getElem?_cons_zero, List.getElem?_cons_succ] at m0 m1 m2 u0 u1 u2; have za := run_str_k hSw.ra; have zb := run_str_k hSw.rb; clear hSw; go_simp)
                (try (with_reducible rfl))
              (try simp only [List.getElem_toArray, List.getElem_cons_zero, List.getElem_cons_succ, Act.put, List.setIfInBounds_toArray, List.set_cons_zero, List.set_cons_succ])
              refine' wpAnyH_take (i := 21) (v := _) rfl (by kernel_rfl) (by kernel_rfl) (by kernel_rfl) (fun _ _ _ h => h) (Or.inl ⟨by rfl, ?taq78⟩) (by assumption) ?tbq78
              case taq78 =>
                intro wS hSw
                (try dsimp only at hSw)
                (have m0 := hSw.k0.cell 0; have m1 := hSw.k0.cell 1; have m2 := hSw.k0.cell 2; have l0 := hSw.k0.lt; have u0 := hSw.k1.cell 0; have u1 := hSw.k1.cell 1; have u2 := hSw.k1.cell 2; have j0 := hSw.k1.lt; simp only [List.getElem?_cons_zero, List.getElem?_cons_succ] at m0 m1 m2 u0 u1 u2; have za := run_str_k hSw.ra; have zb := run_str_k hSw.rb; clear hSw; go_simp)
                (try (with_reducible rfl))
              (try simp only [List.getElem_toArray, List.getElem_cons_zero, List.getElem_cons_succ, Act.put, List.setIfInBounds_toArray, List.set_cons_zero, List.set_cons_succ])
              refine wpAnyH_ready (rs := [22]) (by kernel_rfl) (by simp) ?_
              refine AllReadyH.cons rfl (fun K9 hK9 => ?_) AllReadyH.nil
              (try simp only [List.getElem_toArray, List.getElem_cons_zero, List.getElem_cons_succ])
              go_simp
              refine (HS3.out _ hHeld.bel).mono ?_
              rintro en we ⟨rfl, hbe⟩
              have hH := hHeld.below hbe
              clear hHeld hbe
              refine hK9.out _ _ (hH) (fun hHeld9 => ?_)
              clear hK9 K9
              (try simp only [List.getElem_toArray, List.getElem_cons_zero, List.getElem_cons_succ, Act.put, List.setIfInBounds_toArray, List.set_cons_zero, List.set_cons_succ])
              clear hHeld9
              have hHeld := hH
              have tbb : (bev == bev) = true := by simp
              refine' wpAnyH_take (i := 23) (v := _) rfl (by kernel_rfl) (by kernel_rfl) (by kernel_rfl) (fun _ _ _ h => h) (Or.inl ⟨by rfl, ?taq79⟩) (by assumption) ?tbq79
              case taq79 =>
                intro wS hSw
                (try dsimp only at hSw)
                go_simp
                (try (with_reducible rfl))
              (try simp only [List.getElem_toArray, List.getElem_cons_zero, List.getElem_cons_succ, Act.put, List.setIfInBounds_toArray, List.set_cons_zero, List.set_cons_succ])
              refine' wpAnyH_take (i := 24) (v := _) rfl (by kernel_rfl) (by kernel_rfl) (by kernel_rfl) (fun _ _ _ h => h) (Or.inl ⟨by rfl, ?taq80⟩) (by assumption) ?tbq80
              case taq80 =>
                intro wS hSw
                (try dsimp only at hSw)
                go_simp
                (try (with_reducible rfl))
              (try simp only [List.getElem_toArray, List.getElem_cons_zero, List.getElem_cons_succ, Act.put, List.setIfInBounds_toArray, List.set_cons_zero, List.set_cons_succ])
              refine' wpAnyH_take (i := 25) (v := _) rfl (by kernel_rfl) (by kernel_rfl) (by kernel_rfl) (fun _ _ _ h => h) (Or.inl ⟨by rfl, ?taq81⟩) (by assumption) ?tbq81
              case taq81 =>
                intro wS hSw
                (try dsimp only at hSw)
                go_simp
                (try (with_reducible rfl))
              (try simp only [List.getElem_toArray, List.getElem_cons_zero, List.getElem_cons_succ, Act.put, List.setIfInBounds_toArray, List.set_cons_zero, List.set_cons_succ])
              refine wpAnyH_ready (rs := [26]) (by kernel_rfl) (by simp) ?_
              refine AllReadyH.cons rfl (fun K9 hK9 => ?_) AllReadyH.nil
              (try simp only [List.getElem_toArray, List.getElem_cons_zero, List.getElem_cons_succ])
              go_simp
              refine (awake24_any _).mono ?_
              rintro en wz ⟨rfl, hbz⟩
              have hHz := hHeld.below hbz
              clear hHeld hbz
              refine hK9.out _ _ (hHz) (fun hHeld9 => ?_)
              clear hK9 K9
              (try simp only [List.getElem_toArray, List.getElem_cons_zero, List.getElem_cons_succ, Act.put, List.setIfInBounds_toArray, List.set_cons_zero, List.set_cons_succ])
              refine' wpAnyH_take (i := 27) (v := _) rfl (by kernel_rfl) (by kernel_rfl) (by kernel_rfl) (fun _ _ _ h => h) (Or.inl ⟨by rfl, ?taq82⟩) (by assumption) ?tbq82
              case taq82 =>
                intro wS hSw
                (try dsimp only at hSw)
                go_simp
                (try (with_reducible rfl))
              (try simp only [List.getElem_toArray, List.getElem_cons_zero, List.getElem_cons_succ, Act.put, List.setIfInBounds_toArray, List.set_cons_zero, List.set_cons_succ])
              refine' wpAnyH_take (i := 28) (v := _) rfl (by kernel_rfl) (by kernel_rfl) (by kernel_rfl) (fun _ _ _ h => h) (Or.inl ⟨by rfl, ?taq83⟩) (by assumption) ?tbq83
              case taq83 =>
                intro wS hSw
                (try dsimp only at hSw)
                go_simp
                (try (with_reducible rfl))
              (try simp only [List.getElem_toArray, List.getElem_cons_zero, List.getElem_cons_succ, Act.put, List.setIfInBounds_toArray, List.set_cons_zero, List.set_cons_succ])
              refine wpAnyH_done (by kernel_rfl) ?_ _
              clear hHeld9
              go_wp2_with fail
              go_ret
              exact ⟨rfl, hHz.bel⟩
end Go.Proofs.Ytcjpibdgnjncmaa
