/- The walk of CheckForms. -/
import Derived.Test.YtkileiikffomlaaNetAwake
import Derived.Test.YtkileiikffomlaaOpenM
import Derived.Test.YtkileiikffomlaaNetRShapes
import Derived.Test.YtkileiikffomlaaNetRNet
import Derived.Test.YtkileiikffomlaaNetRLong
import Derived.Test.YtkileiikffomlaaSame
import Derived.Deep.DeepMust
namespace Go.Proofs.Ytkileiikffomlaa
open Go.RowKit
set_option linter.unusedVariables false

theorem quiet_add {P : Program} {f : FuncId} {args : Array Value} {w : World} {m n : Nat} {v : Value} (h : Calls P f args (w.drewN (m + n)) (Quiet (w.drewN (m + n)) v)) :
    Calls P f args (w.drewN (m + n)) fun e w'' => e = .returned v ∧ ∃ j, w'' = w.drewN (m + j) :=
  h.mono fun _ _ ⟨he, j, hj⟩ => ⟨he, n + j, by rw [hj, World.drewN_drewN, Nat.add_assoc]⟩
set_option maxHeartbeats 6400000 in
set_option maxRecDepth 100000 in
theorem checkForms_walk (v0 : Value) (a0 : NetV) (a1 a2 : Int) (w : World) (o0 : NetOf w v0 a0) (w1 : (Lit.int .i64 a1).wf = true) (w2 : (Lit.int .i64 a2).wf = true) :
    Calls Try.prog 3 #[v0, .int .i64 a1, .int .i64 a2] w fun en w' => en = .returned (.bool true) ∧ Below w.heap.size w w' := by
  obtain ⟨a, b, c, lv, ls⟩ := a0
  obtain ⟨rfl, wa, wb, wc, hl⟩ := o0
  simp only at hl wa wb wc ⊢
  obtain ⟨A, cc, rfl⟩ := hl.form
  have hb0 := net_one w (.cells #[.int .i64 a, .int .i64 b, .int .i64 c, .slice A ls.length cc] 25)
  have hsz : w.heap.size < (w.alloc (.cells #[.int .i64 a, .int .i64 b, .int .i64 c, .slice A ls.length cc] 25)).heap.size := by simp
  have KB := Lib.hid (Blk.fresh w 25 [.int .i64 a, .int .i64 b, .int .i64 c, .slice A ls.length cc])
  have HB0 := Lib.hid hb0
  obtain ⟨q, hq⟩ : ∃ q, shapesM a b c ls = q := ⟨_, rfl⟩
  obtain ⟨r, hr⟩ : ∃ q, (walkI false a b c ls a1 a2).2 = q := ⟨_, rfl⟩
  obtain ⟨lg, hlg⟩ : ∃ q, longestI a b c ls a2 = q := ⟨_, rfl⟩
  obtain ⟨all, qn, qe⟩ := q
  obtain ⟨r1, r2⟩ := r
  have i1 := wf_int w1
  have i2 := wf_int w2
  have C1 : Hid (∀ W : World, Below w.heap.size w W → Calls Try.prog 12 #[.agg #[.int .i64 a, .int .i64 b, .int .i64 c, .slice A ls.length cc]] W (Shaped W (all, qn, qe))) := Lib.hid (fun W hW => shapes_any a b c _ ls W w.heap.size hW.size (hl.below hW) _ hq)
  have C2 : Hid (∀ W : World, Below w.heap.size w W → Calls Try.prog 13 #[.agg #[.int .i64 a, .int .i64 b, .int .i64 c, .slice A ls.length cc]] W (Shaped W (all, qn, qe))) := Lib.hid (fun W hW => rshapesN_any a b c _ ls W w.heap.size hW.size (hl.below hW) _ hq)
  have C3 : Hid (∀ W : World, Below w.heap.size w W → Calls Try.prog 15 #[.agg #[.int .i64 a, .int .i64 b, .int .i64 c, .slice A ls.length cc], .int .i64 a1, .int .i64 a2] W (Duo W (r1, r2))) := Lib.hid (fun W hW => net_any a b c _ ls a1 a2 W w.heap.size hW.size (hl.below hW) i1 i2 _ hr)
  have C4 : Hid (∀ W : World, Below w.heap.size w W → Calls Try.prog 16 #[.agg #[.int .i64 a, .int .i64 b, .int .i64 c, .slice A ls.length cc], .int .i64 a1, .int .i64 a2] W (Trio W (r1, r2))) := Lib.hid (fun W hW => rnet_any a b c _ ls a1 a2 W w.heap.size hW.size (hl.below hW) i1 i2 _ hr)
  have C5 : Hid (∀ W : World, Below w.heap.size w W → Calls Try.prog 17 #[.agg #[.int .i64 a, .int .i64 b, .int .i64 c, .slice A ls.length cc], .int .i64 a2] W fun en w' => en = .returned (.int .i64 lg) ∧ Below W.heap.size W w') := Lib.hid (fun W hW => longest_any a b c _ ls a2 W w.heap.size hW.size (hl.below hW) i2 _ hlg)
  have C6 : Hid (∀ W : World, Below w.heap.size w W → Calls Try.prog 18 #[.agg #[.int .i64 a, .int .i64 b, .int .i64 c, .slice A ls.length cc], .int .i64 a2] W fun en w' => en = .returned (.int .i64 lg) ∧ Below W.heap.size W w') := Lib.hid (fun W hW => rlongest_any a b c _ ls a2 W w.heap.size hW.size (hl.below hW) i2 _ hlg)
  have hlen := hl.len
  clear hl hb0 wa wb wc w1 w2 hq hr hlg i1 i2
  by_cases h40 : 40 < ls.length
  · have t1 : decide ((40 : Int) < (ls.length : Int)) = true := by simp; omega
    go_enter Try.func3, Try.ntmps3
    go_wp2_with (go_at_call 11; refine (awake16_any _).mono ?_; rintro en wd ⟨rfl, hb4⟩)
    go_ret
    exact ⟨rfl, HB0.out.trans (hb4.mono (by omega))⟩
  · have t1 : decide ((40 : Int) < (ls.length : Int)) = false := by simp; omega
    go_enter Try.func3, Try.ntmps3
    go_wp2_with fail
    refine (C1.out _ HB0.out).mono ?_
    rintro en wa ⟨Ra, ca, rfl, hra, hb1⟩
    have HB1 := Lib.hid (HB0.out.trans (hb1.mono (by omega)))
    have K1 := Lib.hid (KB.out.below hb1 hsz)
    have HRA := Lib.hid hra
    have k0 := K1.out.cell 0
    have k1 := K1.out.cell 1
    have k2 := K1.out.cell 2
    have k3 := K1.out.cell 3
    simp only [List.getElem?_cons_zero, List.getElem?_cons_succ] at k0 k1 k2 k3
    clear hb1 hra
    dsimp only at HRA ⊢
    go_wp2_with fail
    clear k0 k1 k2 k3
    refine (C2.out _ HB1.out).mono ?_
    rintro en wb ⟨Rb, cb, rfl, hrb, hb2⟩
    have HB2 := Lib.hid (HB1.out.trans (hb2.mono HB1.out.size))
    have K2 := Lib.hid (K1.out.below hb2 K1.out.lt)
    have HRA2 := Lib.hid ((HRA.out.below hb2).more hb2.size)
    have HRB := Lib.hid hrb
    have sz2 := K2.out.lt
    have hal : all.length ≤ 9223372036854775807 := by
      obtain ⟨_, _, _, h1, h2⟩ := HRB.out.form
      unfold maxLen at h2
      simp only at h1
      omega
    clear hb2 hrb HRA HB1 HB0 KB K1
    dsimp only at HRB ⊢
    go_wp2
    go_loopw [53] (fun i wr => ∃ k : Nat, k ≤ all.length ∧ i = .int .i64 k ∧ ∃ m, wr = wb.drewN m) (fun i _ => all.length - (intOf i).toNat)
    case atStart => exact ⟨0, by omega, rfl, 0, rfl⟩
    case round =>
      obtain ⟨k, hk, rfl, m, rfl⟩ := hrel
      by_cases hlt : k < all.length
      · obtain ⟨d, hd⟩ : ∃ d, all[k]? = some d := ⟨all[k], List.getElem?_eq_getElem hlt⟩
        obtain ⟨ga, oa, ca', Aa, ca2, ea, hga, hca, hRa⟩ := HRA2.out.at_ hd
        obtain ⟨gb, ob, cb', Ab, cb2, eb, hgb, hcb, hRb⟩ := HRB.out.at_ hd
        injection ea with ea _ ea3
        injection eb with eb _ eb3
        subst ea ea3 eb eb3
        have tq : (d == d) = true := by simp
        have HSA : Hid (∀ n, Calls Try.prog 14 #[.slice Aa d.length ca2, .slice Ab d.length cb2] (wb.drewN n) (Quiet (wb.drewN n) (.bool true))) := Lib.hid (fun n => by
          have h := sameints_any d d _ _ _ _ _ (hRa.drewN n) (hRb.drewN n)
          rwa [tq] at h)
        have i1 : (0 : Int) ≤ (k : Int) := by omega
        have i2 : (k : Int) < (all.length : Int) := by omega
        clear hRa hRb hd tq HRA2 HRB
        go_wp2
        go_quiet ((go_at_call 14; exact quiet_add (HSA.out _)))
        go_wp2
        go_roundw
        case rel => exact ⟨k + 1, by omega, by go_num, _, rfl⟩
        case measure => simp [intOf]; omega
      · clear HRA2 HRB
        have HB2' : Hid (Below w.heap.size w (wb.drewN m)) := Lib.hid (net_drewN HB2.out m)
        have K2' : Hid (Blk (wb.drewN m) w.heap.size 25 [.int .i64 a, .int .i64 b, .int .i64 c, .slice A ls.length cc]) := Lib.hid (K2.out.drewN m)
        have k0 := K2.out.cell 0
        have k1 := K2.out.cell 1
        have k2 := K2.out.cell 2
        have k3 := K2.out.cell 3
        simp only [List.getElem?_cons_zero, List.getElem?_cons_succ] at k0 k1 k2 k3
        go_wp2_with fail
        clear k0 k1 k2 k3
        refine (C3.out _ HB2'.out).mono ?_
        rintro en we ⟨rfl, hb3⟩
        have HB3 := Lib.hid (HB2'.out.trans (hb3.mono HB2'.out.size))
        have K3 := Lib.hid (K2'.out.below hb3 K2'.out.lt)
        clear hb3
        have k0 := K3.out.cell 0
        have k1 := K3.out.cell 1
        have k2 := K3.out.cell 2
        have k3 := K3.out.cell 3
        simp only [List.getElem?_cons_zero, List.getElem?_cons_succ] at k0 k1 k2 k3
        dsimp only
        go_wp2_with fail
        clear k0 k1 k2 k3
        refine (C4.out _ HB3.out).mono ?_
        rintro en wf ⟨lg2, rfl, hb4⟩
        have HB4 := Lib.hid (HB3.out.trans (hb4.mono HB3.out.size))
        have K4 := Lib.hid (K3.out.below hb4 K3.out.lt)
        clear hb4
        have k0 := K4.out.cell 0
        have k1 := K4.out.cell 1
        have k2 := K4.out.cell 2
        have k3 := K4.out.cell 3
        simp only [List.getElem?_cons_zero, List.getElem?_cons_succ] at k0 k1 k2 k3
        have z1 : (r1 == r1) = true := by simp
        have z2 : (r2 == r2) = true := by simp
        have z3 : (lg == lg) = true := by simp
        dsimp only
        go_wp2_with fail
        refine wp_region_held_drew (S := (fun w' => Below w.heap.size w w' ∧ w'.cell? ⟨w.heap.size, 0, none⟩ = some (.int .i64 a) ∧ w'.cell? ⟨w.heap.size, 1, none⟩ = some (.int .i64 b) ∧ w'.cell? ⟨w.heap.size, 2, none⟩ = some (.int .i64 c) ∧ w'.cell? ⟨w.heap.size, 3, none⟩ = some (.slice A ls.length cc))) (by kernel_rfl) (⟨HB4.out.drew, k0, k1, k2, k3⟩) (fun hHeld => ?_)
        refine' wpAnyH_take (i := 0) (v := _) rfl (by kernel_rfl) (by kernel_rfl) (by kernel_rfl) (fun _ _ _ h => h) (Or.inl ⟨by rfl, ?taq1⟩) (by assumption) ?tbq1
        case taq1 =>
          intro wS hSw
          (try dsimp only at hSw)
          go_simp
          (try (with_reducible rfl))
        (try simp only [List.getElem_toArray, List.getElem_cons_zero, List.getElem_cons_succ, Act.put, List.setIfInBounds_toArray, List.set_cons_zero, List.set_cons_succ])
        refine' wpAnyH_take (i := 1) (v := _) rfl (by kernel_rfl) (by kernel_rfl) (by kernel_rfl) (fun _ _ _ h => h) (Or.inl ⟨by rfl, ?taq2⟩) (by assumption) ?tbq2
        case taq2 =>
          intro wS hSw
          (try dsimp only at hSw)
          go_simp
          (try (with_reducible rfl))
        (try simp only [List.getElem_toArray, List.getElem_cons_zero, List.getElem_cons_succ, Act.put, List.setIfInBounds_toArray, List.set_cons_zero, List.set_cons_succ])
        refine' wpAnyH_take (i := 2) (v := _) rfl (by kernel_rfl) (by kernel_rfl) (by kernel_rfl) (fun _ _ _ h => h) (Or.inl ⟨by rfl, ?taq3⟩) (by assumption) ?tbq3
        case taq3 =>
          intro wS hSw
          (try dsimp only at hSw)
          go_simp
          (try (with_reducible rfl))
        (try simp only [List.getElem_toArray, List.getElem_cons_zero, List.getElem_cons_succ, Act.put, List.setIfInBounds_toArray, List.set_cons_zero, List.set_cons_succ])
        refine' wpAnyH_take (i := 3) (v := _) rfl (by kernel_rfl) (by kernel_rfl) (by kernel_rfl) (fun _ _ _ h => h) (Or.inl ⟨by rfl, ?taq4⟩) (by assumption) ?tbq4
        case taq4 =>
          intro wS hSw
          (try dsimp only at hSw)
          go_simp
          (try (with_reducible rfl))
        (try simp only [List.getElem_toArray, List.getElem_cons_zero, List.getElem_cons_succ, Act.put, List.setIfInBounds_toArray, List.set_cons_zero, List.set_cons_succ])
        refine' wpAnyH_take (i := 4) (v := _) rfl (by kernel_rfl) (by kernel_rfl) (by kernel_rfl) (fun _ _ _ h => h) (Or.inl ⟨by rfl, ?taq5⟩) (by assumption) ?tbq5
        case taq5 =>
          intro wS hSw
          (try dsimp only at hSw)
          go_simp
          (try (with_reducible rfl))
        (try simp only [List.getElem_toArray, List.getElem_cons_zero, List.getElem_cons_succ, Act.put, List.setIfInBounds_toArray, List.set_cons_zero, List.set_cons_succ])
        refine' wpAnyH_take (i := 5) (v := _) rfl (by kernel_rfl) (by kernel_rfl) (by kernel_rfl) (fun _ _ _ h => h) (Or.inl ⟨by rfl, ?taq6⟩) (by assumption) ?tbq6
        case taq6 =>
          intro wS hSw
          (try dsimp only at hSw)
          go_simp
          (try (with_reducible rfl))
        (try simp only [List.getElem_toArray, List.getElem_cons_zero, List.getElem_cons_succ, Act.put, List.setIfInBounds_toArray, List.set_cons_zero, List.set_cons_succ])
        refine' wpAnyH_take (i := 6) (v := _) rfl (by kernel_rfl) (by kernel_rfl) (by kernel_rfl) (fun _ _ _ h => h) (Or.inl ⟨by rfl, ?taq7⟩) (by assumption) ?tbq7
        case taq7 =>
          intro wS hSw
          (try dsimp only at hSw)
          go_simp
          (try (with_reducible rfl))
        (try simp only [List.getElem_toArray, List.getElem_cons_zero, List.getElem_cons_succ, Act.put, List.setIfInBounds_toArray, List.set_cons_zero, List.set_cons_succ])
        refine' wpAnyH_take (i := 7) (v := _) rfl (by kernel_rfl) (by kernel_rfl) (by kernel_rfl) (fun _ _ _ h => h) (Or.inl ⟨by rfl, ?taq8⟩) (by assumption) ?tbq8
        case taq8 =>
          intro wS hSw
          (try dsimp only at hSw)
          go_simp
          (try (with_reducible rfl))
        (try simp only [List.getElem_toArray, List.getElem_cons_zero, List.getElem_cons_succ, Act.put, List.setIfInBounds_toArray, List.set_cons_zero, List.set_cons_succ])
        refine' wpAnyH_take (i := 8) (v := _) rfl (by kernel_rfl) (by kernel_rfl) (by kernel_rfl) (fun _ _ _ h => h) (Or.inl ⟨by rfl, ?taq9⟩) (by assumption) ?tbq9
        case taq9 =>
          intro wS hSw
          (try dsimp only at hSw)
          go_simp
          (try (with_reducible rfl))
        (try simp only [List.getElem_toArray, List.getElem_cons_zero, List.getElem_cons_succ, Act.put, List.setIfInBounds_toArray, List.set_cons_zero, List.set_cons_succ])
        refine' wpAnyH_take (i := 9) (v := _) rfl (by kernel_rfl) (by kernel_rfl) (by kernel_rfl) (fun _ _ _ h => h) (Or.inl ⟨by rfl, ?taq10⟩) (by assumption) ?tbq10
        case taq10 =>
          intro wS hSw
          (try dsimp only at hSw)
          go_simp
          (try (with_reducible rfl))
        (try simp only [List.getElem_toArray, List.getElem_cons_zero, List.getElem_cons_succ, Act.put, List.setIfInBounds_toArray, List.set_cons_zero, List.set_cons_succ])
        refine' wpAnyH_take (i := 10) (v := _) rfl (by kernel_rfl) (by kernel_rfl) (by kernel_rfl) (fun _ _ _ h => h) (Or.inl ⟨by rfl, ?taq11⟩) (by assumption) ?tbq11
        case taq11 =>
          intro wS hSw
          (try dsimp only at hSw)
          go_simp
          (try (with_reducible rfl))
        (try simp only [List.getElem_toArray, List.getElem_cons_zero, List.getElem_cons_succ, Act.put, List.setIfInBounds_toArray, List.set_cons_zero, List.set_cons_succ])
        refine' wpAnyH_take (i := 12) (v := _) rfl (by kernel_rfl) (by kernel_rfl) (by kernel_rfl) (fun _ _ _ h => h) (Or.inl ⟨by rfl, ?taq12⟩) (by assumption) ?tbq12
        case taq12 =>
          intro wS hSw
          (try dsimp only at hSw)
          go_simp
          (try (with_reducible rfl))
        (try simp only [List.getElem_toArray, List.getElem_cons_zero, List.getElem_cons_succ, Act.put, List.setIfInBounds_toArray, List.set_cons_zero, List.set_cons_succ])
        refine' wpAnyH_take (i := 13) (v := _) rfl (by kernel_rfl) (by kernel_rfl) (by kernel_rfl) (fun _ _ _ h => h) (Or.inl ⟨by rfl, ?taq13⟩) (by assumption) ?tbq13
        case taq13 =>
          intro wS hSw
          (try dsimp only at hSw)
          go_simp
          (try (with_reducible rfl))
        (try simp only [List.getElem_toArray, List.getElem_cons_zero, List.getElem_cons_succ, Act.put, List.setIfInBounds_toArray, List.set_cons_zero, List.set_cons_succ])
        refine wpAnyH_ready (rs := [11]) (by kernel_rfl) (by simp) ?_
        refine AllReadyH.cons rfl (fun K9 hK9 => ?_) AllReadyH.nil
        have HB5 : Hid (Below w.heap.size w wf.drew) := Lib.hid HB4.out.drew
        have K5 : Hid (Blk wf.drew w.heap.size 25 [.int .i64 a, .int .i64 b, .int .i64 c, .slice A ls.length cc]) := Lib.hid K4.out.drew
        (try simp only [List.getElem_toArray, List.getElem_cons_zero, List.getElem_cons_succ])
        go_simp
        refine (C5.out wf.drew HB5.out).mono ?_
        rintro en wg ⟨rfl, hbq⟩
        have HB6 := Lib.hid (HB5.out.trans (hbq.mono HB5.out.size))
        have K6 := Lib.hid (K5.out.below hbq K5.out.lt)
        clear hbq
        refine hK9.out _ _ (⟨HB6.out, K6.out.cell 0, K6.out.cell 1, K6.out.cell 2, K6.out.cell 3⟩) (fun hHeld9 => ?_)
        clear hK9 K9
        (try simp only [List.getElem_toArray, List.getElem_cons_zero, List.getElem_cons_succ, Act.put, List.setIfInBounds_toArray, List.set_cons_zero, List.set_cons_succ])
        refine wpAnyH_ready (rs := [14]) (by kernel_rfl) (by simp) ?_
        refine AllReadyH.cons rfl (fun K9 hK9 => ?_) AllReadyH.nil
        (try simp only [List.getElem_toArray, List.getElem_cons_zero, List.getElem_cons_succ])
        go_simp
        refine (C6.out wg HB6.out).mono ?_
        rintro en wh ⟨rfl, hbq⟩
        have HB7 := Lib.hid (HB6.out.trans (hbq.mono HB6.out.size))
        have K7 := Lib.hid (K6.out.below hbq K6.out.lt)
        clear hbq
        refine hK9.out _ _ (⟨HB7.out, K7.out.cell 0, K7.out.cell 1, K7.out.cell 2, K7.out.cell 3⟩) (fun hHeld9 => ?_)
        clear hK9 K9
        (try simp only [List.getElem_toArray, List.getElem_cons_zero, List.getElem_cons_succ, Act.put, List.setIfInBounds_toArray, List.set_cons_zero, List.set_cons_succ])
        refine' wpAnyH_take (i := 15) (v := _) rfl (by kernel_rfl) (by kernel_rfl) (by kernel_rfl) (fun _ _ _ h => h) (Or.inl ⟨by rfl, ?taq14⟩) (by assumption) ?tbq14
        case taq14 =>
          intro wS hSw
          (try dsimp only at hSw)
          go_simp
          (try (with_reducible rfl))
        (try simp only [List.getElem_toArray, List.getElem_cons_zero, List.getElem_cons_succ, Act.put, List.setIfInBounds_toArray, List.set_cons_zero, List.set_cons_succ])
        refine' wpAnyH_take (i := 16) (v := _) rfl (by kernel_rfl) (by kernel_rfl) (by kernel_rfl) (fun _ _ _ h => h) (Or.inl ⟨by rfl, ?taq15⟩) (by assumption) ?tbq15
        case taq15 =>
          intro wS hSw
          (try dsimp only at hSw)
          go_simp
          (try (with_reducible rfl))
        (try simp only [List.getElem_toArray, List.getElem_cons_zero, List.getElem_cons_succ, Act.put, List.setIfInBounds_toArray, List.set_cons_zero, List.set_cons_succ])
        refine' wpAnyH_take (i := 17) (v := _) rfl (by kernel_rfl) (by kernel_rfl) (by kernel_rfl) (fun _ _ _ h => h) (Or.inl ⟨by rfl, ?taq16⟩) (by assumption) ?tbq16
        case taq16 =>
          intro wS hSw
          (try dsimp only at hSw)
          go_simp
          (try (with_reducible rfl))
        (try simp only [List.getElem_toArray, List.getElem_cons_zero, List.getElem_cons_succ, Act.put, List.setIfInBounds_toArray, List.set_cons_zero, List.set_cons_succ])
        refine wpAnyH_ready (rs := [18]) (by kernel_rfl) (by simp) ?_
        refine AllReadyH.cons rfl (fun K9 hK9 => ?_) AllReadyH.nil
        (try simp only [List.getElem_toArray, List.getElem_cons_zero, List.getElem_cons_succ])
        go_simp
        refine (awake16_any wh).mono ?_
        rintro en wi ⟨rfl, hbq⟩
        have HB8 := Lib.hid (HB7.out.trans (hbq.mono HB7.out.size))
        have K8 := Lib.hid (K7.out.below hbq K7.out.lt)
        clear hbq
        refine hK9.out _ _ (⟨HB8.out, K8.out.cell 0, K8.out.cell 1, K8.out.cell 2, K8.out.cell 3⟩) (fun hHeld9 => ?_)
        clear hK9 K9
        (try simp only [List.getElem_toArray, List.getElem_cons_zero, List.getElem_cons_succ, Act.put, List.setIfInBounds_toArray, List.set_cons_zero, List.set_cons_succ])
        refine' wpAnyH_take (i := 19) (v := _) rfl (by kernel_rfl) (by kernel_rfl) (by kernel_rfl) (fun _ _ _ h => h) (Or.inl ⟨by rfl, ?taq17⟩) (by assumption) ?tbq17
        case taq17 =>
          intro wS hSw
          (try dsimp only at hSw)
          go_simp
          (try (with_reducible rfl))
        (try simp only [List.getElem_toArray, List.getElem_cons_zero, List.getElem_cons_succ, Act.put, List.setIfInBounds_toArray, List.set_cons_zero, List.set_cons_succ])
        refine' wpAnyH_take (i := 20) (v := _) rfl (by kernel_rfl) (by kernel_rfl) (by kernel_rfl) (fun _ _ _ h => h) (Or.inl ⟨by rfl, ?taq18⟩) (by assumption) ?tbq18
        case taq18 =>
          intro wS hSw
          (try dsimp only at hSw)
          go_simp
          (try (with_reducible rfl))
        (try simp only [List.getElem_toArray, List.getElem_cons_zero, List.getElem_cons_succ, Act.put, List.setIfInBounds_toArray, List.set_cons_zero, List.set_cons_succ])
        refine wpAnyH_done (by kernel_rfl) ?_ _
        go_wp2
        go_ret
        exact ⟨rfl, HB8.out⟩
end Go.Proofs.Ytkileiikffomlaa
