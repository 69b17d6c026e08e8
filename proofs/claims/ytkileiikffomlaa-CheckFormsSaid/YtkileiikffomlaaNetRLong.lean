/- Contract of the reference's Longest. -/
import Derived.Test.YtkileiikffomlaaNetRNet
import Derived.Test.YtkileiikffomlaaNetNet
namespace Go.Proofs.Ytkileiikffomlaa
open Go.RowKit
set_option linter.unusedVariables false
attribute [local go_sem high] run_max_net

set_option maxHeartbeats 12800000 in
set_option maxRecDepth 100000 in
theorem rlongest_any (a b c : Int) (v : Value) (ls : List LayV) (batch : Int) (w : World) (B : Nat) (hB : B ≤ w.heap.size) (h : LaysOf w B v ls) (hbt : inW batch) (r : Int) (hr : longestI a b c ls batch = r) :
    Calls Try.prog 18 #[.agg #[.int .i64 a, .int .i64 b, .int .i64 c, v], .int .i64 batch] w fun en w' => en = .returned (.int .i64 r) ∧ Below w.heap.size w w' := by
  obtain ⟨A, cc, rfl⟩ := h.form
  have hlen := h.len
  have HL := Lib.hid h
  have HR := Lib.hid hr
  have hb0 := net_one w (.cells #[.int .i64 a, .int .i64 b, .int .i64 c, .slice A ls.length cc] 25)
  have HB0 := Lib.hid hb0
  have hsz : w.heap.size < (w.alloc (.cells #[.int .i64 a, .int .i64 b, .int .i64 c, .slice A ls.length cc] 25)).heap.size := by simp
  have KB := Lib.hid (Blk.fresh w 25 [.int .i64 a, .int .i64 b, .int .i64 c, .slice A ls.length cc])
  have HSH : Hid (∀ res, shapesM a b c ls = res → Calls Try.prog 13 #[.agg #[.int .i64 a, .int .i64 b, .int .i64 c, .slice A ls.length cc]] (w.alloc (.cells #[.int .i64 a, .int .i64 b, .int .i64 c, .slice A ls.length cc] 25)) (Shaped (w.alloc (.cells #[.int .i64 a, .int .i64 b, .int .i64 c, .slice A ls.length cc] 25)) res)) :=
    Lib.hid (fun res hres => rshapesN_any a b c _ ls _ B (by omega) (HL.out.below (HB0.out.mono hB)) res hres)
  clear h hr hb0
  rcases shapesM_cases a b c ls with ⟨hs, hm⟩ | ⟨n, hs, hn1, hn2, hm⟩ | ⟨all, hs, hok⟩
  · have HC := Lib.hid (HSH.out _ hs)
    have HW : Hid (r = 0) := Lib.hid (by rw [← HR.out]; unfold longestI; rw [hs]; rfl)
    clear hs hm
    go_enter Try.func18, Try.ntmps18
    go_wp2_with fail
    refine HC.out.mono ?_
    rintro en w2 ⟨A2, c2, rfl, hrows, hb2⟩
    have HB2 := Lib.hid (HB0.out.trans (hb2.mono (by omega)))
    clear hb2 hrows
    dsimp only
    go_wp2
    go_ret
    rw [HW.out]
    exact ⟨rfl, HB2.out⟩
  · have HC := Lib.hid (HSH.out _ hs)
    have HW : Hid (r = 0) := Lib.hid (by rw [← HR.out]; unfold longestI; rw [hs]; rfl)
    clear hs hm
    go_enter Try.func18, Try.ntmps18
    go_wp2_with fail
    refine HC.out.mono ?_
    rintro en w2 ⟨A2, c2, rfl, hrows, hb2⟩
    have HB2 := Lib.hid (HB0.out.trans (hb2.mono (by omega)))
    clear hb2 hrows
    dsimp only
    go_wp2
    go_ret
    rw [HW.out]
    exact ⟨rfl, HB2.out⟩
  · have HC := Lib.hid (HSH.out _ hs)
    have hml := hok.len
    obtain ⟨hm1, hm2, hm3⟩ := mayM_parts hok.may
    obtain ⟨hl1, hl12⟩ := hm2
    have HOK := Lib.hid hok
    have HME := Lib.hid hm3
    have HML := Lib.hid hml
    obtain ⟨dl, hdl⟩ : ∃ dl, all[ls.length]? = some dl := ⟨all[ls.length]'(by omega), List.getElem?_eq_getElem (by omega)⟩
    have HDL := Lib.hid hdl
    have HLI : Hid (lastI all = dl) := Lib.hid (by unfold lastI; rw [hml, Nat.add_sub_cancel, List.getD_eq_getElem?_getD, hdl]; rfl)
    have HW : Hid (r = (if boundsI (dl.headD 0) batch = false then ((0 : Int), (0 : Int), (1 : Int)) else if dl ≠ [dl.headD 0] then (0, (ls.length : Int), 2) else runW true batch ls all 0 0).1) := Lib.hid (by
      rw [← HR.out]
      unfold longestI walkI
      rw [hs]
      simp only [ne_eq, not_true_eq_false, if_false]
      rw [HLI.out])
    clear hs hok hm1 hm3 hdl hml
    by_cases h1 : dl.length = 1
    · match dl, h1 with
      | [x], _ =>
        simp only [List.headD_cons, ne_eq, not_true_eq_false, if_false] at HW
        simp only [List.length_cons, List.length_nil, Nat.zero_add] at *
        obtain ⟨ib1, hib1⟩ : ∃ ib, inI x 2 10 = ib := ⟨_, rfl⟩
        obtain ⟨ib2, hib2⟩ : ∃ ib, inI batch 1 8 = ib := ⟨_, rfl⟩
        have HI1 := Lib.hid (rin_any x 2 10 ib1 hib1)
        have HI2 := Lib.hid (rin_any batch 1 8 ib2 hib2)
        have HBD : Hid (boundsI x batch = (ib1 && ib2)) := Lib.hid (by unfold boundsI; rw [hib1, hib2])
        have HIB2 := Lib.hid hib2
        have t11 : ((1 : Int) != 1) = false := by simp
        clear hib1 hib2
        by_cases hb : ib1 = false
        · subst hb
          have HW2 : Hid (r = 0) := Lib.hid (by rw [HW.out, if_pos (by rw [HBD.out]; rfl)])
          clear HW
          go_enter Try.func18, Try.ntmps18
          go_wp2_with fail
          refine HC.out.mono ?_
          rintro en w2 ⟨A2, c2, rfl, hrows, hb2⟩
          have HB2 := Lib.hid (HB0.out.trans (hb2.mono (by omega)))
          have K2 := Lib.hid (KB.out.below hb2 hsz)
          dsimp only at hrows ⊢
          have HRW := Lib.hid hrows
          obtain ⟨gr, og, c3, A3, c4, e1, hgr, hcl1, hrl⟩ := hrows.at_ HDL.out
          injection e1 with e1 _ e3
          subst e1 e3
          rw [HML.out]
          have HRL := Lib.hid hrl
          clear hb2 hrows hrl
          obtain ⟨g1, o1, rfl, hg1, hx1⟩ := cells_of (k := 0) (x := x) HRL.out rfl
          have hx2 : w2.cell? ⟨g1, o1, none⟩ = some (.int .i64 x) := hx1
          have k3 : w2.cell? ⟨w.heap.size, 3, none⟩ = some (.slice A ls.length cc) := K2.out.cell 3
          clear hx1 hg1
          go_wp2_with (first
            | (go_at_call 35; (with_reducible refine (HI1.out _).mono ?_); rintro en w7 ⟨rfl, rfl⟩)
            | (go_at_call 35; (with_reducible refine (HI2.out _).mono ?_); rintro en w7 ⟨rfl, rfl⟩))
          go_ret
          rw [HW2.out]
          exact ⟨rfl, HB2.out⟩
        · simp only [Bool.not_eq_false] at hb
          subst hb
          by_cases hb : ib2 = false
          · subst hb
            have HW2 : Hid (r = 0) := Lib.hid (by rw [HW.out, if_pos (by rw [HBD.out]; rfl)])
            clear HW
            go_enter Try.func18, Try.ntmps18
            go_wp2_with fail
            refine HC.out.mono ?_
            rintro en w2 ⟨A2, c2, rfl, hrows, hb2⟩
            have HB2 := Lib.hid (HB0.out.trans (hb2.mono (by omega)))
            have K2 := Lib.hid (KB.out.below hb2 hsz)
            dsimp only at hrows ⊢
            have HRW := Lib.hid hrows
            obtain ⟨gr, og, c3, A3, c4, e1, hgr, hcl1, hrl⟩ := hrows.at_ HDL.out
            injection e1 with e1 _ e3
            subst e1 e3
            rw [HML.out]
            have HRL := Lib.hid hrl
            clear hb2 hrows hrl
            obtain ⟨g1, o1, rfl, hg1, hx1⟩ := cells_of (k := 0) (x := x) HRL.out rfl
            have hx2 : w2.cell? ⟨g1, o1, none⟩ = some (.int .i64 x) := hx1
            have k3 : w2.cell? ⟨w.heap.size, 3, none⟩ = some (.slice A ls.length cc) := K2.out.cell 3
            clear hx1 hg1
            go_wp2_with (first
              | (go_at_call 35; (with_reducible refine (HI1.out _).mono ?_); rintro en w7 ⟨rfl, rfl⟩)
              | (go_at_call 35; (with_reducible refine (HI2.out _).mono ?_); rintro en w7 ⟨rfl, rfl⟩))
            go_ret
            rw [HW2.out]
            exact ⟨rfl, HB2.out⟩
          · simp only [Bool.not_eq_false] at hb
            subst hb
            obtain ⟨bt0, bt1⟩ := inI_of HIB2.out
            have HW2 : Hid (r = (runW true batch ls all 0 0).1) := Lib.hid (by rw [HW.out, if_neg (by rw [HBD.out]; simp)])
            clear HW
            go_enter Try.func18, Try.ntmps18
            go_wp2_with fail
            refine HC.out.mono ?_
            rintro en w2 ⟨A2, c2, rfl, hrows, hb2⟩
            have HB2 := Lib.hid (HB0.out.trans (hb2.mono (by omega)))
            have K2 := Lib.hid (KB.out.below hb2 hsz)
            dsimp only at hrows ⊢
            have HRW := Lib.hid hrows
            obtain ⟨gr, og, c3, A3, c4, e1, hgr, hcl1, hrl⟩ := hrows.at_ HDL.out
            injection e1 with e1 _ e3
            subst e1 e3
            rw [HML.out]
            have HRL := Lib.hid hrl
            clear hb2 hrows hrl
            obtain ⟨g1, o1, rfl, hg1, hx1⟩ := cells_of (k := 0) (x := x) HRL.out rfl
            have hx2 : w2.cell? ⟨g1, o1, none⟩ = some (.int .i64 x) := hx1
            have k3 : w2.cell? ⟨w.heap.size, 3, none⟩ = some (.slice A ls.length cc) := K2.out.cell 3
            clear hx1 hg1
            go_wp2_with (first
              | (go_at_call 35; (with_reducible refine (HI1.out _).mono ?_); rintro en w7 ⟨rfl, rfl⟩)
              | (go_at_call 35; (with_reducible refine (HI2.out _).mono ?_); rintro en w7 ⟨rfl, rfl⟩))
            clear hx2 k3 hcl1 t11
            have HK2 : Hid (w.heap.size ≤ w2.heap.size) := Lib.hid HB2.out.size
            have hbw := HK2.out
            go_loopw [48, 9] (fun i lgv wr => ∃ (k : Nat) (lg : Int), k ≤ ls.length ∧ i = .int .i64 k ∧ lgv = .int .i64 lg ∧ Below w2.heap.size w2 wr ∧ Hid ((runW true batch (ls.drop k) (all.drop k) k lg).1 = r)) (fun i _ _ => ls.length - (intOf i).toNat)
            case atStart => exact ⟨0, 0, by omega, rfl, rfl, Below.refl _ _, Lib.hid HW2.out.symm⟩
            case round =>
              obtain ⟨k, lg, hk, rfl, rfl, hwr, hre⟩ := hrel
              by_cases hlt : k < ls.length
              · have hml := HML.out
                obtain ⟨g, o, c', l, e1, hlk, hok, hg, q0, q1, q2, q3, q4, q5, q6⟩ := ((HL.out.below (HB2.out.mono hB)).below (hwr.mono (by omega))).at_ hlt
                injection e1 with e1 _ e3
                subst e1 e3
                obtain ⟨d, hd⟩ : ∃ d, all[k]? = some d := ⟨all[k]'(by omega), List.getElem?_eq_getElem (by omega)⟩
                obtain ⟨e, he⟩ : ∃ e, all[k + 1]? = some e := ⟨all[k + 1]'(by omega), List.getElem?_eq_getElem (by omega)⟩
                have hma := mayLs_at ls 0 k l HME.out hlk
                have hgd := HOK.out.good k d hd
                have hge := HOK.out.good (k + 1) e he
                have hc3 : l.kind = 2 → e.length = 3 := fun h2 => by
                  obtain ⟨e', he', hgv⟩ := HOK.out.chain k l d hlk hd
                  rw [he] at he'
                  injection he' with he'
                  subst he'
                  unfold givesI at hgv
                  rw [if_neg (by omega), if_pos h2] at hgv
                  exact planesI_three hgv
                have HRA := Lib.hid (runW_at true batch hlk hd he (k : Int) lg)
                have hov := over_way (e := e) hma hgd bt0
                obtain ⟨g1, o1, c1, Ad, cd, e1, hg1, hdc, hdr⟩ := (HRW.out.below hwr).at_ hd
                injection e1 with e1 _ ec
                clear ec
                injection e1 with e1
                injection e1 with e1 e2
                subst e1 e2
                obtain ⟨g1, o1, c1, Ae, ce, e1, hg2, hec, her⟩ := (HRW.out.below hwr).at_ he
                injection e1 with e1 _ ec
                clear ec
                injection e1 with e1
                injection e1 with e1 e2
                subst e1 e2
                obtain ⟨x0, x1, x2, x3, x4, x5, x6⟩ := l
                dsimp only at q0 q1 q2 q3 q4 q5 q6 hma hc3
                have hal := net_one wr (.cells #[.int .i64 x0, .int .i64 x1, .int .i64 x2, .int .i64 x3, .int .i64 x4, .int .i64 x5, .bool x6] 43)
                have hwz := hwr.size
                have hzs : (wr.alloc (.cells #[.int .i64 x0, .int .i64 x1, .int .i64 x2, .int .i64 x3, .int .i64 x4, .int .i64 x5, .bool x6] 43)).drew.heap.size = wr.heap.size + 1 := by show (wr.alloc _).heap.size = _; simp
                have hdc2 : (wr.alloc (.cells #[.int .i64 x0, .int .i64 x1, .int .i64 x2, .int .i64 x3, .int .i64 x4, .int .i64 x5, .bool x6] 43)).drew.cell? ⟨gr, og + k, none⟩ = some (.slice Ad d.length cd) := (hal.cell (p := ⟨gr, og + k, none⟩) (by show gr < _; omega)).trans hdc
                have hec2 : (wr.alloc (.cells #[.int .i64 x0, .int .i64 x1, .int .i64 x2, .int .i64 x3, .int .i64 x4, .int .i64 x5, .bool x6] 43)).drew.cell? ⟨gr, og + (k + 1), none⟩ = some (.slice Ae e.length ce) := (hal.cell (p := ⟨gr, og + (k + 1), none⟩) (by show gr < _; omega)).trans hec
                have HBL := Lib.hid (hwr.trans (hal.drew.mono hwz))
                have HD := Lib.hid ((hdr.below (hal.mono (by omega))).drew)
                have HE := Lib.hid ((her.below (hal.mono (by omega))).drew)
                obtain ⟨dm, hdm⟩ : ∃ dm, dimsI ⟨x0, x1, x2, x3, x4, x5, x6⟩ d = dm := ⟨_, rfl⟩
                obtain ⟨cs, hcs⟩ : ∃ cs, (sumsI ⟨x0, x1, x2, x3, x4, x5, x6⟩ d e batch).1 = cs := ⟨_, rfl⟩
                have HDM := Lib.hid (rdims_any x0 x1 x2 x3 x4 x5 x6 d _ _ w2.heap.size (by rw [hzs]; omega) HD.out hgd dm hdm)
                have HLN : Hid (∀ W, Below w2.heap.size (wr.alloc (.cells #[.int .i64 x0, .int .i64 x1, .int .i64 x2, .int .i64 x3, .int .i64 x4, .int .i64 x5, .bool x6] 43)).drew W → Calls Try.prog 38 #[.agg #[.int .i64 x0, .int .i64 x1, .int .i64 x2, .int .i64 x3, .int .i64 x4, .int .i64 x5, .bool x6], .slice Ad d.length cd, .slice Ae e.length ce, .int .i64 batch] W (Lens W cs)) :=
                  Lib.hid (fun W hW => rlengths_any (0 + (k : Int)) x0 x1 x2 x3 x4 x5 x6 d e _ _ batch W w2.heap.size (by have := hW.size; rw [hzs] at this; omega) (HD.out.below hW) (HE.out.below hW) hgd hge ⟨bt0, bt1⟩ hma hc3 cs hcs)
                have HDW := Lib.hid (dims_wide hma hgd)
                rw [hdm] at HDW
                rw [hcs] at HRA
                have HGD := Lib.hid hgd
                have HGE := Lib.hid hge
                obtain ⟨pd0, pd1⟩ := hgd.prod
                obtain ⟨pe0, pe1⟩ := hge.prod
                have hwk : IntKind.i64.wrap ((k : Int) + 1) = (k : Int) + 1 := IntWalk.i64_in _ (by omega)
                have hwk2 : ((k : Int) + 1).toNat = k + 1 := by omega
                have i1 : 0 ≤ (k : Int) + 1 := by omega
                have i2 : (k : Int) + 1 < (ls.length : Int) + 1 := by omega
                have i3 : (k : Int) < (ls.length : Int) + 1 := by omega
                have kb := (Blk.fresh wr 43 [.int .i64 x0, .int .i64 x1, .int .i64 x2, .int .i64 x3, .int .i64 x4, .int .i64 x5, .bool x6]).drew
                obtain ⟨pq0, pq1⟩ : 0 ≤ batch * prodI d ∧ batch * prodI d ≤ 8 * 4096 := mul_in2 (by omega) (by omega) (by omega) (by omega)
                obtain ⟨pr0, pr1⟩ : 0 ≤ batch * prodI e ∧ batch * prodI e ≤ 8 * 4096 := mul_in2 (by omega) (by omega) (by omega) (by omega)
                have HM1 : Hid (IntKind.i64.wrap (batch * prodI d) = batch * prodI d) := Lib.hid (IntWalk.i64_in _ (by omega))
                have HM2 : Hid (IntKind.i64.wrap (batch * prodI e) = batch * prodI e) := Lib.hid (IntWalk.i64_in _ (by omega))
                have HOV := Lib.hid hov
                rw [← hdm] at HDM HDW
                have HDN := Lib.hid hdm
                clear hlk hok hd he hma hgd hge hc3 hdc hec hdr her hal hml hwr hov hdm hcs
                go_wp2_with fail
                refine wp_region_held_drew (S := (fun w' => w'.cell? ⟨gr, og + k, none⟩ = some (.slice Ad d.length cd) ∧ w'.cell? ⟨gr, og + (k + 1), none⟩ = some (.slice Ae e.length ce) ∧ w'.cell? ⟨wr.heap.size, 0, none⟩ = some (.int .i64 x0) ∧ w'.cell? ⟨wr.heap.size, 1, none⟩ = some (.int .i64 x1) ∧ w'.cell? ⟨wr.heap.size, 2, none⟩ = some (.int .i64 x2) ∧ w'.cell? ⟨wr.heap.size, 3, none⟩ = some (.int .i64 x3) ∧ w'.cell? ⟨wr.heap.size, 4, none⟩ = some (.int .i64 x4) ∧ w'.cell? ⟨wr.heap.size, 5, none⟩ = some (.int .i64 x5) ∧ w'.cell? ⟨wr.heap.size, 6, none⟩ = some (.bool x6))) (by kernel_rfl) (⟨hdc2, hec2, kb.cell 0, kb.cell 1, kb.cell 2, kb.cell 3, kb.cell 4, kb.cell 5, kb.cell 6⟩) (fun hHeld => ?_)
                refine' wpAnyH_take (i := 0) (v := _) rfl (by kernel_rfl) (by kernel_rfl) (by kernel_rfl) (fun _ _ _ h => h) (Or.inl ⟨by rfl, ?taq14⟩) (by assumption) ?tbq14
                case taq14 =>
                  intro wS hSw
                  (try dsimp only at hSw)
                  go_simp
                  (try (with_reducible rfl))
                (try simp only [List.getElem_toArray, List.getElem_cons_zero, List.getElem_cons_succ, Act.put, List.setIfInBounds_toArray, List.set_cons_zero, List.set_cons_succ])
                refine' wpAnyH_take (i := 1) (v := _) rfl (by kernel_rfl) (by kernel_rfl) (by kernel_rfl) (fun _ _ _ h => h) (Or.inl ⟨by rfl, ?taq15⟩) (by assumption) ?tbq15
                case taq15 =>
                  intro wS hSw
                  (try dsimp only at hSw)
                  go_simp
                  (try (with_reducible rfl))
                (try simp only [List.getElem_toArray, List.getElem_cons_zero, List.getElem_cons_succ, Act.put, List.setIfInBounds_toArray, List.set_cons_zero, List.set_cons_succ])
                refine' wpAnyH_take (i := 2) (v := _) rfl (by kernel_rfl) (by kernel_rfl) (by kernel_rfl) (fun _ _ _ h => h) (Or.inl ⟨by rfl, ?taq16⟩) (by assumption) ?tbq16
                case taq16 =>
                  intro wS hSw
                  (try dsimp only at hSw)
                  go_simp
                  (try (with_reducible rfl))
                (try simp only [List.getElem_toArray, List.getElem_cons_zero, List.getElem_cons_succ, Act.put, List.setIfInBounds_toArray, List.set_cons_zero, List.set_cons_succ])
                refine' wpAnyH_take (i := 3) (v := _) rfl (by kernel_rfl) (by kernel_rfl) (by kernel_rfl) (fun _ _ _ h => h) (Or.inl ⟨by rfl, ?taq17⟩) (by assumption) ?tbq17
                case taq17 =>
                  intro wS hSw
                  (try dsimp only at hSw)
                  go_simp
                  (try (with_reducible rfl))
                (try simp only [List.getElem_toArray, List.getElem_cons_zero, List.getElem_cons_succ, Act.put, List.setIfInBounds_toArray, List.set_cons_zero, List.set_cons_succ])
                refine' wpAnyH_take (i := 4) (v := _) rfl (by kernel_rfl) (by kernel_rfl) (by kernel_rfl) (fun _ _ _ h => h) (Or.inl ⟨by rfl, ?taq18⟩) (by assumption) ?tbq18
                case taq18 =>
                  intro wS hSw
                  (try dsimp only at hSw)
                  go_simp
                  (try (with_reducible rfl))
                (try simp only [List.getElem_toArray, List.getElem_cons_zero, List.getElem_cons_succ, Act.put, List.setIfInBounds_toArray, List.set_cons_zero, List.set_cons_succ])
                refine wpAnyH_ready (rs := [5]) (by kernel_rfl) (by simp) ?_
                refine AllReadyH.cons rfl (fun K9 hK9 => ?_) AllReadyH.nil
                (try simp only [List.getElem_toArray, List.getElem_cons_zero, List.getElem_cons_succ])
                go_simp
                refine HDM.out.mono ?_
                rintro en w5 ⟨A5, c5, rfl, hcs, hb5⟩
                have hb5' := hb5.mono (show w2.heap.size ≤ _ by rw [hzs]; omega)
                have kb5 := kb.below hb5 kb.lt
                have hdc5 : w5.cell? ⟨gr, og + k, none⟩ = some (.slice Ad d.length cd) := (hb5.cell (p := ⟨gr, og + k, none⟩) (by show gr < _; rw [hzs]; omega)).trans hdc2
                have hec5 : w5.cell? ⟨gr, og + (k + 1), none⟩ = some (.slice Ae e.length ce) := (hb5.cell (p := ⟨gr, og + (k + 1), none⟩) (by show gr < _; rw [hzs]; omega)).trans hec2
                have HB5 := Lib.hid (HBL.out.trans hb5')
                have HS1 := Lib.hid (rsize_good HGD.out _ w5 _ (HD.out.below hb5'))
                have HS2 := Lib.hid (rsize_good HGE.out _ w5 _ (HE.out.below hb5'))
                have HL5 := Lib.hid (HLN.out w5.drew hb5'.drew)
                have HMD := Lib.hid (maydims_any _ _ w5 _ hcs HDW.out)
                clear hb5 hb5' hcs
                refine hK9.out _ _ (⟨hdc5, hec5, kb5.cell 0, kb5.cell 1, kb5.cell 2, kb5.cell 3, kb5.cell 4, kb5.cell 5, kb5.cell 6⟩) (fun hHeld9 => ?_)
                clear hK9 K9
                (try simp only [List.getElem_toArray, List.getElem_cons_zero, List.getElem_cons_succ, Act.put, List.setIfInBounds_toArray, List.set_cons_zero, List.set_cons_succ])
                refine' wpAnyH_take (i := 6) (v := _) rfl (by kernel_rfl) (by kernel_rfl) (by kernel_rfl) (fun _ _ _ h => h) (Or.inl ⟨by rfl, ?taq19⟩) (by assumption) ?tbq19
                case taq19 =>
                  intro wS hSw
                  (try dsimp only at hSw)
                  go_simp
                  (try (with_reducible rfl))
                (try simp only [List.getElem_toArray, List.getElem_cons_zero, List.getElem_cons_succ, Act.put, List.setIfInBounds_toArray, List.set_cons_zero, List.set_cons_succ])
                refine' wpAnyH_take (i := 7) (v := _) rfl (by kernel_rfl) (by kernel_rfl) (by kernel_rfl) (fun _ _ _ h => h) (Or.inl ⟨by rfl, ?taq20⟩) (by assumption) ?tbq20
                case taq20 =>
                  intro wS hSw
                  (try dsimp only at hSw)
                  go_simp
                  (try (with_reducible rfl))
                (try simp only [List.getElem_toArray, List.getElem_cons_zero, List.getElem_cons_succ, Act.put, List.setIfInBounds_toArray, List.set_cons_zero, List.set_cons_succ])
                refine' wpAnyH_take (i := 8) (v := _) rfl (by kernel_rfl) (by kernel_rfl) (by kernel_rfl) (fun _ _ _ h => h) (Or.inl ⟨by rfl, ?taq21⟩) (by assumption) ?tbq21
                case taq21 =>
                  intro wS hSw
                  (try dsimp only at hSw)
                  go_simp
                  (try (with_reducible rfl))
                (try simp only [List.getElem_toArray, List.getElem_cons_zero, List.getElem_cons_succ, Act.put, List.setIfInBounds_toArray, List.set_cons_zero, List.set_cons_succ])
                refine' wpAnyH_take (i := 9) (v := _) rfl (by kernel_rfl) (by kernel_rfl) (by kernel_rfl) (fun _ _ _ h => h) (Or.inl ⟨by rfl, ?taq22⟩) (by assumption) ?tbq22
                case taq22 =>
                  intro wS hSw
                  (try dsimp only at hSw)
                  go_simp
                  (try (with_reducible rfl))
                (try simp only [List.getElem_toArray, List.getElem_cons_zero, List.getElem_cons_succ, Act.put, List.setIfInBounds_toArray, List.set_cons_zero, List.set_cons_succ])
                refine' wpAnyH_take (i := 10) (v := _) rfl (by kernel_rfl) (by kernel_rfl) (by kernel_rfl) (fun _ _ _ h => h) (Or.inl ⟨by rfl, ?taq23⟩) (by assumption) ?tbq23
                case taq23 =>
                  intro wS hSw
                  (try dsimp only at hSw)
                  go_simp
                  (try (with_reducible rfl))
                (try simp only [List.getElem_toArray, List.getElem_cons_zero, List.getElem_cons_succ, Act.put, List.setIfInBounds_toArray, List.set_cons_zero, List.set_cons_succ])
                refine wpAnyH_done (by kernel_rfl) ?_ _
                clear kb hdc2 hec2 hHeld hHeld9
                obtain ⟨ob, hob⟩ : ∃ ob, overI ⟨x0, x1, x2, x3, x4, x5, x6⟩ d e batch = ob := ⟨_, rfl⟩
                rw [hob] at HOV HRA
                have hov := HOV.out
                rw [HDN.out] at HMD
                (try rw [HDN.out])
                obtain ⟨ws, nb⟩ := dm
                dsimp only at HMD
                have hm1 := HM1.out
                have hm2 := HM2.out
                have hs5 : gr < w5.heap.size := by have := HB5.out.size; omega
                clear hob HOV hzs
                dsimp only
                cases hov with
                | one h1 =>
                  have HX : Hid (r = 0) := Lib.hid (by rw [← hre.out, HRA.out]; rfl)
                  go_wp2_with (first
                    | (go_at_call 37; (with_reducible refine HS1.out.mono ?_); rintro en w7 ⟨rfl, rfl⟩)
                    | (go_at_call 37; (with_reducible refine HS2.out.mono ?_); rintro en w7 ⟨rfl, rfl⟩)
                    | (go_at_call 23; (with_reducible refine HMD.out.mono ?_); rintro en w7 ⟨rfl, rfl⟩))
                  go_ret
                  rw [HX.out]
                  exact ⟨rfl, HB2.out.trans (HB5.out.mono hbw)⟩
                | two h1 h2 =>
                  have HX : Hid (r = 0) := Lib.hid (by rw [← hre.out, HRA.out]; rfl)
                  go_wp2_with (first
                    | (go_at_call 37; (with_reducible refine HS1.out.mono ?_); rintro en w7 ⟨rfl, rfl⟩)
                    | (go_at_call 37; (with_reducible refine HS2.out.mono ?_); rintro en w7 ⟨rfl, rfl⟩)
                    | (go_at_call 23; (with_reducible refine HMD.out.mono ?_); rintro en w7 ⟨rfl, rfl⟩))
                  go_ret
                  rw [HX.out]
                  exact ⟨rfl, HB2.out.trans (HB5.out.mono hbw)⟩
                | three h1 h2 h3 =>
                  rw [HDN.out] at h3
                  have z3 : ws.length = 0 := h3
                  have z4 : decide (0 < (ws.length : Int)) = false := decide_eq_false (by omega)
                  go_wp2_with (first
                    | (go_at_call 37; (with_reducible refine HS1.out.mono ?_); rintro en w7 ⟨rfl, rfl⟩)
                    | (go_at_call 37; (with_reducible refine HS2.out.mono ?_); rintro en w7 ⟨rfl, rfl⟩)
                    | (go_at_call 23; (with_reducible refine HMD.out.mono ?_); rintro en w7 ⟨rfl, rfl⟩))
                  refine wp_region_held_drew (S := (fun w' => w'.cell? ⟨gr, og + k, none⟩ = some (.slice Ad d.length cd) ∧ w'.cell? ⟨gr, og + (k + 1), none⟩ = some (.slice Ae e.length ce) ∧ w'.cell? ⟨wr.heap.size, 0, none⟩ = some (.int .i64 x0) ∧ w'.cell? ⟨wr.heap.size, 1, none⟩ = some (.int .i64 x1) ∧ w'.cell? ⟨wr.heap.size, 2, none⟩ = some (.int .i64 x2) ∧ w'.cell? ⟨wr.heap.size, 3, none⟩ = some (.int .i64 x3) ∧ w'.cell? ⟨wr.heap.size, 4, none⟩ = some (.int .i64 x4) ∧ w'.cell? ⟨wr.heap.size, 5, none⟩ = some (.int .i64 x5) ∧ w'.cell? ⟨wr.heap.size, 6, none⟩ = some (.bool x6))) (by kernel_rfl) (⟨hdc5, hec5, kb5.cell 0, kb5.cell 1, kb5.cell 2, kb5.cell 3, kb5.cell 4, kb5.cell 5, kb5.cell 6⟩) (fun hHeld => ?_)
                  refine' wpAnyH_take (i := 0) (v := _) rfl (by kernel_rfl) (by kernel_rfl) (by kernel_rfl) (fun _ _ _ h => h) (Or.inl ⟨by rfl, ?taq1⟩) (by assumption) ?tbq1
                  case taq1 =>
                    intro wS hSw
                    (try dsimp only at hSw)
                    go_simp
                    (try (with_reducible rfl))
                  (try simp only [List.getElem_toArray, List.getElem_cons_zero, List.getElem_cons_succ, Act.put, List.setIfInBounds_toArray, List.set_cons_zero, List.set_cons_succ])
                  refine' wpAnyH_take (i := 1) (v := _) rfl (by kernel_rfl) (by kernel_rfl) (by kernel_rfl) (fun _ _ _ h => h) (Or.inl ⟨by rfl, ?taq2⟩) (by assumption) ?tbq2
                  case taq2 =>
                    intro wS hSw
                    (try dsimp only at hSw)
                    go_simp
                    (try (with_reducible rfl))
                  (try simp only [List.getElem_toArray, List.getElem_cons_zero, List.getElem_cons_succ, Act.put, List.setIfInBounds_toArray, List.set_cons_zero, List.set_cons_succ])
                  refine' wpAnyH_take (i := 2) (v := _) rfl (by kernel_rfl) (by kernel_rfl) (by kernel_rfl) (fun _ _ _ h => h) (Or.inl ⟨by rfl, ?taq3⟩) (by assumption) ?tbq3
                  case taq3 =>
                    intro wS hSw
                    (try dsimp only at hSw)
                    go_simp
                    (try (with_reducible rfl))
                  (try simp only [List.getElem_toArray, List.getElem_cons_zero, List.getElem_cons_succ, Act.put, List.setIfInBounds_toArray, List.set_cons_zero, List.set_cons_succ])
                  refine' wpAnyH_take (i := 3) (v := _) rfl (by kernel_rfl) (by kernel_rfl) (by kernel_rfl) (fun _ _ _ h => h) (Or.inl ⟨by rfl, ?taq4⟩) (by assumption) ?tbq4
                  case taq4 =>
                    intro wS hSw
                    (try dsimp only at hSw)
                    go_simp
                    (try (with_reducible rfl))
                  (try simp only [List.getElem_toArray, List.getElem_cons_zero, List.getElem_cons_succ, Act.put, List.setIfInBounds_toArray, List.set_cons_zero, List.set_cons_succ])
                  refine' wpAnyH_take (i := 4) (v := _) rfl (by kernel_rfl) (by kernel_rfl) (by kernel_rfl) (fun _ _ _ h => h) (Or.inl ⟨by rfl, ?taq5⟩) (by assumption) ?tbq5
                  case taq5 =>
                    intro wS hSw
                    (try dsimp only at hSw)
                    go_simp
                    (try (with_reducible rfl))
                  (try simp only [List.getElem_toArray, List.getElem_cons_zero, List.getElem_cons_succ, Act.put, List.setIfInBounds_toArray, List.set_cons_zero, List.set_cons_succ])
                  refine' wpAnyH_take (i := 5) (v := _) rfl (by kernel_rfl) (by kernel_rfl) (by kernel_rfl) (fun _ _ _ h => h) (Or.inl ⟨by rfl, ?taq6⟩) (by assumption) ?tbq6
                  case taq6 =>
                    intro wS hSw
                    (try dsimp only at hSw)
                    go_simp
                    (try (with_reducible rfl))
                  (try simp only [List.getElem_toArray, List.getElem_cons_zero, List.getElem_cons_succ, Act.put, List.setIfInBounds_toArray, List.set_cons_zero, List.set_cons_succ])
                  refine' wpAnyH_take (i := 6) (v := _) rfl (by kernel_rfl) (by kernel_rfl) (by kernel_rfl) (fun _ _ _ h => h) (Or.inl ⟨by rfl, ?taq7⟩) (by assumption) ?tbq7
                  case taq7 =>
                    intro wS hSw
                    (try dsimp only at hSw)
                    go_simp
                    (try (with_reducible rfl))
                  (try simp only [List.getElem_toArray, List.getElem_cons_zero, List.getElem_cons_succ, Act.put, List.setIfInBounds_toArray, List.set_cons_zero, List.set_cons_succ])
                  refine' wpAnyH_take (i := 7) (v := _) rfl (by kernel_rfl) (by kernel_rfl) (by kernel_rfl) (fun _ _ _ h => h) (Or.inl ⟨by rfl, ?taq8⟩) (by assumption) ?tbq8
                  case taq8 =>
                    intro wS hSw
                    (try dsimp only at hSw)
                    go_simp
                    (try (with_reducible rfl))
                  (try simp only [List.getElem_toArray, List.getElem_cons_zero, List.getElem_cons_succ, Act.put, List.setIfInBounds_toArray, List.set_cons_zero, List.set_cons_succ])
                  refine' wpAnyH_take (i := 8) (v := _) rfl (by kernel_rfl) (by kernel_rfl) (by kernel_rfl) (fun _ _ _ h => h) (Or.inl ⟨by rfl, ?taq9⟩) (by assumption) ?tbq9
                  case taq9 =>
                    intro wS hSw
                    (try dsimp only at hSw)
                    go_simp
                    (try (with_reducible rfl))
                  (try simp only [List.getElem_toArray, List.getElem_cons_zero, List.getElem_cons_succ, Act.put, List.setIfInBounds_toArray, List.set_cons_zero, List.set_cons_succ])
                  refine' wpAnyH_take (i := 9) (v := _) rfl (by kernel_rfl) (by kernel_rfl) (by kernel_rfl) (fun _ _ _ h => h) (Or.inl ⟨by rfl, ?taq10⟩) (by assumption) ?tbq10
                  case taq10 =>
                    intro wS hSw
                    (try dsimp only at hSw)
                    go_simp
                    (try (with_reducible rfl))
                  (try simp only [List.getElem_toArray, List.getElem_cons_zero, List.getElem_cons_succ, Act.put, List.setIfInBounds_toArray, List.set_cons_zero, List.set_cons_succ])
                  refine' wpAnyH_take (i := 10) (v := _) rfl (by kernel_rfl) (by kernel_rfl) (by kernel_rfl) (fun _ _ _ h => h) (Or.inl ⟨by rfl, ?taq11⟩) (by assumption) ?tbq11
                  case taq11 =>
                    intro wS hSw
                    (try dsimp only at hSw)
                    go_simp
                    (try (with_reducible rfl))
                  (try simp only [List.getElem_toArray, List.getElem_cons_zero, List.getElem_cons_succ, Act.put, List.setIfInBounds_toArray, List.set_cons_zero, List.set_cons_succ])
                  refine' wpAnyH_take (i := 13) (v := _) rfl (by kernel_rfl) (by kernel_rfl) (by kernel_rfl) (fun _ _ _ h => h) (Or.inl ⟨by rfl, ?taq12⟩) (by assumption) ?tbq12
                  case taq12 =>
                    intro wS hSw
                    (try dsimp only at hSw)
                    go_simp
                    (try (with_reducible rfl))
                  (try simp only [List.getElem_toArray, List.getElem_cons_zero, List.getElem_cons_succ, Act.put, List.setIfInBounds_toArray, List.set_cons_zero, List.set_cons_succ])
                  refine wpAnyH_ready (rs := [11]) (by kernel_rfl) (by simp) ?_
                  refine AllReadyH.cons rfl (fun K9 hK9 => ?_) AllReadyH.nil
                  (try simp only [List.getElem_toArray, List.getElem_cons_zero, List.getElem_cons_succ])
                  go_simp
                  refine HL5.out.mono ?_
                  rintro en w6 ⟨A6, c6, rfl, hcs6, hb6⟩
                  have hdc6 : w6.cell? ⟨gr, og + k, none⟩ = some (.slice Ad d.length cd) := (hb6.cell (p := ⟨gr, og + k, none⟩) (by show gr < w5.heap.size; omega)).trans hdc5
                  have hec6 : w6.cell? ⟨gr, og + (k + 1), none⟩ = some (.slice Ae e.length ce) := (hb6.cell (p := ⟨gr, og + (k + 1), none⟩) (by show gr < w5.heap.size; omega)).trans hec5
                  have kb6 := kb5.drew.below hb6 kb5.drew.lt
                  have HB6 := Lib.hid (HB5.out.drew.trans ((hb6.mono (show w2.heap.size ≤ w5.drew.heap.size from HB5.out.size))))
                  have HCS := Lib.hid hcs6
                  have hcl : cs.length ≤ 9223372036854775807 := by
                    obtain ⟨_, _, _, _, hmm⟩ := hcs6.form
                    rw [length_ints] at *
                    unfold maxLen at hmm
                    omega
                  dsimp only
                  clear hcs6 hb6
                  refine hK9.out _ _ (⟨hdc6, hec6, kb6.cell 0, kb6.cell 1, kb6.cell 2, kb6.cell 3, kb6.cell 4, kb6.cell 5, kb6.cell 6⟩) (fun hHeld9 => ?_)
                  clear hK9 K9
                  (try simp only [List.getElem_toArray, List.getElem_cons_zero, List.getElem_cons_succ, Act.put, List.setIfInBounds_toArray, List.set_cons_zero, List.set_cons_succ])
                  refine' wpAnyH_take (i := 12) (v := _) rfl (by kernel_rfl) (by kernel_rfl) (by kernel_rfl) (fun _ _ _ h => h) (Or.inl ⟨by rfl, ?taq13⟩) (by assumption) ?tbq13
                  case taq13 =>
                    intro wS hSw
                    (try dsimp only at hSw)
                    go_simp
                    (try (with_reducible rfl))
                  (try simp only [List.getElem_toArray, List.getElem_cons_zero, List.getElem_cons_succ, Act.put, List.setIfInBounds_toArray, List.set_cons_zero, List.set_cons_succ])
                  refine wpAnyH_done (by kernel_rfl) ?_ _
                  clear kb5 hdc5 hec5 hHeld hHeld9 hm1 hm2
                  go_wp2_with fail
                  go_loop [104, 9] (fun i lgv => ∃ (j : Nat) (lg' : Int), j ≤ cs.length ∧ i = .int .i64 j ∧ lgv = .int .i64 lg' ∧ Hid (goC true cs lg = goC true (cs.drop j) lg')) (fun i _ => cs.length - (intOf i).toNat)
                  case atStart => exact ⟨0, lg, by omega, rfl, rfl, Lib.hid rfl⟩
                  case round =>
                    obtain ⟨j, lg', hj, rfl, rfl, hgo⟩ := hrel
                    by_cases hjl : j < cs.length
                    · obtain ⟨x', hx⟩ : ∃ x', cs[j]? = some x' := ⟨cs[j], List.getElem?_eq_getElem hjl⟩
                      obtain ⟨gx, ox, hA5, hgx, hxc⟩ := cells_of HCS.out hx
                      subst hA5
                      have HX := Lib.hid hx
                      have i4 : (0 : Int) ≤ (j : Int) := by omega
                      have i5 : (j : Int) < (cs.length : Int) := by omega
                      clear hx hgx
                      go_wp2
                      go_round
                      case rel => exact ⟨j + 1, max lg' x', by omega, by go_num, rfl, Lib.hid (goC_next true cs lg j lg' x' hgo.out HX.out rfl)⟩
                      case measure => simp [intOf]; omega
                    · obtain rfl : j = cs.length := by omega
                      have HG : Hid (goC true cs lg = some lg') := Lib.hid (by have := hgo.out; rw [List.drop_length] at this; exact this)
                      go_wp2
                      go_roundw
                      case rel => exact ⟨k + 1, lg', by omega, by go_num, rfl, HB6.out, Lib.hid (by rw [← hre.out, HRA.out, if_neg (by simp), HG.out]; rfl)⟩
                      case measure => simp [intOf]; omega
                | four h1 h2 h3 h4 =>
                  rw [HDN.out] at h3 h4
                  dsimp only at h3 h4
                  have z3 : 0 < ws.length := h3
                  have z4 : decide (0 < (ws.length : Int)) = true := by simp; omega
                  rw [h4] at HMD
                  go_wp2_with (first
                    | (go_at_call 37; (with_reducible refine HS1.out.mono ?_); rintro en w7 ⟨rfl, rfl⟩)
                    | (go_at_call 37; (with_reducible refine HS2.out.mono ?_); rintro en w7 ⟨rfl, rfl⟩)
                    | (go_at_call 23; (with_reducible refine HMD.out.mono ?_); rintro en w7 ⟨rfl, rfl⟩))
                  refine wp_region_held_drew (S := (fun w' => w'.cell? ⟨gr, og + k, none⟩ = some (.slice Ad d.length cd) ∧ w'.cell? ⟨gr, og + (k + 1), none⟩ = some (.slice Ae e.length ce) ∧ w'.cell? ⟨wr.heap.size, 0, none⟩ = some (.int .i64 x0) ∧ w'.cell? ⟨wr.heap.size, 1, none⟩ = some (.int .i64 x1) ∧ w'.cell? ⟨wr.heap.size, 2, none⟩ = some (.int .i64 x2) ∧ w'.cell? ⟨wr.heap.size, 3, none⟩ = some (.int .i64 x3) ∧ w'.cell? ⟨wr.heap.size, 4, none⟩ = some (.int .i64 x4) ∧ w'.cell? ⟨wr.heap.size, 5, none⟩ = some (.int .i64 x5) ∧ w'.cell? ⟨wr.heap.size, 6, none⟩ = some (.bool x6))) (by kernel_rfl) (⟨hdc5, hec5, kb5.cell 0, kb5.cell 1, kb5.cell 2, kb5.cell 3, kb5.cell 4, kb5.cell 5, kb5.cell 6⟩) (fun hHeld => ?_)
                  refine' wpAnyH_take (i := 0) (v := _) rfl (by kernel_rfl) (by kernel_rfl) (by kernel_rfl) (fun _ _ _ h => h) (Or.inl ⟨by rfl, ?taz1⟩) (by assumption) ?tbz1
                  case taz1 =>
                    intro wS hSw
                    (try dsimp only at hSw)
                    go_simp
                    (try (with_reducible rfl))
                  (try simp only [List.getElem_toArray, List.getElem_cons_zero, List.getElem_cons_succ, Act.put, List.setIfInBounds_toArray, List.set_cons_zero, List.set_cons_succ])
                  refine' wpAnyH_take (i := 1) (v := _) rfl (by kernel_rfl) (by kernel_rfl) (by kernel_rfl) (fun _ _ _ h => h) (Or.inl ⟨by rfl, ?taz2⟩) (by assumption) ?tbz2
                  case taz2 =>
                    intro wS hSw
                    (try dsimp only at hSw)
                    go_simp
                    (try (with_reducible rfl))
                  (try simp only [List.getElem_toArray, List.getElem_cons_zero, List.getElem_cons_succ, Act.put, List.setIfInBounds_toArray, List.set_cons_zero, List.set_cons_succ])
                  refine' wpAnyH_take (i := 2) (v := _) rfl (by kernel_rfl) (by kernel_rfl) (by kernel_rfl) (fun _ _ _ h => h) (Or.inl ⟨by rfl, ?taz3⟩) (by assumption) ?tbz3
                  case taz3 =>
                    intro wS hSw
                    (try dsimp only at hSw)
                    go_simp
                    (try (with_reducible rfl))
                  (try simp only [List.getElem_toArray, List.getElem_cons_zero, List.getElem_cons_succ, Act.put, List.setIfInBounds_toArray, List.set_cons_zero, List.set_cons_succ])
                  refine' wpAnyH_take (i := 3) (v := _) rfl (by kernel_rfl) (by kernel_rfl) (by kernel_rfl) (fun _ _ _ h => h) (Or.inl ⟨by rfl, ?taz4⟩) (by assumption) ?tbz4
                  case taz4 =>
                    intro wS hSw
                    (try dsimp only at hSw)
                    go_simp
                    (try (with_reducible rfl))
                  (try simp only [List.getElem_toArray, List.getElem_cons_zero, List.getElem_cons_succ, Act.put, List.setIfInBounds_toArray, List.set_cons_zero, List.set_cons_succ])
                  refine' wpAnyH_take (i := 4) (v := _) rfl (by kernel_rfl) (by kernel_rfl) (by kernel_rfl) (fun _ _ _ h => h) (Or.inl ⟨by rfl, ?taz5⟩) (by assumption) ?tbz5
                  case taz5 =>
                    intro wS hSw
                    (try dsimp only at hSw)
                    go_simp
                    (try (with_reducible rfl))
                  (try simp only [List.getElem_toArray, List.getElem_cons_zero, List.getElem_cons_succ, Act.put, List.setIfInBounds_toArray, List.set_cons_zero, List.set_cons_succ])
                  refine' wpAnyH_take (i := 5) (v := _) rfl (by kernel_rfl) (by kernel_rfl) (by kernel_rfl) (fun _ _ _ h => h) (Or.inl ⟨by rfl, ?taz6⟩) (by assumption) ?tbz6
                  case taz6 =>
                    intro wS hSw
                    (try dsimp only at hSw)
                    go_simp
                    (try (with_reducible rfl))
                  (try simp only [List.getElem_toArray, List.getElem_cons_zero, List.getElem_cons_succ, Act.put, List.setIfInBounds_toArray, List.set_cons_zero, List.set_cons_succ])
                  refine' wpAnyH_take (i := 6) (v := _) rfl (by kernel_rfl) (by kernel_rfl) (by kernel_rfl) (fun _ _ _ h => h) (Or.inl ⟨by rfl, ?taz7⟩) (by assumption) ?tbz7
                  case taz7 =>
                    intro wS hSw
                    (try dsimp only at hSw)
                    go_simp
                    (try (with_reducible rfl))
                  (try simp only [List.getElem_toArray, List.getElem_cons_zero, List.getElem_cons_succ, Act.put, List.setIfInBounds_toArray, List.set_cons_zero, List.set_cons_succ])
                  refine' wpAnyH_take (i := 7) (v := _) rfl (by kernel_rfl) (by kernel_rfl) (by kernel_rfl) (fun _ _ _ h => h) (Or.inl ⟨by rfl, ?taz8⟩) (by assumption) ?tbz8
                  case taz8 =>
                    intro wS hSw
                    (try dsimp only at hSw)
                    go_simp
                    (try (with_reducible rfl))
                  (try simp only [List.getElem_toArray, List.getElem_cons_zero, List.getElem_cons_succ, Act.put, List.setIfInBounds_toArray, List.set_cons_zero, List.set_cons_succ])
                  refine' wpAnyH_take (i := 8) (v := _) rfl (by kernel_rfl) (by kernel_rfl) (by kernel_rfl) (fun _ _ _ h => h) (Or.inl ⟨by rfl, ?taz9⟩) (by assumption) ?tbz9
                  case taz9 =>
                    intro wS hSw
                    (try dsimp only at hSw)
                    go_simp
                    (try (with_reducible rfl))
                  (try simp only [List.getElem_toArray, List.getElem_cons_zero, List.getElem_cons_succ, Act.put, List.setIfInBounds_toArray, List.set_cons_zero, List.set_cons_succ])
                  refine' wpAnyH_take (i := 9) (v := _) rfl (by kernel_rfl) (by kernel_rfl) (by kernel_rfl) (fun _ _ _ h => h) (Or.inl ⟨by rfl, ?taz10⟩) (by assumption) ?tbz10
                  case taz10 =>
                    intro wS hSw
                    (try dsimp only at hSw)
                    go_simp
                    (try (with_reducible rfl))
                  (try simp only [List.getElem_toArray, List.getElem_cons_zero, List.getElem_cons_succ, Act.put, List.setIfInBounds_toArray, List.set_cons_zero, List.set_cons_succ])
                  refine' wpAnyH_take (i := 10) (v := _) rfl (by kernel_rfl) (by kernel_rfl) (by kernel_rfl) (fun _ _ _ h => h) (Or.inl ⟨by rfl, ?taz11⟩) (by assumption) ?tbz11
                  case taz11 =>
                    intro wS hSw
                    (try dsimp only at hSw)
                    go_simp
                    (try (with_reducible rfl))
                  (try simp only [List.getElem_toArray, List.getElem_cons_zero, List.getElem_cons_succ, Act.put, List.setIfInBounds_toArray, List.set_cons_zero, List.set_cons_succ])
                  refine' wpAnyH_take (i := 13) (v := _) rfl (by kernel_rfl) (by kernel_rfl) (by kernel_rfl) (fun _ _ _ h => h) (Or.inl ⟨by rfl, ?taz12⟩) (by assumption) ?tbz12
                  case taz12 =>
                    intro wS hSw
                    (try dsimp only at hSw)
                    go_simp
                    (try (with_reducible rfl))
                  (try simp only [List.getElem_toArray, List.getElem_cons_zero, List.getElem_cons_succ, Act.put, List.setIfInBounds_toArray, List.set_cons_zero, List.set_cons_succ])
                  refine wpAnyH_ready (rs := [11]) (by kernel_rfl) (by simp) ?_
                  refine AllReadyH.cons rfl (fun K9 hK9 => ?_) AllReadyH.nil
                  (try simp only [List.getElem_toArray, List.getElem_cons_zero, List.getElem_cons_succ])
                  go_simp
                  refine HL5.out.mono ?_
                  rintro en w6 ⟨A6, c6, rfl, hcs6, hb6⟩
                  have hdc6 : w6.cell? ⟨gr, og + k, none⟩ = some (.slice Ad d.length cd) := (hb6.cell (p := ⟨gr, og + k, none⟩) (by show gr < w5.heap.size; omega)).trans hdc5
                  have hec6 : w6.cell? ⟨gr, og + (k + 1), none⟩ = some (.slice Ae e.length ce) := (hb6.cell (p := ⟨gr, og + (k + 1), none⟩) (by show gr < w5.heap.size; omega)).trans hec5
                  have kb6 := kb5.drew.below hb6 kb5.drew.lt
                  have HB6 := Lib.hid (HB5.out.drew.trans ((hb6.mono (show w2.heap.size ≤ w5.drew.heap.size from HB5.out.size))))
                  have HCS := Lib.hid hcs6
                  have hcl : cs.length ≤ 9223372036854775807 := by
                    obtain ⟨_, _, _, _, hmm⟩ := hcs6.form
                    rw [length_ints] at *
                    unfold maxLen at hmm
                    omega
                  dsimp only
                  clear hcs6 hb6
                  refine hK9.out _ _ (⟨hdc6, hec6, kb6.cell 0, kb6.cell 1, kb6.cell 2, kb6.cell 3, kb6.cell 4, kb6.cell 5, kb6.cell 6⟩) (fun hHeld9 => ?_)
                  clear hK9 K9
                  (try simp only [List.getElem_toArray, List.getElem_cons_zero, List.getElem_cons_succ, Act.put, List.setIfInBounds_toArray, List.set_cons_zero, List.set_cons_succ])
                  refine' wpAnyH_take (i := 12) (v := _) rfl (by kernel_rfl) (by kernel_rfl) (by kernel_rfl) (fun _ _ _ h => h) (Or.inl ⟨by rfl, ?taz13⟩) (by assumption) ?tbz13
                  case taz13 =>
                    intro wS hSw
                    (try dsimp only at hSw)
                    go_simp
                    (try (with_reducible rfl))
                  (try simp only [List.getElem_toArray, List.getElem_cons_zero, List.getElem_cons_succ, Act.put, List.setIfInBounds_toArray, List.set_cons_zero, List.set_cons_succ])
                  refine wpAnyH_done (by kernel_rfl) ?_ _
                  clear kb5 hdc5 hec5 hHeld hHeld9 hm1 hm2
                  go_wp2_with fail
                  go_loop [104, 9] (fun i lgv => ∃ (j : Nat) (lg' : Int), j ≤ cs.length ∧ i = .int .i64 j ∧ lgv = .int .i64 lg' ∧ Hid (goC true cs lg = goC true (cs.drop j) lg')) (fun i _ => cs.length - (intOf i).toNat)
                  case atStart => exact ⟨0, lg, by omega, rfl, rfl, Lib.hid rfl⟩
                  case round =>
                    obtain ⟨j, lg', hj, rfl, rfl, hgo⟩ := hrel
                    by_cases hjl : j < cs.length
                    · obtain ⟨x', hx⟩ : ∃ x', cs[j]? = some x' := ⟨cs[j], List.getElem?_eq_getElem hjl⟩
                      obtain ⟨gx, ox, hA5, hgx, hxc⟩ := cells_of HCS.out hx
                      subst hA5
                      have HX := Lib.hid hx
                      have i4 : (0 : Int) ≤ (j : Int) := by omega
                      have i5 : (j : Int) < (cs.length : Int) := by omega
                      clear hx hgx
                      go_wp2
                      go_round
                      case rel => exact ⟨j + 1, max lg' x', by omega, by go_num, rfl, Lib.hid (goC_next true cs lg j lg' x' hgo.out HX.out rfl)⟩
                      case measure => simp [intOf]; omega
                    · obtain rfl : j = cs.length := by omega
                      have HG : Hid (goC true cs lg = some lg') := Lib.hid (by have := hgo.out; rw [List.drop_length] at this; exact this)
                      go_wp2
                      go_roundw
                      case rel => exact ⟨k + 1, lg', by omega, by go_num, rfl, HB6.out, Lib.hid (by rw [← hre.out, HRA.out, if_neg (by simp), HG.out]; rfl)⟩
                      case measure => simp [intOf]; omega
                | five h1 h2 h3 h4 =>
                  rw [HDN.out] at h3 h4
                  dsimp only at h3 h4
                  have z3 : 0 < ws.length := h3
                  have z4 : decide (0 < (ws.length : Int)) = true := by simp; omega
                  rw [h4] at HMD
                  have HX : Hid (r = 0) := Lib.hid (by rw [← hre.out, HRA.out]; rfl)
                  go_wp2_with (first
                    | (go_at_call 37; (with_reducible refine HS1.out.mono ?_); rintro en w7 ⟨rfl, rfl⟩)
                    | (go_at_call 37; (with_reducible refine HS2.out.mono ?_); rintro en w7 ⟨rfl, rfl⟩)
                    | (go_at_call 23; (with_reducible refine HMD.out.mono ?_); rintro en w7 ⟨rfl, rfl⟩))
                  go_ret
                  rw [HX.out]
                  exact ⟨rfl, HB2.out.trans (HB5.out.mono hbw)⟩
              · obtain rfl : k = ls.length := by omega
                have HX : Hid (r = lg) := Lib.hid (by rw [← hre.out, List.drop_length]; rfl)
                have HWR := Lib.hid hwr
                clear hwr
                go_wp2
                go_ret
                rw [HX.out]
                exact ⟨rfl, HB2.out.trans (HWR.out.mono hbw)⟩
    · have HW2 : Hid (r = 0) := Lib.hid (by
        rw [HW.out]
        have : dl ≠ [dl.headD 0] := fun h => h1 (by rw [h]; rfl)
        rw [if_pos this]
        split <;> rfl)
      have tl : ((dl.length : Int) != 1) = true := by simp; omega
      clear h1 HW
      go_enter Try.func18, Try.ntmps18
      go_wp2_with fail
      refine HC.out.mono ?_
      rintro en w2 ⟨A2, c2, rfl, hrows, hb2⟩
      have HB2 := Lib.hid (HB0.out.trans (hb2.mono (by omega)))
      have K2 := Lib.hid (KB.out.below hb2 hsz)
      dsimp only at hrows ⊢
      have HRW := Lib.hid hrows
      obtain ⟨gr, og, c3, A3, c4, e1, hgr, hcl1, hrl⟩ := hrows.at_ HDL.out
      injection e1 with e1 _ e3
      subst e1 e3
      rw [HML.out]
      have HRL := Lib.hid hrl
      clear hb2 hrows hrl
      go_wp2
      go_ret
      rw [HW2.out]
      exact ⟨rfl, HB2.out⟩
end Go.Proofs.Ytkileiikffomlaa
