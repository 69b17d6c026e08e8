/- Contract of check.walk. -/
import Derived.Test.YtkileiikffomlaaNetSums
namespace Go.Proofs.Ytkileiikffomlaa
open Go.RowKit
set_option linter.unusedVariables false
set_option linter.unusedSimpArgs false

theorem run_max_net {P : Program} {w : World} (ts : Array TypeId) (t : TypeId) (x y : Int) : (Builtin.max_ ts t #[.int .i64 x, .int .i64 y]).run P w = .ok (.int .i64 (max x y)) w := by
  rw [run_max_int2]
  congr 2
  omega
attribute [local go_sem high] run_max_net
/-- three numbers -/
def Three (w : World) (r : Int × Int × Int) (en : Ending) (w' : World) : Prop := en = .returned (.tuple #[.int .i64 r.1, .int .i64 r.2.1, .int .i64 r.2.2]) ∧ Below w.heap.size w w'
theorem goC_next (flag : Bool) : ∀ (cs : List Int) (lg0 : Int) (j : Nat) (lg x : Int), goC flag cs lg0 = goC flag (cs.drop j) lg → cs[j]? = some x → (flag || fitsI x) = true → goC flag cs lg0 = goC flag (cs.drop (j + 1)) (max lg x) := by
  intro cs lg0 j lg x h hx hf
  have hj := (List.getElem?_eq_some_iff.1 hx).1
  have hx' : cs[j] = x := (List.getElem?_eq_some_iff.1 hx).2
  rw [h, List.drop_eq_getElem_cons hj, hx', goC, if_pos hf]
theorem goC_stop (flag : Bool) (cs : List Int) (lg0 : Int) (j : Nat) (lg x : Int) (h : goC flag cs lg0 = goC flag (cs.drop j) lg) (hx : cs[j]? = some x) (hf : (flag || fitsI x) = false) : goC flag cs lg0 = none := by
  have hj := (List.getElem?_eq_some_iff.1 hx).1
  have hx' : cs[j] = x := (List.getElem?_eq_some_iff.1 hx).2
  rw [h, List.drop_eq_getElem_cons hj, hx', goC, if_neg (by rw [hf]; simp)]
/-- how it goes on behind a layer's counts -/
def afterW (flag : Bool) (bt : Int) (ls : List LayV) (rows : List (List Int)) (i : Int) : Option Int → Int × Int × Int
  | none => (0, i + 1, 3)
  | some lg => runW flag bt ls rows (i + 1) lg
theorem runW_cons (flag : Bool) (bt : Int) (l : LayV) (ls : List LayV) (d e : List Int) (rest : List (List Int)) (i lg : Int) :
    runW flag bt (l :: ls) (d :: e :: rest) i lg = if overI l d e bt = true then (0, i + 1, 1) else afterW flag bt ls (e :: rest) i (goC flag (sumsI l d e bt).1 lg) := by
  by_cases ho : overI l d e bt = true
  · simp [runW, ho]
  · simp only [Bool.not_eq_true] at ho
    cases hc : goC flag (sumsI l d e bt).1 lg <;> simp [runW, ho, hc, afterW]
theorem runW_at (flag : Bool) (bt : Int) {ls : List LayV} {all : List (List Int)} {k : Nat} {l : LayV} {d e : List Int} (hl : ls[k]? = some l) (hd : all[k]? = some d) (he : all[k + 1]? = some e) (i lg : Int) :
    runW flag bt (ls.drop k) (all.drop k) i lg = if overI l d e bt = true then (0, i + 1, 1) else afterW flag bt (ls.drop (k + 1)) (all.drop (k + 1)) i (goC flag (sumsI l d e bt).1 lg) := by
  have h1 := (List.getElem?_eq_some_iff.1 hl).1
  have h2 := (List.getElem?_eq_some_iff.1 hd).1
  have h3 := (List.getElem?_eq_some_iff.1 he).1
  rw [List.drop_eq_getElem_cons h1, List.drop_eq_getElem_cons h2, List.drop_eq_getElem_cons h3, (List.getElem?_eq_some_iff.1 hl).2, (List.getElem?_eq_some_iff.1 hd).2, (List.getElem?_eq_some_iff.1 he).2, runW_cons]
theorem planesI_three {d e : List Int} {c : Int} {l : LayV} (h : planesI d c l = some e) : e.length = 3 := by
  unfold planesI at h
  split at h
  · split at h
    · cases h
    · injection h with h
      subst h
      rfl
  · cases h

set_option maxHeartbeats 12800000 in
set_option maxRecDepth 100000 in
theorem walk_any (flag : Bool) (a b c : Int) (v : Value) (ls : List LayV) (classes batch : Int) (w : World) (B : Nat) (hB : B ≤ w.heap.size) (h : LaysOf w B v ls) (hcl : inW classes) (hbt : inW batch) (r : Int × Int × Int) (hr : walkI flag a b c ls classes batch = r) :
    Calls Try.prog 34 #[.agg #[.int .i64 a, .int .i64 b, .int .i64 c, v], .int .i64 classes, .int .i64 batch, .bool flag] w (Three w r) := by
  obtain ⟨A, cc, rfl⟩ := h.form
  have hlen := h.len
  have HL := Lib.hid h
  have HR := Lib.hid hr
  have hb0 := net_one w (.cells #[.int .i64 a, .int .i64 b, .int .i64 c, .slice A ls.length cc] 25)
  have HB0 := Lib.hid hb0
  have hsz : w.heap.size < (w.alloc (.cells #[.int .i64 a, .int .i64 b, .int .i64 c, .slice A ls.length cc] 25)).heap.size := by simp
  have KB := Lib.hid (Blk.fresh w 25 [.int .i64 a, .int .i64 b, .int .i64 c, .slice A ls.length cc])
  have HSH : Hid (∀ res, shapesM a b c ls = res → Calls Try.prog 12 #[.agg #[.int .i64 a, .int .i64 b, .int .i64 c, .slice A ls.length cc]] (w.alloc (.cells #[.int .i64 a, .int .i64 b, .int .i64 c, .slice A ls.length cc] 25)) (Shaped (w.alloc (.cells #[.int .i64 a, .int .i64 b, .int .i64 c, .slice A ls.length cc] 25)) res)) :=
    Lib.hid (fun res hres => shapes_any a b c _ ls _ B (by omega) (HL.out.below (HB0.out.mono hB)) res hres)
  clear h hr hb0
  rcases shapesM_cases a b c ls with ⟨hs, hm⟩ | ⟨n, hs, hn1, hn2, hm⟩ | ⟨all, hs, hok⟩
  · have HC := Lib.hid (HSH.out _ hs)
    have HW : Hid (r = (0, 0, 1)) := Lib.hid (by rw [← HR.out]; unfold walkI; rw [hs]; rfl)
    clear hs hm
    go_enter Try.func34, Try.ntmps34
    go_wp2_with fail
    refine HC.out.mono ?_
    rintro en w2 ⟨A2, c2, rfl, hrows, hb2⟩
    have HB2 := Lib.hid (HB0.out.trans (hb2.mono (by omega)))
    clear hb2 hrows
    dsimp only
    go_wp2
    refine bodyPost_ret (v := .tuple #[.int .i64 0, .int .i64 0, .int .i64 1]) (by simp [results, Try.results34, go_sem]) rfl ?_
    rw [HW.out]
    exact ⟨rfl, HB2.out⟩
  · have HC := Lib.hid (HSH.out _ hs)
    have HW : Hid (r = (0, n, 2)) := Lib.hid (by rw [← HR.out]; unfold walkI; rw [hs]; rfl)
    clear hs hm
    go_enter Try.func34, Try.ntmps34
    go_wp2_with fail
    refine HC.out.mono ?_
    rintro en w2 ⟨A2, c2, rfl, hrows, hb2⟩
    have HB2 := Lib.hid (HB0.out.trans (hb2.mono (by omega)))
    clear hb2 hrows
    dsimp only
    go_wp2
    refine bodyPost_ret (v := .tuple #[.int .i64 0, .int .i64 n, .int .i64 2]) (by simp [results, Try.results34, go_sem]) rfl ?_
    rw [HW.out]
    exact ⟨rfl, HB2.out⟩
  · have HC := Lib.hid (HSH.out _ hs)
    have hml := hok.len
    obtain ⟨hm1, hm2, hm3⟩ := mayM_parts hok.may
    obtain ⟨hl1, hl12⟩ := hm2
    have HOK := Lib.hid hok
    have HME := Lib.hid hm3
    have HML := Lib.hid hml
    have HW : Hid (r = if boundsI classes batch = false then (0, 0, 1) else if lastI all ≠ [classes] then (0, (ls.length : Int), 2) else runW flag batch ls all 0 0) := Lib.hid (by
      rw [← HR.out]
      unfold walkI
      rw [hs]
      simp only [ne_eq, not_true_eq_false, if_false])
    obtain ⟨dl, hdl⟩ : ∃ dl, all[ls.length]? = some dl := ⟨all[ls.length]'(by omega), List.getElem?_eq_getElem (by omega)⟩
    have HDL := Lib.hid hdl
    have HLI : Hid (lastI all = dl) := Lib.hid (by unfold lastI; rw [hml, Nat.add_sub_cancel, List.getD_eq_getElem?_getD, hdl]; rfl)
    have hgl := hok.good ls.length dl hdl
    have HGL := Lib.hid hgl
    clear hs hok hm1 hm3 hdl hgl hml
    by_cases hbd : boundsI classes batch = true
    · have hbb := hbd
      unfold boundsI at hbb
      simp only [Bool.and_eq_true] at hbb
      have hb1 := inI_of hbb.1
      have hb2' := inI_of hbb.2
      obtain ⟨cl0, cl1⟩ := hb1
      obtain ⟨bt0, bt1⟩ := hb2'
      have t1 : decide (classes < 2) = false := by simp; omega
      have t2 : decide (10 < classes) = false := by simp; omega
      have t3 : decide (batch < 1) = false := by simp; omega
      have t4 : decide (8 < batch) = false := by simp; omega
      have HBD := Lib.hid hbd
      clear hbb hbd
      by_cases hlast : dl = [classes]
      · subst hlast
        have HW2 : Hid (r = runW flag batch ls all 0 0) := Lib.hid (by rw [HW.out, if_neg (by rw [HBD.out]; simp), if_neg (by rw [HLI.out]; simp)])
        clear HW
        go_enter Try.func34, Try.ntmps34
        go_wp2_with fail
        refine HC.out.mono ?_
        rintro en w2 ⟨A2, c2, rfl, hrows, hb2⟩
        have HB2 := Lib.hid (HB0.out.trans (hb2.mono (by omega)))
        have K2 := Lib.hid (KB.out.below hb2 hsz)
        dsimp only at hrows ⊢
        have HRW := Lib.hid hrows
        obtain ⟨gr, og, c3, A3, c4, e1, hgr, hcl1, hrl⟩ := hrows.at_ HDL.out
        injection e1 with e1 _ e3
        subst e1 e3
        rw [HML.out]
        have HRL := Lib.hid hrl
        clear hb2 hrows hrl
        obtain ⟨g1, o1, rfl, hg1, hx1⟩ := cells_of (k := 0) (x := classes) HRL.out rfl
        have hx2 : w2.cell? ⟨g1, o1, none⟩ = some (.int .i64 classes) := hx1
        have hcc : (classes != classes) = false := by simp
        have hc11 : ((1 : Int) != 1) = false := by simp
        have k3 : w2.cell? ⟨w.heap.size, 3, none⟩ = some (.slice A ls.length cc) := K2.out.cell 3
        clear hx1
        go_wp2_with fail
        clear hx2 k3 hcl1 hcc hc11
        have HK2 : Hid (w.heap.size ≤ w2.heap.size) := Lib.hid HB2.out.size
        have hbw := HK2.out
        go_loopw [72, 15] (fun i lgv wr => ∃ (k : Nat) (lg : Int), k ≤ ls.length ∧ i = .int .i64 k ∧ lgv = .int .i64 lg ∧ Below w2.heap.size w2 wr ∧ Hid (runW flag batch (ls.drop k) (all.drop k) k lg = r)) (fun i _ _ => ls.length - (intOf i).toNat)
        case atStart => exact ⟨0, 0, by omega, rfl, rfl, Below.refl _ _, Lib.hid (by rw [HW2.out]; rfl)⟩
        case round =>
          obtain ⟨k, lg, hk, rfl, rfl, hwr, hre⟩ := hrel
          by_cases hlt : k < ls.length
          · have hml := HML.out
            obtain ⟨g, o, c', l, e1, hlk, hok, hg, q0, q1, q2, q3, q4, q5, q6⟩ := ((HL.out.below (HB2.out.mono hB)).below (hwr.mono (by omega))).at_ hlt
            injection e1 with e1 _ e3
            subst e1 e3
            obtain ⟨d, hd⟩ : ∃ d, all[k]? = some d := ⟨all[k]'(by omega), List.getElem?_eq_getElem (by omega)⟩
            obtain ⟨e, he⟩ : ∃ e, all[k + 1]? = some e := ⟨all[k + 1]'(by omega), List.getElem?_eq_getElem (by omega)⟩
            have hma := mayLs_at ls 0 k l HME.out hlk
            have hgd := HOK.out.good k d hd
            have hge := HOK.out.good (k + 1) e he
            have hc3 : l.kind = 2 → e.length = 3 := fun h2 => by
              obtain ⟨e', he', hgv⟩ := HOK.out.chain k l d hlk hd
              rw [he] at he'
              injection he' with he'
              subst he'
              unfold givesI at hgv
              rw [if_neg (by omega), if_pos h2] at hgv
              exact planesI_three hgv
            have hra := runW_at flag batch hlk hd he (k : Int) lg
            obtain ⟨g1, o1, c1, Ad, cd, e1, hg1, hdc, hdr⟩ := (HRW.out.below hwr).at_ hd
            injection e1 with e1 _ _
            injection e1 with e1
            injection e1 with e1 e2
            subst e1 e2
            obtain ⟨g1, o1, c1, Ae, ce, e1, hg2, hec, her⟩ := (HRW.out.below hwr).at_ he
            injection e1 with e1 _ _
            injection e1 with e1
            injection e1 with e1 e2
            subst e1 e2
            obtain ⟨x0, x1, x2, x3, x4, x5, x6⟩ := l
            dsimp only at q0 q1 q2 q3 q4 q5 q6 hma hc3
            have hal := net_one wr (.cells #[.int .i64 x0, .int .i64 x1, .int .i64 x2, .int .i64 x3, .int .i64 x4, .int .i64 x5, .bool x6] 43)
            have hwz := hwr.size
            have hdc2 : (wr.alloc (.cells #[.int .i64 x0, .int .i64 x1, .int .i64 x2, .int .i64 x3, .int .i64 x4, .int .i64 x5, .bool x6] 43)).drew.cell? ⟨gr, og + k, none⟩ = some (.slice Ad d.length cd) := (hal.cell (p := ⟨gr, og + k, none⟩) (by show gr < _; omega)).trans hdc
            have hec2 : (wr.alloc (.cells #[.int .i64 x0, .int .i64 x1, .int .i64 x2, .int .i64 x3, .int .i64 x4, .int .i64 x5, .bool x6] 43)).drew.cell? ⟨gr, og + (k + 1), none⟩ = some (.slice Ae e.length ce) := (hal.cell (p := ⟨gr, og + (k + 1), none⟩) (by show gr < _; omega)).trans hec
            have HBL := Lib.hid (hwr.trans (hal.drew.mono hwz))
            have HD := Lib.hid ((hdr.below (hal.mono hwz)).drew)
            have HE := Lib.hid ((her.below (hal.mono hwz)).drew)
            obtain ⟨sm, hsm⟩ : ∃ sm, sumsI ⟨x0, x1, x2, x3, x4, x5, x6⟩ d e batch = sm := ⟨_, rfl⟩
            have HSM := Lib.hid hsm
            have HSU := Lib.hid (sums_any (0 + (k : Int)) x0 x1 x2 x3 x4 x5 x6 d e _ _ batch _ w2.heap.size (by show w2.heap.size ≤ (wr.alloc _).heap.size; simp; omega) HD.out HE.out hgd hge ⟨bt0, bt1⟩ hma hc3 sm hsm)
            obtain ⟨cs, wt⟩ := sm
            have HGD := Lib.hid hgd
            have HGE := Lib.hid hge
            have HRA := Lib.hid hra
            obtain ⟨pd0, pd1⟩ := hgd.prod
            obtain ⟨pe0, pe1⟩ := hge.prod
            have hwk : IntKind.i64.wrap ((k : Int) + 1) = (k : Int) + 1 := IntWalk.i64_in _ (by omega)
            have hwk2 : ((k : Int) + 1).toNat = k + 1 := by omega
            have i1 : 0 ≤ (k : Int) + 1 := by omega
            have i2 : (k : Int) + 1 < (ls.length : Int) + 1 := by omega
            have i3 : (k : Int) < (ls.length : Int) + 1 := by omega
            have kb := (Blk.fresh wr 43 [.int .i64 x0, .int .i64 x1, .int .i64 x2, .int .i64 x3, .int .i64 x4, .int .i64 x5, .bool x6]).drew
            have hpq : 0 ≤ batch * max (prodI d) (prodI e) ∧ batch * max (prodI d) (prodI e) ≤ 8 * 4096 := mul_in2 (by omega) (by omega) (by omega) (by omega)
            have HWM : Hid (IntKind.i64.wrap (batch * max (prodI d) (prodI e)) = batch * max (prodI d) (prodI e)) := Lib.hid (IntWalk.i64_in _ (by omega))
            clear hlk hok hd he hma hgd hge hc3 hra hdc hec hdr her hal hsm hml hwr
            go_wp2_with fail
            refine wp_region_held_drew (S := (fun w' => w'.cell? ⟨gr, og + k, none⟩ = some (.slice Ad d.length cd) ∧ w'.cell? ⟨gr, og + (k + 1), none⟩ = some (.slice Ae e.length ce) ∧ w'.cell? ⟨wr.heap.size, 0, none⟩ = some (.int .i64 x0) ∧ w'.cell? ⟨wr.heap.size, 1, none⟩ = some (.int .i64 x1) ∧ w'.cell? ⟨wr.heap.size, 2, none⟩ = some (.int .i64 x2) ∧ w'.cell? ⟨wr.heap.size, 3, none⟩ = some (.int .i64 x3) ∧ w'.cell? ⟨wr.heap.size, 4, none⟩ = some (.int .i64 x4) ∧ w'.cell? ⟨wr.heap.size, 5, none⟩ = some (.int .i64 x5) ∧ w'.cell? ⟨wr.heap.size, 6, none⟩ = some (.bool x6))) (by kernel_rfl) (⟨hdc2, hec2, kb.cell 0, kb.cell 1, kb.cell 2, kb.cell 3, kb.cell 4, kb.cell 5, kb.cell 6⟩) (fun hHeld => ?_)
            refine' wpAnyH_take (i := 0) (v := _) rfl (by kernel_rfl) (by kernel_rfl) (by kernel_rfl) (fun _ _ _ h => h) (Or.inl ⟨by rfl, ?taq1⟩) (by assumption) ?tbq1
            case taq1 =>
              intro wS hSw
              (try dsimp only at hSw)
              go_simp
              (try (with_reducible rfl))
            (try simp only [List.getElem_toArray, List.getElem_cons_zero, List.getElem_cons_succ, Act.put, List.setIfInBounds_toArray, List.set_cons_zero, List.set_cons_succ])
            refine' wpAnyH_take (i := 1) (v := _) rfl (by kernel_rfl) (by kernel_rfl) (by kernel_rfl) (fun _ _ _ h => h) (Or.inl ⟨by rfl, ?taq2⟩) (by assumption) ?tbq2
            case taq2 =>
              intro wS hSw
              (try dsimp only at hSw)
              go_simp
              (try (with_reducible rfl))
            (try simp only [List.getElem_toArray, List.getElem_cons_zero, List.getElem_cons_succ, Act.put, List.setIfInBounds_toArray, List.set_cons_zero, List.set_cons_succ])
            refine' wpAnyH_take (i := 2) (v := _) rfl (by kernel_rfl) (by kernel_rfl) (by kernel_rfl) (fun _ _ _ h => h) (Or.inl ⟨by rfl, ?taq3⟩) (by assumption) ?tbq3
            case taq3 =>
              intro wS hSw
              (try dsimp only at hSw)
              go_simp
              (try (with_reducible rfl))
            (try simp only [List.getElem_toArray, List.getElem_cons_zero, List.getElem_cons_succ, Act.put, List.setIfInBounds_toArray, List.set_cons_zero, List.set_cons_succ])
            refine' wpAnyH_take (i := 3) (v := _) rfl (by kernel_rfl) (by kernel_rfl) (by kernel_rfl) (fun _ _ _ h => h) (Or.inl ⟨by rfl, ?taq4⟩) (by assumption) ?tbq4
            case taq4 =>
              intro wS hSw
              (try dsimp only at hSw)
              go_simp
              (try (with_reducible rfl))
            (try simp only [List.getElem_toArray, List.getElem_cons_zero, List.getElem_cons_succ, Act.put, List.setIfInBounds_toArray, List.set_cons_zero, List.set_cons_succ])
            refine' wpAnyH_take (i := 4) (v := _) rfl (by kernel_rfl) (by kernel_rfl) (by kernel_rfl) (fun _ _ _ h => h) (Or.inl ⟨by rfl, ?taq5⟩) (by assumption) ?tbq5
            case taq5 =>
              intro wS hSw
              (try dsimp only at hSw)
              go_simp
              (try (with_reducible rfl))
            (try simp only [List.getElem_toArray, List.getElem_cons_zero, List.getElem_cons_succ, Act.put, List.setIfInBounds_toArray, List.set_cons_zero, List.set_cons_succ])
            refine' wpAnyH_take (i := 5) (v := _) rfl (by kernel_rfl) (by kernel_rfl) (by kernel_rfl) (fun _ _ _ h => h) (Or.inl ⟨by rfl, ?taq6⟩) (by assumption) ?tbq6
            case taq6 =>
              intro wS hSw
              (try dsimp only at hSw)
              go_simp
              (try (with_reducible rfl))
            (try simp only [List.getElem_toArray, List.getElem_cons_zero, List.getElem_cons_succ, Act.put, List.setIfInBounds_toArray, List.set_cons_zero, List.set_cons_succ])
            refine' wpAnyH_take (i := 6) (v := _) rfl (by kernel_rfl) (by kernel_rfl) (by kernel_rfl) (fun _ _ _ h => h) (Or.inl ⟨by rfl, ?taq7⟩) (by assumption) ?tbq7
            case taq7 =>
              intro wS hSw
              (try dsimp only at hSw)
              go_simp
              (try (with_reducible rfl))
            (try simp only [List.getElem_toArray, List.getElem_cons_zero, List.getElem_cons_succ, Act.put, List.setIfInBounds_toArray, List.set_cons_zero, List.set_cons_succ])
            refine' wpAnyH_take (i := 7) (v := _) rfl (by kernel_rfl) (by kernel_rfl) (by kernel_rfl) (fun _ _ _ h => h) (Or.inl ⟨by rfl, ?taq8⟩) (by assumption) ?tbq8
            case taq8 =>
              intro wS hSw
              (try dsimp only at hSw)
              go_simp
              (try (with_reducible rfl))
            (try simp only [List.getElem_toArray, List.getElem_cons_zero, List.getElem_cons_succ, Act.put, List.setIfInBounds_toArray, List.set_cons_zero, List.set_cons_succ])
            refine' wpAnyH_take (i := 8) (v := _) rfl (by kernel_rfl) (by kernel_rfl) (by kernel_rfl) (fun _ _ _ h => h) (Or.inl ⟨by rfl, ?taq9⟩) (by assumption) ?tbq9
            case taq9 =>
              intro wS hSw
              (try dsimp only at hSw)
              go_simp
              (try (with_reducible rfl))
            (try simp only [List.getElem_toArray, List.getElem_cons_zero, List.getElem_cons_succ, Act.put, List.setIfInBounds_toArray, List.set_cons_zero, List.set_cons_succ])
            refine' wpAnyH_take (i := 9) (v := _) rfl (by kernel_rfl) (by kernel_rfl) (by kernel_rfl) (fun _ _ _ h => h) (Or.inl ⟨by rfl, ?taq10⟩) (by assumption) ?tbq10
            case taq10 =>
              intro wS hSw
              (try dsimp only at hSw)
              go_simp
              (try (with_reducible rfl))
            (try simp only [List.getElem_toArray, List.getElem_cons_zero, List.getElem_cons_succ, Act.put, List.setIfInBounds_toArray, List.set_cons_zero, List.set_cons_succ])
            refine' wpAnyH_take (i := 10) (v := _) rfl (by kernel_rfl) (by kernel_rfl) (by kernel_rfl) (fun _ _ _ h => h) (Or.inl ⟨by rfl, ?taq11⟩) (by assumption) ?tbq11
            case taq11 =>
              intro wS hSw
              (try dsimp only at hSw)
              go_simp
              (try (with_reducible rfl))
            (try simp only [List.getElem_toArray, List.getElem_cons_zero, List.getElem_cons_succ, Act.put, List.setIfInBounds_toArray, List.set_cons_zero, List.set_cons_succ])
            refine wpAnyH_ready (rs := [11]) (by kernel_rfl) (by simp) ?_
            refine AllReadyH.cons rfl (fun K9 hK9 => ?_) AllReadyH.nil
            (try simp only [List.getElem_toArray, List.getElem_cons_zero, List.getElem_cons_succ])
            go_simp
            refine HSU.out.mono ?_
            rintro en w5 ⟨A5, c5, rfl, hcs, hb5⟩
            have hs5 := hb5.size
            have hzw : ((wr.alloc (.cells #[.int .i64 x0, .int .i64 x1, .int .i64 x2, .int .i64 x3, .int .i64 x4, .int .i64 x5, .bool x6] 43)).drew).heap.size = wr.heap.size + 1 := by show (wr.alloc _).heap.size = _; simp
            have hS5d : w5.cell? ⟨gr, og + k, none⟩ = some (.slice Ad d.length cd) := (hb5.cell (p := ⟨gr, og + k, none⟩) (by show gr < _; omega)).trans hdc2
            have hS5e : w5.cell? ⟨gr, og + (k + 1), none⟩ = some (.slice Ae e.length ce) := (hb5.cell (p := ⟨gr, og + (k + 1), none⟩) (by show gr < _; omega)).trans hec2
            have kb5 := kb.below hb5 (by omega)
            have HB5 := Lib.hid (HBL.out.trans (hb5.mono (by omega)))
            have HD5 := Lib.hid (HD.out.below (hb5.mono (by omega)))
            have HE5 := Lib.hid (HE.out.below (hb5.mono (by omega)))
            dsimp only at hcs ⊢
            clear hb5 hzw
            refine hK9.out _ _ (⟨hS5d, hS5e, kb5.cell 0, kb5.cell 1, kb5.cell 2, kb5.cell 3, kb5.cell 4, kb5.cell 5, kb5.cell 6⟩) (fun hHeld9 => ?_)
            clear hK9 K9
            (try simp only [List.getElem_toArray, List.getElem_cons_zero, List.getElem_cons_succ, Act.put, List.setIfInBounds_toArray, List.set_cons_zero, List.set_cons_succ])
            refine' wpAnyH_take (i := 12) (v := _) rfl (by kernel_rfl) (by kernel_rfl) (by kernel_rfl) (fun _ _ _ h => h) (Or.inl ⟨by rfl, ?taq12⟩) (by assumption) ?tbq12
            case taq12 =>
              intro wS hSw
              (try dsimp only at hSw)
              go_simp
              (try (with_reducible rfl))
            (try simp only [List.getElem_toArray, List.getElem_cons_zero, List.getElem_cons_succ, Act.put, List.setIfInBounds_toArray, List.set_cons_zero, List.set_cons_succ])
            refine' wpAnyH_take (i := 13) (v := _) rfl (by kernel_rfl) (by kernel_rfl) (by kernel_rfl) (fun _ _ _ h => h) (Or.inl ⟨by rfl, ?taq13⟩) (by assumption) ?tbq13
            case taq13 =>
              intro wS hSw
              (try dsimp only at hSw)
              go_simp
              (try (with_reducible rfl))
            (try simp only [List.getElem_toArray, List.getElem_cons_zero, List.getElem_cons_succ, Act.put, List.setIfInBounds_toArray, List.set_cons_zero, List.set_cons_succ])
            refine' wpAnyH_take (i := 14) (v := _) rfl (by kernel_rfl) (by kernel_rfl) (by kernel_rfl) (fun _ _ _ h => h) (Or.inl ⟨by rfl, ?taq14⟩) (by assumption) ?tbq14
            case taq14 =>
              intro wS hSw
              (try dsimp only at hSw)
              go_simp
              (try (with_reducible rfl))
            (try simp only [List.getElem_toArray, List.getElem_cons_zero, List.getElem_cons_succ, Act.put, List.setIfInBounds_toArray, List.set_cons_zero, List.set_cons_succ])
            refine' wpAnyH_take (i := 15) (v := _) rfl (by kernel_rfl) (by kernel_rfl) (by kernel_rfl) (fun _ _ _ h => h) (Or.inl ⟨by rfl, ?taq15⟩) (by assumption) ?tbq15
            case taq15 =>
              intro wS hSw
              (try dsimp only at hSw)
              go_simp
              (try (with_reducible rfl))
            (try simp only [List.getElem_toArray, List.getElem_cons_zero, List.getElem_cons_succ, Act.put, List.setIfInBounds_toArray, List.set_cons_zero, List.set_cons_succ])
            refine' wpAnyH_take (i := 16) (v := _) rfl (by kernel_rfl) (by kernel_rfl) (by kernel_rfl) (fun _ _ _ h => h) (Or.inl ⟨by rfl, ?taq16⟩) (by assumption) ?tbq16
            case taq16 =>
              intro wS hSw
              (try dsimp only at hSw)
              go_simp
              (try (with_reducible rfl))
            (try simp only [List.getElem_toArray, List.getElem_cons_zero, List.getElem_cons_succ, Act.put, List.setIfInBounds_toArray, List.set_cons_zero, List.set_cons_succ])
            refine wpAnyH_done (by kernel_rfl) ?_ _
            clear kb kb5 hdc2 hec2 hHeld9 hHeld hs5
            go_wp2_with fail
            obtain ⟨pq0, pq1⟩ := hpq
            have hwm := HWM.out
            by_cases o1 : 8192 < batch * max (prodI d) (prodI e)
            · have u1 : decide (8192 < batch * max (prodI d) (prodI e)) = true := by simpa using o1
              have HW3 : Hid (r = (0, (k : Int) + 1, 1)) := Lib.hid (by rw [← hre.out, HRA.out, if_pos (by unfold overI; rw [u1]; rfl)])
              clear o1
              go_quiet (first | ((go_at_call 31; exact q_leftN (cprod_any d _ _ _ (HD5.out.drewN _) HGD.out))) | ((go_at_call 31; exact q_leftN (cprod_any e _ _ _ (HE5.out.drewN _) HGE.out))))
              clear hwm hwk hwk2
              go_wp2
              refine bodyPost_ret (v := .tuple #[.int .i64 0, .int .i64 ((k : Int) + 1), .int .i64 1]) (by simp [results, Try.results34, go_sem]) rfl ?_
              rw [HW3.out]
              exact ⟨rfl, HB2.out.trans (net_drewN (HB5.out.mono hbw) _)⟩
            · have u1 : decide (8192 < batch * max (prodI d) (prodI e)) = false := by simpa using o1
              have O1 := Lib.hid u1
              clear o1
              by_cases o2 : 8192 < wt
              · have u2 : decide (8192 < wt) = true := by simpa using o2
                have HW3 : Hid (r = (0, (k : Int) + 1, 1)) := Lib.hid (by rw [← hre.out, HRA.out, if_pos (by unfold overI; rw [HSM.out, u1, u2]; rfl)])
                clear o2
                go_quiet (first | ((go_at_call 31; exact q_leftN (cprod_any d _ _ _ (HD5.out.drewN _) HGD.out))) | ((go_at_call 31; exact q_leftN (cprod_any e _ _ _ (HE5.out.drewN _) HGE.out))))
                clear hwm hwk hwk2
                go_wp2
                refine bodyPost_ret (v := .tuple #[.int .i64 0, .int .i64 ((k : Int) + 1), .int .i64 1]) (by simp [results, Try.results34, go_sem]) rfl ?_
                rw [HW3.out]
                exact ⟨rfl, HB2.out.trans (net_drewN (HB5.out.mono hbw) _)⟩
              · have u2 : decide (8192 < wt) = false := by simpa using o2
                have HW3 : Hid (r = afterW flag batch (ls.drop (k + 1)) (all.drop (k + 1)) k (goC flag cs lg)) := Lib.hid (by rw [← hre.out, HRA.out, if_neg (by unfold overI; rw [HSM.out, u1, u2]; simp), HSM.out])
                clear o2
                go_quiet (first | ((go_at_call 31; exact q_leftN (cprod_any d _ _ _ (HD5.out.drewN _) HGD.out))) | ((go_at_call 31; exact q_leftN (cprod_any e _ _ _ (HE5.out.drewN _) HGE.out))))
                clear hwm hwk hwk2 u1 u2
                go_wp2_with fail
                have HB6 := Lib.hid (net_drewN HB5.out nq)
                have HCS := Lib.hid (hcs.drewN nq)
                have hcl : cs.length ≤ 9223372036854775807 := by
                  obtain ⟨_, _, _, _, hmm⟩ := hcs.form
                  rw [length_ints] at *
                  unfold maxLen at hmm
                  omega
                clear hcs hS5d hS5e
                go_loop [115, 15] (fun i lgv => ∃ (j : Nat) (lg' : Int), j ≤ cs.length ∧ i = .int .i64 j ∧ lgv = .int .i64 lg' ∧ Hid (goC flag cs lg = goC flag (cs.drop j) lg')) (fun i _ => cs.length - (intOf i).toNat)
                case atStart => exact ⟨0, lg, by omega, rfl, rfl, Lib.hid rfl⟩
                case round =>
                  obtain ⟨j, lg', hj, rfl, rfl, hgo⟩ := hrel
                  by_cases hjl : j < cs.length
                  · obtain ⟨x, hx⟩ : ∃ x, cs[j]? = some x := ⟨cs[j], List.getElem?_eq_getElem hjl⟩
                    obtain ⟨gx, ox, hA5, hgx, hxc⟩ := cells_of HCS.out hx
                    subst hA5
                    have HX := Lib.hid hx
                    have i4 : (0 : Int) ≤ (j : Int) := by omega
                    have i5 : (j : Int) < (cs.length : Int) := by omega
                    clear hx hgx
                    cases flag with
                    | true =>
                      go_wp2
                      go_round
                      case rel => exact ⟨j + 1, max lg' x, by omega, by go_num, rfl, Lib.hid (goC_next true cs lg j lg' x hgo.out HX.out rfl)⟩
                      case measure => simp [intOf]; omega
                    | false =>
                      obtain ⟨fb, hfb⟩ : ∃ fb, fitsI x = fb := ⟨_, rfl⟩
                      have HF := Lib.hid (fits_any x fb hfb)
                      have HFB := Lib.hid hfb
                      clear hfb
                      cases fb with
                      | true =>
                        go_wp2_with (go_at_call 19; refine (HF.out _).mono ?_; rintro en w7 ⟨rfl, rfl⟩)
                        go_round
                        case rel => exact ⟨j + 1, max lg' x, by omega, by go_num, rfl, Lib.hid (goC_next false cs lg j lg' x hgo.out HX.out (by rw [HFB.out]; rfl))⟩
                        case measure => simp [intOf]; omega
                      | false =>
                        have HN : Hid (goC false cs lg = none) := Lib.hid (goC_stop false cs lg j lg' x hgo.out HX.out (by rw [HFB.out]; rfl))
                        go_wp2_with (go_at_call 19; refine (HF.out _).mono ?_; rintro en w7 ⟨rfl, rfl⟩)
                        refine bodyPost_ret (v := .tuple #[.int .i64 0, .int .i64 ((k : Int) + 1), .int .i64 3]) (by simp [results, Try.results34, go_sem]) rfl ?_
                        rw [HW3.out, HN.out]
                        exact ⟨rfl, HB2.out.trans (HB6.out.mono hbw)⟩
                  · obtain rfl : j = cs.length := by omega
                    have HG : Hid (goC flag cs lg = some lg') := Lib.hid (by have := hgo.out; rw [List.drop_length] at this; exact this)
                    go_wp2
                    go_roundw
                    case rel => exact ⟨_, _, _, .int .i64 lg', _, _, _, _, _, .int .i64 ((k : Int) + 1), ⟨k + 1, by omega, by go_num, lg', rfl, HB6.out, Lib.hid (by rw [HW3.out, HG.out]; rfl)⟩, rfl, rfl, rfl, rfl, rfl, rfl, rfl, rfl, rfl, rfl⟩
                    case measure => simp [intOf]; omega
          · obtain rfl : k = ls.length := by omega
            have HX : Hid (r = (lg, 0, 0)) := Lib.hid (by rw [← hre.out, List.drop_length]; rfl)
            have HWR := Lib.hid hwr
            clear hwr
            go_wp2
            refine bodyPost_ret (v := .tuple #[.int .i64 lg, .int .i64 0, .int .i64 0]) (by simp [results, Try.results34, go_sem]) rfl ?_
            rw [HX.out]
            exact ⟨rfl, HB2.out.trans (HWR.out.mono hbw)⟩
      · have HW2 : Hid (r = (0, (ls.length : Int), 2)) := Lib.hid (by rw [HW.out, if_neg (by rw [HBD.out]; simp), if_pos (by rw [HLI.out]; exact hlast)])
        clear HW
        by_cases h1 : dl.length = 1
        · match dl, h1 with
          | [x], _ =>
            have hxc : (x != classes) = true := by simpa using hlast
            clear hlast
            simp only [List.length_cons, List.length_nil, Nat.zero_add] at *
            go_enter Try.func34, Try.ntmps34
            go_wp2_with fail
            refine HC.out.mono ?_
            rintro en w2 ⟨A2, c2, rfl, hrows, hb2⟩
            have HB2 := Lib.hid (HB0.out.trans (hb2.mono (by omega)))
            have K2 := Lib.hid (KB.out.below hb2 hsz)
            dsimp only at hrows ⊢
            have HRW := Lib.hid hrows
            obtain ⟨gr, og, c3, A3, c4, e1, hgr, hcl1, hrl⟩ := hrows.at_ HDL.out
            injection e1 with e1 _ e3
            subst e1 e3
            rw [HML.out]
            have HRL := Lib.hid hrl
            clear hb2 hrows hrl
            obtain ⟨g1, o1, rfl, hg1, hx1⟩ := cells_of (k := 0) (x := x) HRL.out rfl
            have hx2 : w2.cell? ⟨g1, o1, none⟩ = some (.int .i64 x) := hx1
            clear hx1
            go_wp2
            refine bodyPost_ret (v := .tuple #[.int .i64 0, .int .i64 (ls.length : Int), .int .i64 2]) (by simp [results, Try.results34, go_sem]) rfl ?_
            rw [HW2.out]
            exact ⟨rfl, HB2.out⟩
        · have tl : ((dl.length : Int) != 1) = true := by simp; omega
          clear h1 hlast
          go_enter Try.func34, Try.ntmps34
          go_wp2_with fail
          refine HC.out.mono ?_
          rintro en w2 ⟨A2, c2, rfl, hrows, hb2⟩
          have HB2 := Lib.hid (HB0.out.trans (hb2.mono (by omega)))
          have K2 := Lib.hid (KB.out.below hb2 hsz)
          dsimp only at hrows ⊢
          have HRW := Lib.hid hrows
          obtain ⟨gr, og, c3, A3, c4, e1, hgr, hcl1, hrl⟩ := hrows.at_ HDL.out
          injection e1 with e1 _ e3
          subst e1 e3
          rw [HML.out]
          have HRL := Lib.hid hrl
          clear hb2 hrows hrl
          go_wp2
          refine bodyPost_ret (v := .tuple #[.int .i64 0, .int .i64 (ls.length : Int), .int .i64 2]) (by simp [results, Try.results34, go_sem]) rfl ?_
          rw [HW2.out]
          exact ⟨rfl, HB2.out⟩
    · have HW2 : Hid (r = (0, 0, 1)) := Lib.hid (by rw [HW.out, if_pos (by simpa using hbd)])
      have hor : classes < 2 ∨ (2 ≤ classes ∧ 10 < classes) ∨ (2 ≤ classes ∧ classes ≤ 10 ∧ batch < 1) ∨ (2 ≤ classes ∧ classes ≤ 10 ∧ 1 ≤ batch ∧ 8 < batch) := by
        unfold boundsI inI at hbd
        simp only [Bool.and_eq_true, decide_eq_true_eq] at hbd
        omega
      clear HW hbd
      rcases hor with h1 | ⟨h0, h1⟩ | ⟨h0, h2, h1⟩ | ⟨h0, h2, h3, h1⟩
      · have t1 : decide (classes < 2) = true := by simp; omega
        go_enter Try.func34, Try.ntmps34
        go_wp2_with fail
        refine HC.out.mono ?_
        rintro en w2 ⟨A2, c2, rfl, hrows, hb2⟩
        have HB2 := Lib.hid (HB0.out.trans (hb2.mono (by omega)))
        have K2 := Lib.hid (KB.out.below hb2 hsz)
        dsimp only at hrows ⊢
        have HRW := Lib.hid hrows
        obtain ⟨gr, og, c3, A3, c4, e1, hgr, hcl1, hrl⟩ := hrows.at_ HDL.out
        injection e1 with e1 _ e3
        subst e1 e3
        rw [HML.out]
        have HRL := Lib.hid hrl
        clear hb2 hrows hrl
        go_wp2
        refine bodyPost_ret (v := .tuple #[.int .i64 0, .int .i64 0, .int .i64 1]) (by simp [results, Try.results34, go_sem]) rfl ?_
        rw [HW2.out]
        exact ⟨rfl, HB2.out⟩
      · have t1 : decide (classes < 2) = false := by simp; omega
        have t2 : decide (10 < classes) = true := by simp; omega
        go_enter Try.func34, Try.ntmps34
        go_wp2_with fail
        refine HC.out.mono ?_
        rintro en w2 ⟨A2, c2, rfl, hrows, hb2⟩
        have HB2 := Lib.hid (HB0.out.trans (hb2.mono (by omega)))
        have K2 := Lib.hid (KB.out.below hb2 hsz)
        dsimp only at hrows ⊢
        have HRW := Lib.hid hrows
        obtain ⟨gr, og, c3, A3, c4, e1, hgr, hcl1, hrl⟩ := hrows.at_ HDL.out
        injection e1 with e1 _ e3
        subst e1 e3
        rw [HML.out]
        have HRL := Lib.hid hrl
        clear hb2 hrows hrl
        go_wp2
        refine bodyPost_ret (v := .tuple #[.int .i64 0, .int .i64 0, .int .i64 1]) (by simp [results, Try.results34, go_sem]) rfl ?_
        rw [HW2.out]
        exact ⟨rfl, HB2.out⟩
      · have t1 : decide (classes < 2) = false := by simp; omega
        have t2 : decide (10 < classes) = false := by simp; omega
        have t3 : decide (batch < 1) = true := by simp; omega
        go_enter Try.func34, Try.ntmps34
        go_wp2_with fail
        refine HC.out.mono ?_
        rintro en w2 ⟨A2, c2, rfl, hrows, hb2⟩
        have HB2 := Lib.hid (HB0.out.trans (hb2.mono (by omega)))
        have K2 := Lib.hid (KB.out.below hb2 hsz)
        dsimp only at hrows ⊢
        have HRW := Lib.hid hrows
        obtain ⟨gr, og, c3, A3, c4, e1, hgr, hcl1, hrl⟩ := hrows.at_ HDL.out
        injection e1 with e1 _ e3
        subst e1 e3
        rw [HML.out]
        have HRL := Lib.hid hrl
        clear hb2 hrows hrl
        go_wp2
        refine bodyPost_ret (v := .tuple #[.int .i64 0, .int .i64 0, .int .i64 1]) (by simp [results, Try.results34, go_sem]) rfl ?_
        rw [HW2.out]
        exact ⟨rfl, HB2.out⟩
      · have t1 : decide (classes < 2) = false := by simp; omega
        have t2 : decide (10 < classes) = false := by simp; omega
        have t3 : decide (batch < 1) = false := by simp; omega
        have t4 : decide (8 < batch) = true := by simp; omega
        go_enter Try.func34, Try.ntmps34
        go_wp2_with fail
        refine HC.out.mono ?_
        rintro en w2 ⟨A2, c2, rfl, hrows, hb2⟩
        have HB2 := Lib.hid (HB0.out.trans (hb2.mono (by omega)))
        have K2 := Lib.hid (KB.out.below hb2 hsz)
        dsimp only at hrows ⊢
        have HRW := Lib.hid hrows
        obtain ⟨gr, og, c3, A3, c4, e1, hgr, hcl1, hrl⟩ := hrows.at_ HDL.out
        injection e1 with e1 _ e3
        subst e1 e3
        rw [HML.out]
        have HRL := Lib.hid hrl
        clear hb2 hrows hrl
        go_wp2
        refine bodyPost_ret (v := .tuple #[.int .i64 0, .int .i64 0, .int .i64 1]) (by simp [results, Try.results34, go_sem]) rfl ?_
        rw [HW2.out]
        exact ⟨rfl, HB2.out⟩
end Go.Proofs.Ytkileiikffomlaa
