/- Contract of the reference's Net. -/
import Derived.Test.YtkileiikffomlaaNetRPlain
import Derived.Test.YtkileiikffomlaaNetRShapes
import Derived.Test.YtkileiikffomlaaNetROut
import Derived.Test.YtkileiikffomlaaNetWalk
namespace Go.Proofs.Ytkileiikffomlaa
open Go.RowKit
set_option linter.unusedVariables false
attribute [local go_sem high] run_max_net

/-- a number, and two that are known -/
def Trio (w : World) (r : Int × Int) (en : Ending) (w' : World) : Prop := ∃ lg, en = .returned (.tuple #[.int .i64 lg, .int .i64 r.1, .int .i64 r.2]) ∧ Below w.heap.size w w'
section
variable {r : Int × Int} {bad bt k : Int} {ls : List LayV} {rows : List (List Int)} {cs : List Int} {j : Nat} {x : Int}
theorem goC_at (flag : Bool) (hx : cs[j]? = some x) (lg : Int) : goC flag (cs.drop j) lg = if (flag || fitsI x) = true then goC flag (cs.drop (j + 1)) (max lg x) else none := by
  have hj := (List.getElem?_eq_some_iff.1 hx).1
  rw [List.drop_eq_getElem_cons hj, (List.getElem?_eq_some_iff.1 hx).2, goC]
theorem RSt.fits (h : RSt r bad (fun y => afterW false bt ls rows k (goC false (cs.drop j) y))) (hx : cs[j]? = some x) (hf : fitsI x = true) : RSt r bad (fun y => afterW false bt ls rows k (goC false (cs.drop (j + 1)) y)) := by
  rcases h with h | ⟨h0, lg, h1⟩
  · exact .inl h
  · refine .inr ⟨h0, max lg x, ?_⟩
    dsimp only at h1 ⊢
    rw [goC_at false hx, if_pos (by rw [hf]; rfl)] at h1
    exact h1
theorem RSt.keep {f g : Int → Int × Int × Int} (h : RSt r bad f) (hb : 0 < bad) : RSt r bad g := by
  rcases h with h | ⟨h0, lg, h1⟩
  · exact .inl h
  · omega
theorem RSt.stop {g : Int → Int × Int × Int} (hk : 0 ≤ k) (h : RSt r 0 (fun y => afterW false bt ls rows k (goC false (cs.drop j) y))) (hx : cs[j]? = some x) (hf : fitsI x = false) : RSt r (k + 1) g := by
  rcases h with h | ⟨h0, lg, h1⟩
  · have := h.1; omega
  · refine .inl ⟨by omega, ?_⟩
    dsimp only at h1
    rw [goC_at false hx, if_neg (by rw [hf]; simp)] at h1
    exact h1.symm
end
theorem RSt.enter {r : Int × Int} {bad bt : Int} {ls : List LayV} {all : List (List Int)} {k : Nat} {l : LayV} {d e : List Int} (h : RSt r bad (fun x => runW false bt (ls.drop k) (all.drop k) k x)) (hl : ls[k]? = some l) (hd : all[k]? = some d) (he : all[k + 1]? = some e) :
    RSt r bad (fun x => if overI l d e bt = true then (0, (k : Int) + 1, 1) else afterW false bt (ls.drop (k + 1)) (all.drop (k + 1)) k (goC false (sumsI l d e bt).1 x)) := by
  rcases h with h | ⟨h0, lg, h1⟩
  · exact .inl h
  · refine .inr ⟨h0, lg, ?_⟩
    dsimp only at h1 ⊢
    rw [runW_at false bt hl hd he] at h1
    exact h1
set_option maxHeartbeats 12800000 in
set_option maxRecDepth 100000 in
theorem rnet_any (a b c : Int) (v : Value) (ls : List LayV) (classes batch : Int) (w : World) (B : Nat) (hB : B ≤ w.heap.size) (h : LaysOf w B v ls) (hcl : inW classes) (hbt : inW batch) (r : Int × Int) (hr : (walkI false a b c ls classes batch).2 = r) :
    Calls Try.prog 16 #[.agg #[.int .i64 a, .int .i64 b, .int .i64 c, v], .int .i64 classes, .int .i64 batch] w (Trio w r) := by
  obtain ⟨A, cc, rfl⟩ := h.form
  have hlen := h.len
  have HL := Lib.hid h
  have HR := Lib.hid hr
  have hb0 := net_one w (.cells #[.int .i64 a, .int .i64 b, .int .i64 c, .slice A ls.length cc] 25)
  have HB0 := Lib.hid hb0
  have hsz : w.heap.size < (w.alloc (.cells #[.int .i64 a, .int .i64 b, .int .i64 c, .slice A ls.length cc] 25)).heap.size := by simp
  have KB := Lib.hid (Blk.fresh w 25 [.int .i64 a, .int .i64 b, .int .i64 c, .slice A ls.length cc])
  have HSH : Hid (∀ res, shapesM a b c ls = res → Calls Try.prog 13 #[.agg #[.int .i64 a, .int .i64 b, .int .i64 c, .slice A ls.length cc]] (w.alloc (.cells #[.int .i64 a, .int .i64 b, .int .i64 c, .slice A ls.length cc] 25)) (Shaped (w.alloc (.cells #[.int .i64 a, .int .i64 b, .int .i64 c, .slice A ls.length cc] 25)) res)) :=
    Lib.hid (fun res hres => rshapesN_any a b c _ ls _ B (by omega) (HL.out.below (HB0.out.mono hB)) res hres)
  clear h hr hb0
  rcases shapesM_cases a b c ls with ⟨hs, hm⟩ | ⟨n, hs, hn1, hn2, hm⟩ | ⟨all, hs, hok⟩
  · have HC := Lib.hid (HSH.out _ hs)
    have HW : Hid (r = (0, 1)) := Lib.hid (by rw [← HR.out]; unfold walkI; rw [hs]; rfl)
    clear hs hm
    go_enter Try.func16, Try.ntmps16
    go_wp2_with fail
    refine HC.out.mono ?_
    rintro en w2 ⟨A2, c2, rfl, hrows, hb2⟩
    have HB2 := Lib.hid (HB0.out.trans (hb2.mono (by omega)))
    clear hb2 hrows
    dsimp only
    go_wp2
    refine bodyPost_ret (v := .tuple #[.int .i64 0, .int .i64 0, .int .i64 1]) (by simp [results, Try.results16, go_sem]) rfl ?_
    rw [HW.out]
    exact ⟨_, rfl, HB2.out⟩
  · have HC := Lib.hid (HSH.out _ hs)
    have HW : Hid (r = (n, 2)) := Lib.hid (by rw [← HR.out]; unfold walkI; rw [hs]; rfl)
    clear hs hm
    go_enter Try.func16, Try.ntmps16
    go_wp2_with fail
    refine HC.out.mono ?_
    rintro en w2 ⟨A2, c2, rfl, hrows, hb2⟩
    have HB2 := Lib.hid (HB0.out.trans (hb2.mono (by omega)))
    clear hb2 hrows
    dsimp only
    go_wp2
    refine bodyPost_ret (v := .tuple #[.int .i64 0, .int .i64 n, .int .i64 2]) (by simp [results, Try.results16, go_sem]) rfl ?_
    rw [HW.out]
    exact ⟨_, rfl, HB2.out⟩
  · have HC := Lib.hid (HSH.out _ hs)
    have hml := hok.len
    obtain ⟨hm1, hm2, hm3⟩ := mayM_parts hok.may
    obtain ⟨hl1, hl12⟩ := hm2
    have HOK := Lib.hid hok
    have HME := Lib.hid hm3
    have HML := Lib.hid hml
    have HW : Hid (r = (if boundsI classes batch = false then ((0 : Int), (0 : Int), (1 : Int)) else if lastI all ≠ [classes] then (0, (ls.length : Int), 2) else runW false batch ls all 0 0).2) := Lib.hid (by
      rw [← HR.out]
      unfold walkI
      rw [hs]
      simp only [ne_eq, not_true_eq_false, if_false])
    obtain ⟨dl, hdl⟩ : ∃ dl, all[ls.length]? = some dl := ⟨all[ls.length]'(by omega), List.getElem?_eq_getElem (by omega)⟩
    have HDL := Lib.hid hdl
    have HLI : Hid (lastI all = dl) := Lib.hid (by unfold lastI; rw [hml, Nat.add_sub_cancel, List.getD_eq_getElem?_getD, hdl]; rfl)
    clear hs hok hm1 hm3 hdl hml
    obtain ⟨ib1, hib1⟩ : ∃ ib, inI classes 2 10 = ib := ⟨_, rfl⟩
    obtain ⟨ib2, hib2⟩ : ∃ ib, inI batch 1 8 = ib := ⟨_, rfl⟩
    have HI1 := Lib.hid (rin_any classes 2 10 ib1 hib1)
    have HI2 := Lib.hid (rin_any batch 1 8 ib2 hib2)
    have HBD : Hid (boundsI classes batch = (ib1 && ib2)) := Lib.hid (by unfold boundsI; rw [hib1, hib2])
    have HIB2 := Lib.hid hib2
    clear hib1 hib2
    by_cases hb : ib1 = false
    · subst hb
      have HW2 : Hid (r = (0, 1)) := Lib.hid (by rw [HW.out, if_pos (by rw [HBD.out]; rfl)])
      clear HW
      go_enter Try.func16, Try.ntmps16
      go_wp2_with fail
      refine HC.out.mono ?_
      rintro en w2 ⟨A2, c2, rfl, hrows, hb2⟩
      have HB2 := Lib.hid (HB0.out.trans (hb2.mono (by omega)))
      have K2 := Lib.hid (KB.out.below hb2 hsz)
      dsimp only at hrows ⊢
      have HRW := Lib.hid hrows
      obtain ⟨gr, og, c3, A3, c4, e1, hgr, hcl1, hrl⟩ := hrows.at_ HDL.out
      injection e1 with e1 _ e3
      subst e1 e3
      rw [HML.out]
      have HRL := Lib.hid hrl
      clear hb2 hrows hrl
      go_wp2_with (first
        | (go_at_call 35; (with_reducible refine (HI1.out _).mono ?_); rintro en w7 ⟨rfl, rfl⟩)
        | (go_at_call 35; (with_reducible refine (HI2.out _).mono ?_); rintro en w7 ⟨rfl, rfl⟩))
      refine bodyPost_ret (v := .tuple #[.int .i64 0, .int .i64 0, .int .i64 1]) (by simp [results, Try.results16, go_sem]) rfl ?_
      rw [HW2.out]
      exact ⟨_, rfl, HB2.out⟩
    · simp only [Bool.not_eq_false] at hb
      subst hb
      by_cases hb : ib2 = false
      · subst hb
        have HW2 : Hid (r = (0, 1)) := Lib.hid (by rw [HW.out, if_pos (by rw [HBD.out]; rfl)])
        clear HW
        go_enter Try.func16, Try.ntmps16
        go_wp2_with fail
        refine HC.out.mono ?_
        rintro en w2 ⟨A2, c2, rfl, hrows, hb2⟩
        have HB2 := Lib.hid (HB0.out.trans (hb2.mono (by omega)))
        have K2 := Lib.hid (KB.out.below hb2 hsz)
        dsimp only at hrows ⊢
        have HRW := Lib.hid hrows
        obtain ⟨gr, og, c3, A3, c4, e1, hgr, hcl1, hrl⟩ := hrows.at_ HDL.out
        injection e1 with e1 _ e3
        subst e1 e3
        rw [HML.out]
        have HRL := Lib.hid hrl
        clear hb2 hrows hrl
        go_wp2_with (first
          | (go_at_call 35; (with_reducible refine (HI1.out _).mono ?_); rintro en w7 ⟨rfl, rfl⟩)
          | (go_at_call 35; (with_reducible refine (HI2.out _).mono ?_); rintro en w7 ⟨rfl, rfl⟩))
        refine bodyPost_ret (v := .tuple #[.int .i64 0, .int .i64 0, .int .i64 1]) (by simp [results, Try.results16, go_sem]) rfl ?_
        rw [HW2.out]
        exact ⟨_, rfl, HB2.out⟩
      · simp only [Bool.not_eq_false] at hb
        subst hb
        obtain ⟨bt0, bt1⟩ := inI_of HIB2.out
        obtain ⟨qb, hq⟩ : ∃ qb, (dl == [classes]) = qb := ⟨_, rfl⟩
        have HQ := Lib.hid hq
        cases qb with
        | false =>
          have HW2 : Hid (r = ((ls.length : Int), 2)) := Lib.hid (by rw [HW.out, if_neg (by rw [HBD.out]; simp), if_pos (by rw [HLI.out]; simpa using hq)])
          clear HW hq
          go_enter Try.func16, Try.ntmps16
          go_wp2_with fail
          refine HC.out.mono ?_
          rintro en w2 ⟨A2, c2, rfl, hrows, hb2⟩
          have HB2 := Lib.hid (HB0.out.trans (hb2.mono (by omega)))
          have K2 := Lib.hid (KB.out.below hb2 hsz)
          dsimp only at hrows ⊢
          have HRW := Lib.hid hrows
          obtain ⟨gr, og, c3, A3, c4, e1, hgr, hcl1, hrl⟩ := hrows.at_ HDL.out
          injection e1 with e1 _ e3
          subst e1 e3
          rw [HML.out]
          have HRL := Lib.hid hrl
          clear hb2 hrows hrl
          go_wp2_with (first
            | (go_at_call 35; (with_reducible refine (HI1.out _).mono ?_); rintro en w7 ⟨rfl, rfl⟩)
            | (go_at_call 35; (with_reducible refine (HI2.out _).mono ?_); rintro en w7 ⟨rfl, rfl⟩))
          refine (show Calls Try.prog 14 _ _ (Quiet _ (.bool false)) from HQ.out ▸ sameints_any dl [classes] _ _ _ _ _ (HRL.out.below (net_one w2 (.cells #[.int .i64 classes] 3))) (Reads.one_ w2 3 (.int .i64 classes) : Reads _ _ _ (ints .i64 [classes]))).mono ?_
          rintro en w3 ⟨rfl, n3, h3⟩
          have hb3 : Below w2.heap.size w2 w3 := by rw [h3]; exact net_drewN (net_one w2 (.cells #[.int .i64 classes] 3)) _
          have HB3 := Lib.hid (HB2.out.trans (hb3.mono HB2.out.size))
          have HRW3 := Lib.hid (HRW.out.below hb3)
          have k3 : w3.cell? ⟨w.heap.size, 3, none⟩ = some (.slice A ls.length cc) := (K2.out.below hb3 K2.out.lt).cell 3
          have hb23 := hb3.size
          clear h3 hb3 hcl1
          go_wp2_with fail
          go_quiet (fail)
          go_wp2
          refine bodyPost_ret (v := .tuple #[.int .i64 0, .int .i64 (ls.length : Int), .int .i64 2]) (by simp [results, Try.results16, go_sem]) rfl ?_
          rw [HW2.out]
          exact ⟨_, rfl, net_drewN HB3.out _⟩
        | true =>
          have HW2 : Hid (r = (runW false batch ls all 0 0).2) := Lib.hid (by rw [HW.out, if_neg (by rw [HBD.out]; simp), if_neg (by rw [HLI.out]; simpa using hq)])
          clear HW hq
          go_enter Try.func16, Try.ntmps16
          go_wp2_with fail
          refine HC.out.mono ?_
          rintro en w2 ⟨A2, c2, rfl, hrows, hb2⟩
          have HB2 := Lib.hid (HB0.out.trans (hb2.mono (by omega)))
          have K2 := Lib.hid (KB.out.below hb2 hsz)
          dsimp only at hrows ⊢
          have HRW := Lib.hid hrows
          obtain ⟨gr, og, c3, A3, c4, e1, hgr, hcl1, hrl⟩ := hrows.at_ HDL.out
          injection e1 with e1 _ e3
          subst e1 e3
          rw [HML.out]
          have HRL := Lib.hid hrl
          clear hb2 hrows hrl
          go_wp2_with (first
            | (go_at_call 35; (with_reducible refine (HI1.out _).mono ?_); rintro en w7 ⟨rfl, rfl⟩)
            | (go_at_call 35; (with_reducible refine (HI2.out _).mono ?_); rintro en w7 ⟨rfl, rfl⟩))
          refine (show Calls Try.prog 14 _ _ (Quiet _ (.bool true)) from HQ.out ▸ sameints_any dl [classes] _ _ _ _ _ (HRL.out.below (net_one w2 (.cells #[.int .i64 classes] 3))) (Reads.one_ w2 3 (.int .i64 classes) : Reads _ _ _ (ints .i64 [classes]))).mono ?_
          rintro en w3 ⟨rfl, n3, h3⟩
          have hb3 : Below w2.heap.size w2 w3 := by rw [h3]; exact net_drewN (net_one w2 (.cells #[.int .i64 classes] 3)) _
          have HB3 := Lib.hid (HB2.out.trans (hb3.mono HB2.out.size))
          have HRW3 := Lib.hid (HRW.out.below hb3)
          have k3 : w3.cell? ⟨w.heap.size, 3, none⟩ = some (.slice A ls.length cc) := (K2.out.below hb3 K2.out.lt).cell 3
          have hb23 := hb3.size
          clear h3 hb3 hcl1
          go_wp2_with fail
          clear k3
          have HK3 : Hid (w.heap.size ≤ w3.heap.size) := Lib.hid HB3.out.size
          have hbw := HK3.out
          go_loopw [56, 12, 13] (fun i lgv bv wr => ∃ (k : Nat) (lg bad : Int), k ≤ ls.length ∧ i = .int .i64 k ∧ lgv = .int .i64 lg ∧ bv = .int .i64 bad ∧ Below w3.heap.size w3 wr ∧ Hid (RSt r bad (fun x => runW false batch (ls.drop k) (all.drop k) k x))) (fun i _ _ _ => ls.length - (intOf i).toNat)
          case atStart => exact ⟨0, 0, 0, by omega, rfl, rfl, rfl, Below.refl _ _, Lib.hid (.inr ⟨rfl, 0, HW2.out.symm⟩)⟩
          case round =>
            obtain ⟨k, lg, bad, hk, rfl, rfl, rfl, hwr, hre⟩ := hrel
            by_cases hlt : k < ls.length
            · have hml := HML.out
              obtain ⟨g, o, c', l, e1, hlk, hok, hg, q0, q1, q2, q3, q4, q5, q6⟩ := ((HL.out.below (HB3.out.mono hB)).below (hwr.mono (by omega))).at_ hlt
              injection e1 with e1 _ e3
              subst e1 e3
              obtain ⟨d, hd⟩ : ∃ d, all[k]? = some d := ⟨all[k]'(by omega), List.getElem?_eq_getElem (by omega)⟩
              obtain ⟨e, he⟩ : ∃ e, all[k + 1]? = some e := ⟨all[k + 1]'(by omega), List.getElem?_eq_getElem (by omega)⟩
              have hma := mayLs_at ls 0 k l HME.out hlk
              have hgd := HOK.out.good k d hd
              have hge := HOK.out.good (k + 1) e he
              have hc3 : l.kind = 2 → e.length = 3 := fun h2 => by
                obtain ⟨e', he', hgv⟩ := HOK.out.chain k l d hlk hd
                rw [he] at he'
                injection he' with he'
                subst he'
                unfold givesI at hgv
                rw [if_neg (by omega), if_pos h2] at hgv
                exact planesI_three hgv
              have HRA := Lib.hid (hre.out.enter hlk hd he)
              have hov := over_way (e := e) hma hgd bt0
              obtain ⟨g1, o1, c1, Ad, cd, e1, hg1, hdc, hdr⟩ := (HRW3.out.below (hwr.mono hb23)).at_ hd
              injection e1 with e1 _ ec
              clear ec
              injection e1 with e1
              injection e1 with e1 e2
              subst e1 e2
              obtain ⟨g1, o1, c1, Ae, ce, e1, hg2, hec, her⟩ := (HRW3.out.below (hwr.mono hb23)).at_ he
              injection e1 with e1 _ ec
              clear ec
              injection e1 with e1
              injection e1 with e1 e2
              subst e1 e2
              obtain ⟨x0, x1, x2, x3, x4, x5, x6⟩ := l
              dsimp only at q0 q1 q2 q3 q4 q5 q6 hma hc3
              have hal := net_one wr (.cells #[.int .i64 x0, .int .i64 x1, .int .i64 x2, .int .i64 x3, .int .i64 x4, .int .i64 x5, .bool x6] 43)
              have hwz := hwr.size
              have hzs : (wr.alloc (.cells #[.int .i64 x0, .int .i64 x1, .int .i64 x2, .int .i64 x3, .int .i64 x4, .int .i64 x5, .bool x6] 43)).drew.heap.size = wr.heap.size + 1 := by show (wr.alloc _).heap.size = _; simp
              have hdc2 : (wr.alloc (.cells #[.int .i64 x0, .int .i64 x1, .int .i64 x2, .int .i64 x3, .int .i64 x4, .int .i64 x5, .bool x6] 43)).cell? ⟨gr, og + k, none⟩ = some (.slice Ad d.length cd) := (hal.cell (p := ⟨gr, og + k, none⟩) (by show gr < _; omega)).trans hdc
              have hec2 : (wr.alloc (.cells #[.int .i64 x0, .int .i64 x1, .int .i64 x2, .int .i64 x3, .int .i64 x4, .int .i64 x5, .bool x6] 43)).cell? ⟨gr, og + (k + 1), none⟩ = some (.slice Ae e.length ce) := (hal.cell (p := ⟨gr, og + (k + 1), none⟩) (by show gr < _; omega)).trans hec
              have HBL := Lib.hid (hwr.trans (hal.drew.mono hwz))
              have HD := Lib.hid ((hdr.below (hal.mono (by omega))).drew)
              have HE := Lib.hid ((her.below (hal.mono (by omega))).drew)
              obtain ⟨dm, hdm⟩ : ∃ dm, dimsI ⟨x0, x1, x2, x3, x4, x5, x6⟩ d = dm := ⟨_, rfl⟩
              obtain ⟨cs, hcs⟩ : ∃ cs, (sumsI ⟨x0, x1, x2, x3, x4, x5, x6⟩ d e batch).1 = cs := ⟨_, rfl⟩
              have HDM := Lib.hid (rdims_any x0 x1 x2 x3 x4 x5 x6 d _ _ w2.heap.size (by rw [hzs]; omega) HD.out hgd dm hdm)
              have HLN : Hid (∀ W, Below w2.heap.size (wr.alloc (.cells #[.int .i64 x0, .int .i64 x1, .int .i64 x2, .int .i64 x3, .int .i64 x4, .int .i64 x5, .bool x6] 43)).drew W → Calls Try.prog 38 #[.agg #[.int .i64 x0, .int .i64 x1, .int .i64 x2, .int .i64 x3, .int .i64 x4, .int .i64 x5, .bool x6], .slice Ad d.length cd, .slice Ae e.length ce, .int .i64 batch] W (Lens W cs)) :=
                Lib.hid (fun W hW => rlengths_any (0 + (k : Int)) x0 x1 x2 x3 x4 x5 x6 d e _ _ batch W w2.heap.size (by have := hW.size; rw [hzs] at this; omega) (HD.out.below hW) (HE.out.below hW) hgd hge ⟨bt0, bt1⟩ hma hc3 cs hcs)
              have HDW := Lib.hid (dims_wide hma hgd)
              rw [hdm] at HDW
              rw [hcs] at HRA
              have HGD := Lib.hid hgd
              have HGE := Lib.hid hge
              obtain ⟨pd0, pd1⟩ := hgd.prod
              obtain ⟨pe0, pe1⟩ := hge.prod
              have hwk : IntKind.i64.wrap ((k : Int) + 1) = (k : Int) + 1 := IntWalk.i64_in _ (by omega)
              have hwk2 : ((k : Int) + 1).toNat = k + 1 := by omega
              have i1 : 0 ≤ (k : Int) + 1 := by omega
              have i2 : (k : Int) + 1 < (ls.length : Int) + 1 := by omega
              have i3 : (k : Int) < (ls.length : Int) + 1 := by omega
              have kb := (Blk.fresh wr 43 [.int .i64 x0, .int .i64 x1, .int .i64 x2, .int .i64 x3, .int .i64 x4, .int .i64 x5, .bool x6]).drew
              obtain ⟨pq0, pq1⟩ : 0 ≤ batch * prodI d ∧ batch * prodI d ≤ 8 * 4096 := mul_in2 (by omega) (by omega) (by omega) (by omega)
              obtain ⟨pr0, pr1⟩ : 0 ≤ batch * prodI e ∧ batch * prodI e ≤ 8 * 4096 := mul_in2 (by omega) (by omega) (by omega) (by omega)
              have HM1 : Hid (IntKind.i64.wrap (batch * prodI d) = batch * prodI d) := Lib.hid (IntWalk.i64_in _ (by omega))
              have HM2 : Hid (IntKind.i64.wrap (batch * prodI e) = batch * prodI e) := Lib.hid (IntWalk.i64_in _ (by omega))
              have HOV := Lib.hid hov
              rw [← hdm] at HDM HDW
              have HDN := Lib.hid hdm
              clear hlk hok hd he hma hgd hge hc3 hdc hec hdr her hal hml hwr hre hov hdm hcs
              go_wp2_with fail
              refine wp_region_held_drew (S := (fun w' => w'.cell? ⟨gr, og + k, none⟩ = some (.slice Ad d.length cd) ∧ w'.cell? ⟨gr, og + (k + 1), none⟩ = some (.slice Ae e.length ce))) (by kernel_rfl) (⟨hdc2, hec2⟩) (fun hHeld => ?_)
              refine' wpAnyH_take (i := 0) (v := _) rfl (by kernel_rfl) (by kernel_rfl) (by kernel_rfl) (fun _ _ _ h => h) (Or.inl ⟨by rfl, ?taq1⟩) (by assumption) ?tbq1
              case taq1 =>
                intro wS hSw
                (try dsimp only at hSw)
                go_simp
                (try (with_reducible rfl))
              (try simp only [List.getElem_toArray, List.getElem_cons_zero, List.getElem_cons_succ, Act.put, List.setIfInBounds_toArray, List.set_cons_zero, List.set_cons_succ])
              refine' wpAnyH_take (i := 1) (v := _) rfl (by kernel_rfl) (by kernel_rfl) (by kernel_rfl) (fun _ _ _ h => h) (Or.inl ⟨by rfl, ?taq2⟩) (by assumption) ?tbq2
              case taq2 =>
                intro wS hSw
                (try dsimp only at hSw)
                go_simp
                (try (with_reducible rfl))
              (try simp only [List.getElem_toArray, List.getElem_cons_zero, List.getElem_cons_succ, Act.put, List.setIfInBounds_toArray, List.set_cons_zero, List.set_cons_succ])
              refine' wpAnyH_take (i := 2) (v := _) rfl (by kernel_rfl) (by kernel_rfl) (by kernel_rfl) (fun _ _ _ h => h) (Or.inl ⟨by rfl, ?taq3⟩) (by assumption) ?tbq3
              case taq3 =>
                intro wS hSw
                (try dsimp only at hSw)
                go_simp
                (try (with_reducible rfl))
              (try simp only [List.getElem_toArray, List.getElem_cons_zero, List.getElem_cons_succ, Act.put, List.setIfInBounds_toArray, List.set_cons_zero, List.set_cons_succ])
              refine' wpAnyH_take (i := 3) (v := _) rfl (by kernel_rfl) (by kernel_rfl) (by kernel_rfl) (fun _ _ _ h => h) (Or.inl ⟨by rfl, ?taq4⟩) (by assumption) ?tbq4
              case taq4 =>
                intro wS hSw
                (try dsimp only at hSw)
                go_simp
                (try (with_reducible rfl))
              (try simp only [List.getElem_toArray, List.getElem_cons_zero, List.getElem_cons_succ, Act.put, List.setIfInBounds_toArray, List.set_cons_zero, List.set_cons_succ])
              refine' wpAnyH_take (i := 4) (v := _) rfl (by kernel_rfl) (by kernel_rfl) (by kernel_rfl) (fun _ _ _ h => h) (Or.inl ⟨by rfl, ?taq5⟩) (by assumption) ?tbq5
              case taq5 =>
                intro wS hSw
                (try dsimp only at hSw)
                go_simp
                (try (with_reducible rfl))
              (try simp only [List.getElem_toArray, List.getElem_cons_zero, List.getElem_cons_succ, Act.put, List.setIfInBounds_toArray, List.set_cons_zero, List.set_cons_succ])
              refine' wpAnyH_take (i := 5) (v := _) rfl (by kernel_rfl) (by kernel_rfl) (by kernel_rfl) (fun _ _ _ h => h) (Or.inl ⟨by rfl, ?taq6⟩) (by assumption) ?tbq6
              case taq6 =>
                intro wS hSw
                (try dsimp only at hSw)
                go_simp
                (try (with_reducible rfl))
              (try simp only [List.getElem_toArray, List.getElem_cons_zero, List.getElem_cons_succ, Act.put, List.setIfInBounds_toArray, List.set_cons_zero, List.set_cons_succ])
              refine' wpAnyH_take (i := 6) (v := _) rfl (by kernel_rfl) (by kernel_rfl) (by kernel_rfl) (fun _ _ _ h => h) (Or.inl ⟨by rfl, ?taq7⟩) (by assumption) ?tbq7
              case taq7 =>
                intro wS hSw
                (try dsimp only at hSw)
                go_simp
                (try (with_reducible rfl))
              (try simp only [List.getElem_toArray, List.getElem_cons_zero, List.getElem_cons_succ, Act.put, List.setIfInBounds_toArray, List.set_cons_zero, List.set_cons_succ])
              refine' wpAnyH_take (i := 7) (v := _) rfl (by kernel_rfl) (by kernel_rfl) (by kernel_rfl) (fun _ _ _ h => h) (Or.inl ⟨by rfl, ?taq8⟩) (by assumption) ?tbq8
              case taq8 =>
                intro wS hSw
                (try dsimp only at hSw)
                go_simp
                (try (with_reducible rfl))
              (try simp only [List.getElem_toArray, List.getElem_cons_zero, List.getElem_cons_succ, Act.put, List.setIfInBounds_toArray, List.set_cons_zero, List.set_cons_succ])
              refine' wpAnyH_take (i := 8) (v := _) rfl (by kernel_rfl) (by kernel_rfl) (by kernel_rfl) (fun _ _ _ h => h) (Or.inl ⟨by rfl, ?taq9⟩) (by assumption) ?tbq9
              case taq9 =>
                intro wS hSw
                (try dsimp only at hSw)
                go_simp
                (try (with_reducible rfl))
              (try simp only [List.getElem_toArray, List.getElem_cons_zero, List.getElem_cons_succ, Act.put, List.setIfInBounds_toArray, List.set_cons_zero, List.set_cons_succ])
              refine' wpAnyH_take (i := 9) (v := _) rfl (by kernel_rfl) (by kernel_rfl) (by kernel_rfl) (fun _ _ _ h => h) (Or.inl ⟨by rfl, ?taq10⟩) (by assumption) ?tbq10
              case taq10 =>
                intro wS hSw
                (try dsimp only at hSw)
                go_simp
                (try (with_reducible rfl))
              (try simp only [List.getElem_toArray, List.getElem_cons_zero, List.getElem_cons_succ, Act.put, List.setIfInBounds_toArray, List.set_cons_zero, List.set_cons_succ])
              refine' wpAnyH_take (i := 10) (v := _) rfl (by kernel_rfl) (by kernel_rfl) (by kernel_rfl) (fun _ _ _ h => h) (Or.inl ⟨by rfl, ?taq11⟩) (by assumption) ?tbq11
              case taq11 =>
                intro wS hSw
                (try dsimp only at hSw)
                go_simp
                (try (with_reducible rfl))
              (try simp only [List.getElem_toArray, List.getElem_cons_zero, List.getElem_cons_succ, Act.put, List.setIfInBounds_toArray, List.set_cons_zero, List.set_cons_succ])
              refine wpAnyH_done (by kernel_rfl) ?_ _
              clear hdc2 hec2 hHeld
              go_wp2_with fail
              refine HDM.out.mono ?_
              rintro en w5 ⟨A5, c5, rfl, hcs, hb5⟩
              have hb5' := hb5.mono (show w2.heap.size ≤ _ by rw [hzs]; omega)
              have HB5 := Lib.hid (HBL.out.trans (hb5.mono (show w3.heap.size ≤ _ by rw [hzs]; omega)))
              have kb5 := kb.below hb5 kb.lt
              have HS1 := Lib.hid (rsize_good HGD.out _ w5 _ (HD.out.below hb5'))
              have HS2 := Lib.hid (rsize_good HGE.out _ w5 _ (HE.out.below hb5'))
              have HL5 := Lib.hid (HLN.out w5 hb5')
              have HMD := Lib.hid (maydims_any _ _ w5 _ hcs HDW.out)
              obtain ⟨ob, hob⟩ : ∃ ob, overI ⟨x0, x1, x2, x3, x4, x5, x6⟩ d e batch = ob := ⟨_, rfl⟩
              rw [hob] at HOV HRA
              have hov := HOV.out
              rw [HDN.out] at HMD
              (try rw [HDN.out])
              obtain ⟨ws, nb⟩ := dm
              dsimp only at HMD
              have k50 := kb5.cell 0
              have k51 := kb5.cell 1
              have k52 := kb5.cell 2
              have k53 := kb5.cell 3
              have k54 := kb5.cell 4
              have k55 := kb5.cell 5
              have k56 := kb5.cell 6
              simp only [List.getElem?_cons_zero, List.getElem?_cons_succ] at k50 k51 k52 k53 k54 k55 k56
              clear kb kb5 hb5 hb5' hcs hob HOV hzs
              have hm1 := HM1.out
              have hm2 := HM2.out
              dsimp only
              cases hov with
              | one h1 =>
                rcases HRA.out with ⟨hb, hre2⟩ | ⟨hb, lg', hre2⟩
                · have t1 : decide (0 < bad) = true := by simpa using hb
                  have HX := Lib.hid hre2
                  clear hb hre2
                  go_wp2_with (first
                      | (go_at_call 37; (with_reducible refine HS1.out.mono ?_); rintro en w7 ⟨rfl, rfl⟩)
                      | (go_at_call 37; (with_reducible refine HS2.out.mono ?_); rintro en w7 ⟨rfl, rfl⟩)
                      | (go_at_call 23; (with_reducible refine HMD.out.mono ?_); rintro en w7 ⟨rfl, rfl⟩))
                  refine bodyPost_ret (v := .tuple #[.int .i64 lg, .int .i64 bad, .int .i64 3]) (by simp [results, Try.results16, go_sem]) rfl ?_
                  rw [HX.out]
                  exact ⟨_, rfl, HB3.out.trans (HB5.out.mono hbw)⟩
                · subst hb
                  have HX : Hid (r = ((k : Int) + 1, 1)) := Lib.hid hre2.symm
                  clear hre2
                  go_wp2_with (first
                      | (go_at_call 37; (with_reducible refine HS1.out.mono ?_); rintro en w7 ⟨rfl, rfl⟩)
                      | (go_at_call 37; (with_reducible refine HS2.out.mono ?_); rintro en w7 ⟨rfl, rfl⟩)
                      | (go_at_call 23; (with_reducible refine HMD.out.mono ?_); rintro en w7 ⟨rfl, rfl⟩))
                  refine bodyPost_ret (v := .tuple #[.int .i64 0, .int .i64 ((k : Int) + 1), .int .i64 1]) (by simp [results, Try.results16, go_sem]) rfl ?_
                  rw [HX.out]
                  exact ⟨_, rfl, HB3.out.trans (HB5.out.mono hbw)⟩
              | two h1 h2 =>
                rcases HRA.out with ⟨hb, hre2⟩ | ⟨hb, lg', hre2⟩
                · have t1 : decide (0 < bad) = true := by simpa using hb
                  have HX := Lib.hid hre2
                  clear hb hre2
                  go_wp2_with (first
                      | (go_at_call 37; (with_reducible refine HS1.out.mono ?_); rintro en w7 ⟨rfl, rfl⟩)
                      | (go_at_call 37; (with_reducible refine HS2.out.mono ?_); rintro en w7 ⟨rfl, rfl⟩)
                      | (go_at_call 23; (with_reducible refine HMD.out.mono ?_); rintro en w7 ⟨rfl, rfl⟩))
                  refine bodyPost_ret (v := .tuple #[.int .i64 lg, .int .i64 bad, .int .i64 3]) (by simp [results, Try.results16, go_sem]) rfl ?_
                  rw [HX.out]
                  exact ⟨_, rfl, HB3.out.trans (HB5.out.mono hbw)⟩
                · subst hb
                  have HX : Hid (r = ((k : Int) + 1, 1)) := Lib.hid hre2.symm
                  clear hre2
                  go_wp2_with (first
                      | (go_at_call 37; (with_reducible refine HS1.out.mono ?_); rintro en w7 ⟨rfl, rfl⟩)
                      | (go_at_call 37; (with_reducible refine HS2.out.mono ?_); rintro en w7 ⟨rfl, rfl⟩)
                      | (go_at_call 23; (with_reducible refine HMD.out.mono ?_); rintro en w7 ⟨rfl, rfl⟩))
                  refine bodyPost_ret (v := .tuple #[.int .i64 0, .int .i64 ((k : Int) + 1), .int .i64 1]) (by simp [results, Try.results16, go_sem]) rfl ?_
                  rw [HX.out]
                  exact ⟨_, rfl, HB3.out.trans (HB5.out.mono hbw)⟩
              | three h1 h2 h3 =>
                rw [HDN.out] at h3
                have z3 : ws.length = 0 := h3
                have z4 : decide (0 < (ws.length : Int)) = false := decide_eq_false (by omega)
                go_wp2_with (first
                  | (go_at_call 37; (with_reducible refine HS1.out.mono ?_); rintro en w7 ⟨rfl, rfl⟩)
                  | (go_at_call 37; (with_reducible refine HS2.out.mono ?_); rintro en w7 ⟨rfl, rfl⟩)
                  | (go_at_call 23; (with_reducible refine HMD.out.mono ?_); rintro en w7 ⟨rfl, rfl⟩))
                refine HL5.out.mono ?_
                rintro en w6 ⟨A6, c6, rfl, hcs6, hb6⟩
                have HB6 := Lib.hid (HB5.out.trans (hb6.mono HB5.out.size))
                have HCS := Lib.hid hcs6
                have hcl : cs.length ≤ 9223372036854775807 := by
                  obtain ⟨_, _, _, _, hmm⟩ := hcs6.form
                  rw [length_ints] at *
                  unfold maxLen at hmm
                  omega
                clear hcs6 hb6 hm1 hm2
                dsimp only
                go_wp2_with fail
                go_loop [110, 12, 13] (fun i lgv bv => ∃ (j : Nat) (lg' bad' : Int), j ≤ cs.length ∧ i = .int .i64 j ∧ lgv = .int .i64 lg' ∧ bv = .int .i64 bad' ∧ Hid (RSt r bad' (fun x => afterW false batch (ls.drop (k + 1)) (all.drop (k + 1)) k (goC false (cs.drop j) x)))) (fun i _ _ => cs.length - (intOf i).toNat)
                case atStart => exact ⟨0, lg, bad, by omega, rfl, rfl, rfl, Lib.hid HRA.out⟩
                case round =>
                  obtain ⟨j, lg', bad', hj, rfl, rfl, rfl, hgo⟩ := hrel
                  by_cases hjl : j < cs.length
                  · obtain ⟨x, hx⟩ : ∃ x, cs[j]? = some x := ⟨cs[j], List.getElem?_eq_getElem hjl⟩
                    obtain ⟨gx, ox, hA5, hgx, hxc⟩ := cells_of HCS.out hx
                    subst hA5
                    have HX := Lib.hid hx
                    have i4 : (0 : Int) ≤ (j : Int) := by omega
                    have i5 : (j : Int) < (cs.length : Int) := by omega
                    clear hx hgx
                    obtain ⟨fb, hfb⟩ : ∃ fb, fitsI x = fb := ⟨_, rfl⟩
                    have HF := Lib.hid (rfits_any x fb hfb)
                    have HFB := Lib.hid hfb
                    clear hfb
                    cases fb with
                    | true =>
                      go_wp2_with (go_at_call 39; refine (HF.out _).mono ?_; rintro en w7 ⟨rfl, rfl⟩)
                      go_round
                      case rel => exact ⟨j + 1, max lg' x, bad', by omega, by go_num, rfl, rfl, Lib.hid (hgo.out.fits HX.out HFB.out)⟩
                      case measure => simp [intOf]; omega
                    | false =>
                      by_cases hbz : bad' = 0
                      · subst hbz
                        go_wp2_with (go_at_call 39; refine (HF.out _).mono ?_; rintro en w7 ⟨rfl, rfl⟩)
                        go_round
                        case rel => exact ⟨j + 1, max lg' x, (k : Int) + 1, by omega, by go_num, rfl, by go_num, Lib.hid (hgo.out.stop (by omega) HX.out HFB.out)⟩
                        case measure => simp [intOf]; omega
                      · have hpos : 0 < bad' := by
                          rcases hgo.out with h | h
                          · exact h.1
                          · exact absurd h.1 hbz
                        have t9 : (bad' == 0) = false := by simpa using hbz
                        have HPO := Lib.hid hpos
                        clear hbz hpos
                        go_wp2_with (go_at_call 39; refine (HF.out _).mono ?_; rintro en w7 ⟨rfl, rfl⟩)
                        go_round
                        case rel => exact ⟨j + 1, max lg' x, bad', by omega, by go_num, rfl, rfl, Lib.hid (hgo.out.keep HPO.out)⟩
                        case measure => simp [intOf]; omega
                  · obtain rfl : j = cs.length := by omega
                    have HG := Lib.hid hgo.out
                    clear hgo
                    rw [List.drop_length] at HG
                    go_wp2
                    go_roundw
                    case rel => exact ⟨k + 1, lg', bad', by omega, by go_num, rfl, rfl, HB6.out, HG⟩
                    case measure => simp [intOf]; omega
              | four h1 h2 h3 h4 =>
                rw [HDN.out] at h3 h4
                dsimp only at h3 h4
                have z3 : 0 < ws.length := h3
                have z4 : decide (0 < (ws.length : Int)) = true := by simp; omega
                rw [h4] at HMD
                go_wp2_with (first
                  | (go_at_call 37; (with_reducible refine HS1.out.mono ?_); rintro en w7 ⟨rfl, rfl⟩)
                  | (go_at_call 37; (with_reducible refine HS2.out.mono ?_); rintro en w7 ⟨rfl, rfl⟩)
                  | (go_at_call 23; (with_reducible refine HMD.out.mono ?_); rintro en w7 ⟨rfl, rfl⟩))
                refine HL5.out.mono ?_
                rintro en w6 ⟨A6, c6, rfl, hcs6, hb6⟩
                have HB6 := Lib.hid (HB5.out.trans (hb6.mono HB5.out.size))
                have HCS := Lib.hid hcs6
                have hcl : cs.length ≤ 9223372036854775807 := by
                  obtain ⟨_, _, _, _, hmm⟩ := hcs6.form
                  rw [length_ints] at *
                  unfold maxLen at hmm
                  omega
                clear hcs6 hb6 hm1 hm2
                dsimp only
                go_wp2_with fail
                go_loop [110, 12, 13] (fun i lgv bv => ∃ (j : Nat) (lg' bad' : Int), j ≤ cs.length ∧ i = .int .i64 j ∧ lgv = .int .i64 lg' ∧ bv = .int .i64 bad' ∧ Hid (RSt r bad' (fun x => afterW false batch (ls.drop (k + 1)) (all.drop (k + 1)) k (goC false (cs.drop j) x)))) (fun i _ _ => cs.length - (intOf i).toNat)
                case atStart => exact ⟨0, lg, bad, by omega, rfl, rfl, rfl, Lib.hid HRA.out⟩
                case round =>
                  obtain ⟨j, lg', bad', hj, rfl, rfl, rfl, hgo⟩ := hrel
                  by_cases hjl : j < cs.length
                  · obtain ⟨x, hx⟩ : ∃ x, cs[j]? = some x := ⟨cs[j], List.getElem?_eq_getElem hjl⟩
                    obtain ⟨gx, ox, hA5, hgx, hxc⟩ := cells_of HCS.out hx
                    subst hA5
                    have HX := Lib.hid hx
                    have i4 : (0 : Int) ≤ (j : Int) := by omega
                    have i5 : (j : Int) < (cs.length : Int) := by omega
                    clear hx hgx
                    obtain ⟨fb, hfb⟩ : ∃ fb, fitsI x = fb := ⟨_, rfl⟩
                    have HF := Lib.hid (rfits_any x fb hfb)
                    have HFB := Lib.hid hfb
                    clear hfb
                    cases fb with
                    | true =>
                      go_wp2_with (go_at_call 39; refine (HF.out _).mono ?_; rintro en w7 ⟨rfl, rfl⟩)
                      go_round
                      case rel => exact ⟨j + 1, max lg' x, bad', by omega, by go_num, rfl, rfl, Lib.hid (hgo.out.fits HX.out HFB.out)⟩
                      case measure => simp [intOf]; omega
                    | false =>
                      by_cases hbz : bad' = 0
                      · subst hbz
                        go_wp2_with (go_at_call 39; refine (HF.out _).mono ?_; rintro en w7 ⟨rfl, rfl⟩)
                        go_round
                        case rel => exact ⟨j + 1, max lg' x, (k : Int) + 1, by omega, by go_num, rfl, by go_num, Lib.hid (hgo.out.stop (by omega) HX.out HFB.out)⟩
                        case measure => simp [intOf]; omega
                      · have hpos : 0 < bad' := by
                          rcases hgo.out with h | h
                          · exact h.1
                          · exact absurd h.1 hbz
                        have t9 : (bad' == 0) = false := by simpa using hbz
                        have HPO := Lib.hid hpos
                        clear hbz hpos
                        go_wp2_with (go_at_call 39; refine (HF.out _).mono ?_; rintro en w7 ⟨rfl, rfl⟩)
                        go_round
                        case rel => exact ⟨j + 1, max lg' x, bad', by omega, by go_num, rfl, rfl, Lib.hid (hgo.out.keep HPO.out)⟩
                        case measure => simp [intOf]; omega
                  · obtain rfl : j = cs.length := by omega
                    have HG := Lib.hid hgo.out
                    clear hgo
                    rw [List.drop_length] at HG
                    go_wp2
                    go_roundw
                    case rel => exact ⟨k + 1, lg', bad', by omega, by go_num, rfl, rfl, HB6.out, HG⟩
                    case measure => simp [intOf]; omega
              | five h1 h2 h3 h4 =>
                rw [HDN.out] at h3 h4
                dsimp only at h3 h4
                have z3 : 0 < ws.length := h3
                have z4 : decide (0 < (ws.length : Int)) = true := by simp; omega
                rw [h4] at HMD
                rcases HRA.out with ⟨hb, hre2⟩ | ⟨hb, lg', hre2⟩
                · have t1 : decide (0 < bad) = true := by simpa using hb
                  have HX := Lib.hid hre2
                  clear hb hre2
                  go_wp2_with (first
                      | (go_at_call 37; (with_reducible refine HS1.out.mono ?_); rintro en w7 ⟨rfl, rfl⟩)
                      | (go_at_call 37; (with_reducible refine HS2.out.mono ?_); rintro en w7 ⟨rfl, rfl⟩)
                      | (go_at_call 23; (with_reducible refine HMD.out.mono ?_); rintro en w7 ⟨rfl, rfl⟩))
                  refine bodyPost_ret (v := .tuple #[.int .i64 lg, .int .i64 bad, .int .i64 3]) (by simp [results, Try.results16, go_sem]) rfl ?_
                  rw [HX.out]
                  exact ⟨_, rfl, HB3.out.trans (HB5.out.mono hbw)⟩
                · subst hb
                  have HX : Hid (r = ((k : Int) + 1, 1)) := Lib.hid hre2.symm
                  clear hre2
                  go_wp2_with (first
                      | (go_at_call 37; (with_reducible refine HS1.out.mono ?_); rintro en w7 ⟨rfl, rfl⟩)
                      | (go_at_call 37; (with_reducible refine HS2.out.mono ?_); rintro en w7 ⟨rfl, rfl⟩)
                      | (go_at_call 23; (with_reducible refine HMD.out.mono ?_); rintro en w7 ⟨rfl, rfl⟩))
                  refine bodyPost_ret (v := .tuple #[.int .i64 0, .int .i64 ((k : Int) + 1), .int .i64 1]) (by simp [results, Try.results16, go_sem]) rfl ?_
                  rw [HX.out]
                  exact ⟨_, rfl, HB3.out.trans (HB5.out.mono hbw)⟩
            · obtain rfl : k = ls.length := by omega
              have HWR := Lib.hid hwr
              have hre2 := hre.out
              rw [List.drop_length] at hre2
              clear hwr hre
              rcases hre2 with ⟨hb, hre2⟩ | ⟨hb, lg', hre2⟩
              · have t1 : decide (0 < bad) = true := by simpa using hb
                have HX := Lib.hid hre2
                clear hb hre2
                go_wp2
                refine bodyPost_ret (v := .tuple #[.int .i64 lg, .int .i64 bad, .int .i64 3]) (by simp [results, Try.results16, go_sem]) rfl ?_
                rw [HX.out]
                exact ⟨_, rfl, HB3.out.trans (HWR.out.mono hbw)⟩
              · subst hb
                have HX : Hid (r = (0, 0)) := Lib.hid hre2.symm
                clear hre2
                go_wp2
                refine bodyPost_ret (v := .tuple #[.int .i64 lg, .int .i64 0, .int .i64 0]) (by simp [results, Try.results16, go_sem]) rfl ?_
                rw [HX.out]
                exact ⟨_, rfl, HB3.out.trans (HWR.out.mono hbw)⟩
end Go.Proofs.Ytkileiikffomlaa
