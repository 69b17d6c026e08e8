/- Contract of the reference's disk: Flush. -/
import Derived.Test.YtjddplddpdcmdaaSecRD3
namespace Go.Proofs.Ytjddplddpdcmdaa
open Go.RowKit
set_option linter.unusedVariables false
set_option linter.unusedSimpArgs false

section
variable {w0 w w' W W' w1 w2 : World} {S : Nat → Prop} {ds ds' : List (Nat × Dk)} {bs bs' : List (Nat × TypeId × List Value)} {rs rs' rs0 : List (Nat × Value × List Value)} {p g k sz : Nat} {r r' : Rk} {svs : List Value} {xs X : List (List UInt8)} {ps : List (Nat × Value)} {l : List (Nat × List UInt8)} {sv wv v u : Value} {t t' : TypeId} {cs ys rest : List Value}
theorem Vs.setAt (h : Vs rs svs X) {i : Nat} {x : List UInt8} (hv : (1, v, bytesV x) ∈ rs) : Vs rs (svs.set i v) (X.set i x) := by
  refine ⟨by simp [h.1], fun k y hy => ?_⟩
  by_cases hk : i = k
  · subst hk
    have hl : i < X.length := by
      have := (List.getElem?_eq_some_iff.1 hy).1
      simpa using this
    rw [List.getElem?_set_self hl] at hy
    injection hy with hy
    subst hy
    exact ⟨v, List.getElem?_set_self (by rw [h.1]; exact hl), hv⟩
  · rw [List.getElem?_set_ne hk] at hy ⊢
    exact h.2 k y hy
theorem DM.freezeP (h : DM w0 W ds ((g, t, ys ++ rest) :: bs) rs) {n c : Nat} (hn : ys.length = n * sz) (hc : n ≤ c) (hm : c ≤ maxLen) : DM w0 W ds bs ((sz, .slice (some ⟨g, 0, none⟩) n c, ys) :: rs) := by
  obtain ⟨O, U, h0, h1, h2, h3, h4, h5, h6⟩ := h
  have hk := h4.2 _ (.head _)
  have hnd := List.nodup_cons.1 (by simpa using h4.1 : (g :: bs.map (·.1)).Nodup)
  refine ⟨O, fun i => U i ∨ i = g, h0, h1, h2, h3, ⟨hnd.2, fun b hb => h4.2 b (.tail _ hb)⟩, fun i hi => ?_, fun r hr' => ?_⟩
  · rcases hi with hi | rfl
    · exact ⟨(h5 i hi).1, (h5 i hi).2.1, fun b hb => (h5 i hi).2.2 b (.tail _ hb)⟩
    · exact ⟨hk.1.lt, hk.2.2, fun b hb e => hnd.1 (List.mem_map.2 ⟨b, hb, e⟩)⟩
  · rcases List.mem_cons.1 hr' with rfl | hr'
    · refine ⟨_, n, c, rfl, hn, hc, hm, fun _ => ⟨g, 0, rfl, .inr rfl, hk.1.lt, fun j u hu => ?_⟩⟩
      rw [Nat.zero_add, hk.1.cell, List.getElem?_append_left (List.getElem?_eq_some_iff.1 hu).1]
      exact hu
    · exact (h6 r hr').imp (fun i hi _ => .inl hi)
/-- a new row, and a cell of a known block that points to it -/
theorem DM.rowed {u0 : Value} {cs0 : List Value} (h : DM w0 w1 ds ((p, t', u0 :: cs0) :: bs) rs) (hb : Below w1.heap.size w1 w2) (hk : Blk w2 g t cs) (hg : w1.heap.size ≤ g) (sv2 : Value) : DM w0 (w2.setCell ⟨p, 0, none⟩ sv2) ds ((g, t, cs) :: (p, t', sv2 :: cs0) :: bs) rs := by
  have h2 := (h.more hb hg hk).permB (.swap _ _ _)
  have h3 := h2.turn (W' := w2.setCell ⟨p, 0, none⟩ sv2) ((Off.refl (fun i => i = p) w2).setCell (p := ⟨p, 0, none⟩) (.inl rfl) _) ((h2.blk (.head _)).put 0 sv2)
  exact h3.permB (.swap _ _ _)
theorem DM.put (h : DM w0 W ds ((g, t, cs) :: bs) rs) (i : Nat) (u : Value) : DM w0 (W.setCell ⟨g, i, none⟩ u) ds ((g, t, cs.set i u) :: bs) rs :=
  h.turn ((Off.refl (fun i => i = g) W).setCell (p := ⟨g, i, none⟩) (.inl rfl) _) ((h.blk (.head _)).put i u)
theorem DM.put2 {b : Nat × TypeId × List Value} (h : DM w0 W ds (b :: (g, t, cs) :: bs) rs) (i : Nat) (u : Value) : DM w0 (W.setCell ⟨g, i, none⟩ u) ds (b :: (g, t, cs.set i u) :: bs) rs :=
  ((h.permB (.swap _ _ _)).put i u).permB (.swap _ _ _)
theorem Rk.empty_log (h : r.Ok) (h0 : r.sure.length = 0) : r.log = [] := by
  cases hl : r.log with
  | nil => rfl
  | cons e q => have := (h.log e (by rw [hl]; simp)).1; omega
set_option maxHeartbeats 3200000 in
set_option maxRecDepth 100000 in
theorem rflush_any (h : RM w0 W ds p r bs rs0) (hn : r.n < 1000000000) :
    Calls Try.prog 45 #[.pointer (some ⟨p, 0, none⟩)] W fun en W' => en = .returned (.int .i64 r.flush.2) ∧ RM w0 W' ds p r.flush.1 bs rs0 := by
  have hok := h.ok
  obtain ⟨dn, hd⟩ : ∃ d, r.op.down = d := ⟨_, rfl⟩
  have HOP := Lib.hid (rop_any h hn)
  rw [hd] at HOP
  cases dn with
  | true =>
    have HW : Hid (r.flush = (r.op, 9)) := Lib.hid (by unfold Rk.flush; rw [if_pos hd])
    clear hd h
    go_enter Try.func45, Try.ntmps45
    go_wp2_with fail
    refine HOP.out.mono ?_
    rintro en w1 ⟨rfl, hrm⟩
    have HRM := Lib.hid hrm
    clear hrm
    go_wp2
    go_ret
    rw [HW.out]
    exact ⟨rfl, HRM.out⟩
  | false =>
    have HW : Hid (r.flush = (r.op.flushed, 0)) := Lib.hid (by unfold Rk.flush; rw [if_neg (by rw [hd]; simp)])
    have HFK := Lib.hid (Rk.flushed_ok (Rk.op_ok hok))
    have HOK := Lib.hid (Rk.op_ok hok)
    generalize r.op = q at HW HFK HOP HOK
    clear hd h hok hn
    go_enter Try.func45, Try.ntmps45
    go_wp2_with fail
    refine HOP.out.mono ?_
    rintro en w1 ⟨rfl, hrm⟩
    obtain ⟨sv1, wv1, rs1, h1, h2, h3⟩ := hrm
    obtain ⟨⟨A1, c1, rfl⟩, Aw1, cw1, rfl⟩ := h3.form h2
    have hm9 := h3.logMax h2
    have hb := h2.blk (.head _)
    have k0 := hb.cell 0
    have k1 := hb.cell 1
    have f0 := hb.free 0
    have hp := hb.lt
    simp only [rcells, List.getElem?_cons_zero, List.getElem?_cons_succ] at k0 k1 f0 hp
    obtain ⟨m, hm⟩ : ∃ m, q.log.length = m := ⟨_, rfl⟩
    obtain ⟨n, hn⟩ : ∃ n, q.sure.length = n := ⟨_, rfl⟩
    have hn4 : n ≤ 4096 := by rw [← hn]; exact HOK.out.most
    rw [hm] at k1 h2 h3 hm9
    rw [hn] at k0 h2 h3
    obtain ⟨svs, hs1, hs2⟩ := h3.sure
    obtain ⟨ps, hp1, hp2⟩ := h3.log
    have HSL : Hid (svs.length = n) := Lib.hid (by rw [hs2.1, hn])
    have HRS := Lib.hid (h2.reads1 hs1)
    have HSO := Lib.hid (rows_one2 hs2 h2)
    have HS2 := Lib.hid hs2
    have HP1 := Lib.hid hp1
    have HP2 := Lib.hid hp2
    have H1 := Lib.hid h1
    have H2 := Lib.hid h2
    have HB := Lib.hid hb
    have HN := Lib.hid hn
    have HM := Lib.hid hm
    clear h1 h2 h3 hb hn hm hs1 hs2 hp1 hp2
    rcases Nat.eq_zero_or_pos n with hn0 | hn0
    · have hlg : q.log = [] := Rk.empty_log HOK.out (by rw [HN.out]; exact hn0)
      have hm0 : m = 0 := by rw [← HM.out, hlg]; rfl
      subst hn0 hm0
      have HLG := Lib.hid hlg
      clear hlg
      go_upto_region 4 with (at_builtin; refine wpList_extend elem_rowsR _ rfl (.const (.slice none 0 0)) (.tmp 11) rfl w1.heap.size 0 (.slice none 0 0) [] rfl (World.ownsRow_nil _ _ _ _) w1.heap.size _ svs rfl HRS.out HSO.out (by rw [HSL.out]; unfold maxLen; omega) (by rw [HSL.out]; omega) (Nat.le_refl _) ?_; intro A2 c2 w2 hown2 hg2 hf2; rw [HSL.out, Nat.zero_add, List.nil_append] at hown2; rw [HSL.out]; simp only [Nat.zero_add] at hf2 ⊢; have HB2 := Lib.hid ((Below.refl w1.heap.size w1).grown hg2 (Nat.le_refl _) (fun k hk => by cases hk)); have HO2 := Lib.hid hown2; have hb2 := HB.out.below HB2.out HB.out.lt; have q0 := hb2.cell 0; have q1 := hb2.cell 1; have g0 := hb2.free 0; simp only [rcells, HM.out, List.getElem?_cons_zero, List.getElem?_cons_succ] at q0 q1 g0; have hp2 := hb2.lt; have HB3 := Lib.hid hb2; clear hown2 hg2 hf2 hb2)
      have hb4 := HB3.out.put 0 (.slice A2 0 c2)
      have HD4 := Lib.hid (H2.out.turnRs (rs' := (1, .slice A2 0 c2, svs) :: rs1) ((Off.of_below (S := fun i => i = p) HB2.out (fun i hi => .inr hi)).setCell (p := ⟨p, 0, none⟩) (.inl rfl) _) hb4 (fun z hz => by
        rcases List.mem_cons.1 hz with rfl | hz
        · have h9 := own_off HO2.out ((Off.refl (fun i => i = p) w2).setCell (p := ⟨p, 0, none⟩) (.inl rfl) (.slice A2 0 c2)) (fun k hk e => by have := (HO2.out.lt k hk).1; omega)
          exact .inr (own_readsIn (by omega) h9 (fun i hi => (h9.lt i hi).1))
        · exact .inl hz))
      have k1 := hb4.cell 1
      have k0 := hb4.cell 0
      have f1 := hb4.free 1
      have hp4 := hb4.lt
      simp only [rcells, List.set_cons_zero, HM.out, List.getElem?_cons_zero, List.getElem?_cons_succ] at k0 k1 f1
      clear q0 q1 g0 f0 hb4 hp2 HB3
      generalize w2.setCell ⟨p, 0, none⟩ (.slice A2 0 c2) = w4 at HD4 k0 k1 f1 hp4 ⊢
      go_wp2
      go_loopw [20] (fun i wr => i = .int .i64 0 ∧ wr = w4) (fun i _ => 0)
      case atStart => exact ⟨rfl, rfl⟩
      case round =>
        obtain ⟨rfl, rfl⟩ := hrel
        go_wp2
        go_ret
        rw [HW.out]
        refine ⟨rfl, .slice A2 0 c2, .slice none 0 0, (2, .slice none 0 0, []) :: (1, .slice A2 0 c2, svs) :: rs1, fun z hz => .tail _ (.tail _ (H1.out z hz)), ?_, HFK.out, ⟨svs, .tail _ (.head _), ?_⟩, ⟨[], .head _, rfl, fun i e he => by simp [Rk.flushed] at he⟩⟩
        · exact (HD4.out.put 1 _).read (Below.refl _ _) (ReadsIn.nil_ _ _)
        · have : q.flushed.sure = q.sure := by simp [Rk.flushed, HLG.out, applyL]
          rw [this]
          exact HS2.out.mono (fun z hz => .tail _ (.tail _ hz))
    · go_upto_region 4 with (at_builtin; refine wpList_extend elem_rowsR _ rfl (.const (.slice none 0 0)) (.tmp 11) rfl w1.heap.size 0 (.slice none 0 0) [] rfl (World.ownsRow_nil _ _ _ _) w1.heap.size _ svs rfl HRS.out HSO.out (by rw [HSL.out]; unfold maxLen; omega) (by rw [HSL.out]; omega) (Nat.le_refl _) ?_; intro A2 c2 w2 hown2 hg2 hf2; rw [HSL.out, Nat.zero_add, List.nil_append] at hown2; rw [HSL.out]; simp only [Nat.zero_add] at hf2 ⊢; have HB2 := Lib.hid ((Below.refl w1.heap.size w1).grown hg2 (Nat.le_refl _) (fun k hk => by cases hk)); have HO2 := Lib.hid hown2; have hb2 := HB.out.below HB2.out HB.out.lt; have q0 := hb2.cell 0; have q1 := hb2.cell 1; have g0 := hb2.free 0; simp only [rcells, HM.out, List.getElem?_cons_zero, List.getElem?_cons_succ] at q0 q1 g0; have hp2 := hb2.lt; have HB3 := Lib.hid hb2; clear hown2 hg2 hf2 hb2)
      obtain ⟨g, cap, rest, e2, hwg, hg2, hnc, hcm, hrl, hsl, hbk⟩ := own_blk HO2.out hn0
      injection e2 with e2 _ e3
      subst e2 e3
      have hd4 := H2.out.rowed HB2.out hbk hwg (.slice (some ⟨g, 0, none⟩) n c2)
      have HD4 := Lib.hid hd4
      have hb4 := hd4.blk (.tail _ (.head _))
      have k1 := hb4.cell 1
      have k0 := hb4.cell 0
      have f1 := hb4.free 1
      have hp4 := hb4.lt
      have hpg : p ≠ g := by omega
      simp only [rcells, HM.out, List.getElem?_cons_zero, List.getElem?_cons_succ] at k0 k1 f1 hp4
      have HRL := Lib.hid hrl
      clear q0 q1 g0 f0 hb4 hp2 HB3 hd4 HO2 hbk hrl hsl HB2 H2 HB HRS
      generalize w2.setCell ⟨p, 0, none⟩ (.slice (some ⟨g, 0, none⟩) n c2) = w4 at HD4 k0 k1 f1 hp4 ⊢
      have HV0 : Hid (Vs rs1 svs (applyL (q.log.take 0) q.sure)) := HS2
      go_wp2
      go_loopw [20] (fun i wr => ∃ (k : Nat) (vs : List Value), k ≤ m ∧ i = .int .i64 k ∧ Hid (Vs rs1 vs (applyL (q.log.take k) q.sure)) ∧ Hid (DM w0 wr ds ((g, 31, vs ++ rest) :: (p, 79, rcells (.slice (some ⟨g, 0, none⟩) n c2) (.slice Aw1 m cw1) q) :: bs) rs1)) (fun i _ => m - (intOf i).toNat)
      case atStart => exact ⟨0, svs, by omega, rfl, HV0, HD4⟩
      case round =>
        obtain ⟨k, vs, hk, rfl, hvs, hdm⟩ := hrel
        clear k0 k1 f1 HV0 HD4
        have hbp : Blk wr p 79 (rcells (.slice (some ⟨g, 0, none⟩) n c2) (.slice Aw1 m cw1) q) := hdm.out.blk (.tail _ (.head _))
        have k0 := hbp.cell 0
        have k1 := hbp.cell 1
        have f1 := hbp.free 1
        have hpl := hbp.lt
        simp only [rcells, List.getElem?_cons_zero, List.getElem?_cons_succ] at k0 k1 f1 hpl
        have HBP := Lib.hid hbp
        clear hbp
        by_cases hlt : k < m
        · obtain ⟨e, he⟩ : ∃ e, q.log[k]? = some e := ⟨q.log[k]'(by rw [HM.out]; exact hlt), List.getElem?_eq_getElem _⟩
          obtain ⟨ve, hve, hver⟩ := HP2.out.2 k e he
          obtain ⟨U, hU, hrd⟩ := hdm.out.reads HP1.out
          obtain ⟨gw, ow, cw', e1, _, hgw, q0, q1⟩ := hrd.at2 hve
          injection e1 with e1 e2 e3
          subst e1 e3
          obtain ⟨Ae, ce, rfl⟩ := hdm.out.form1 hver
          simp only at q0 q1
          have HVE := Lib.hid hver
          have HT : Hid (q.log.take (k + 1) = q.log.take k ++ [e]) := Lib.hid (by rw [List.take_add_one, he]; rfl)
          have hei : e.1 < n := by rw [← HN.out]; exact (HOK.out.log e (List.mem_of_getElem? he)).1
          have D2 := Lib.hid (hdm.out.below (((Below.refl wr.heap.size wr).alloc (Nat.le_refl _) (.cells #[.int .i64 (e.1 : Int), .slice Ae e.2.length ce] 88))))
          have HQ := Lib.hid (Blk.fresh wr 88 [.int .i64 (e.1 : Int), .slice Ae e.2.length ce])
          have hbg := D2.out.blk (.head _)
          have hvl : vs.length = n := by rw [hvs.out.1, applyL_len, HN.out]
          have hbgc := hbg.cell e.1
          rw [List.getElem?_append_left (by rw [hvl]; exact hei), List.getElem?_eq_getElem (by rw [hvl]; exact hei)] at hbgc
          have hbgf := hbg.free e.1
          have HVL := Lib.hid hvl
          obtain ⟨uo, huo⟩ : ∃ u, (wr.alloc (.cells #[.int .i64 (e.1 : Int), .slice Ae e.2.length ce] 88)).cell? ⟨g, e.1, none⟩ = some u := ⟨_, hbgc⟩
          have HBC := Lib.hid huo
          clear huo
          have HPN := Lib.hid (HBP.out.alloc (.cells #[.int .i64 (e.1 : Int), .slice Ae e.2.length ce] 88))
          have hgl := hbg.lt
          have hgn : g ≠ wr.heap.size := by have := (hdm.out.blk (.head _)).lt; simp only at this; omega
          have i2 : (0 : Int) ≤ (k : Int) := by omega
          have i3 : (k : Int) < (m : Int) := by omega
          have j2 : (0 : Int) ≤ (e.1 : Int) := by omega
          have j3 : (e.1 : Int) < (n : Int) := by omega
          clear he hve hver hU hrd e2 hbg hvl hbgc
          go_upto_region 7 with fail
          refine wp_region_held_drew (S := (fun w' => Blk w' p 79 (rcells (.slice (some ⟨g, 0, none⟩) n c2) (.slice (some ⟨gw, ow, none⟩) m cw1) q) ∧ Blk w' wr.heap.size 88 [.int .i64 (e.1 : Int), .slice Ae e.2.length ce])) (by kernel_rfl) (⟨HPN.out.drew, HQ.out.drew⟩) (fun hHeld => ?_)
          refine' wpAnyH_take (i := 0) (v := _) rfl (by kernel_rfl) (by kernel_rfl) (by kernel_rfl) (fun _ _ _ h => h) (Or.inl ⟨by rfl, ?taq1⟩) (by assumption) ?tbq1
          case taq1 =>
            intro wS hSw
            (try dsimp only at hSw)
            (have m0 := hSw.1.cell 0; have m1 := hSw.2.cell 0; have m2 := hSw.2.cell 1; simp only [rcells, List.getElem?_cons_zero, List.getElem?_cons_succ] at m0 m1 m2; clear hSw; go_simp)
            (try (with_reducible rfl))
          (try simp only [List.getElem_toArray, List.getElem_cons_zero, List.getElem_cons_succ, Act.put, List.setIfInBounds_toArray, List.set_cons_zero, List.set_cons_succ])
          refine' wpAnyH_take (i := 1) (v := _) rfl (by kernel_rfl) (by kernel_rfl) (by kernel_rfl) (fun _ _ _ h => h) (Or.inl ⟨by rfl, ?taq2⟩) (by assumption) ?tbq2
          case taq2 =>
            intro wS hSw
            (try dsimp only at hSw)
            (have m0 := hSw.1.cell 0; have m1 := hSw.2.cell 0; have m2 := hSw.2.cell 1; simp only [rcells, List.getElem?_cons_zero, List.getElem?_cons_succ] at m0 m1 m2; clear hSw; go_simp)
            (try (with_reducible rfl))
          (try simp only [List.getElem_toArray, List.getElem_cons_zero, List.getElem_cons_succ, Act.put, List.setIfInBounds_toArray, List.set_cons_zero, List.set_cons_succ])
          refine' wpAnyH_take (i := 2) (v := _) rfl (by kernel_rfl) (by kernel_rfl) (by kernel_rfl) (fun _ _ _ h => h) (Or.inl ⟨by rfl, ?taq3⟩) (by assumption) ?tbq3
          case taq3 =>
            intro wS hSw
            (try dsimp only at hSw)
            (have m0 := hSw.1.cell 0; have m1 := hSw.2.cell 0; have m2 := hSw.2.cell 1; simp only [rcells, List.getElem?_cons_zero, List.getElem?_cons_succ] at m0 m1 m2; clear hSw; go_simp)
            (try (with_reducible rfl))
          (try simp only [List.getElem_toArray, List.getElem_cons_zero, List.getElem_cons_succ, Act.put, List.setIfInBounds_toArray, List.set_cons_zero, List.set_cons_succ])
          refine' wpAnyH_take (i := 3) (v := _) rfl (by kernel_rfl) (by kernel_rfl) (by kernel_rfl) (fun _ _ _ h => h) (Or.inl ⟨by rfl, ?taq4⟩) (by assumption) ?tbq4
          case taq4 =>
            intro wS hSw
            (try dsimp only at hSw)
            (have m0 := hSw.1.cell 0; have m1 := hSw.2.cell 0; have m2 := hSw.2.cell 1; simp only [rcells, List.getElem?_cons_zero, List.getElem?_cons_succ] at m0 m1 m2; clear hSw; go_simp)
            (try (with_reducible rfl))
          (try simp only [List.getElem_toArray, List.getElem_cons_zero, List.getElem_cons_succ, Act.put, List.setIfInBounds_toArray, List.set_cons_zero, List.set_cons_succ])
          refine' wpAnyH_take (i := 4) (v := _) rfl (by kernel_rfl) (by kernel_rfl) (by kernel_rfl) (fun _ _ _ h => h) (Or.inl ⟨by rfl, ?taq5⟩) (by assumption) ?tbq5
          case taq5 =>
            intro wS hSw
            (try dsimp only at hSw)
            (have m0 := hSw.1.cell 0; have m1 := hSw.2.cell 0; have m2 := hSw.2.cell 1; simp only [rcells, List.getElem?_cons_zero, List.getElem?_cons_succ] at m0 m1 m2; clear hSw; go_simp)
            (try (with_reducible rfl))
          (try simp only [List.getElem_toArray, List.getElem_cons_zero, List.getElem_cons_succ, Act.put, List.setIfInBounds_toArray, List.set_cons_zero, List.set_cons_succ])
          refine' wpAnyH_take (i := 5) (v := _) rfl (by kernel_rfl) (by kernel_rfl) (by kernel_rfl) (fun _ _ _ h => h) (Or.inl ⟨by rfl, ?taq6⟩) (by assumption) ?tbq6
          case taq6 =>
            intro wS hSw
            (try dsimp only at hSw)
            (have m0 := hSw.1.cell 0; have m1 := hSw.2.cell 0; have m2 := hSw.2.cell 1; simp only [rcells, List.getElem?_cons_zero, List.getElem?_cons_succ] at m0 m1 m2; clear hSw; go_simp)
            (try (with_reducible rfl))
          (try simp only [List.getElem_toArray, List.getElem_cons_zero, List.getElem_cons_succ, Act.put, List.setIfInBounds_toArray, List.set_cons_zero, List.set_cons_succ])
          refine' wpAnyH_take (i := 6) (v := _) rfl (by kernel_rfl) (by kernel_rfl) (by kernel_rfl) (fun _ _ _ h => h) (Or.inl ⟨by rfl, ?taq7⟩) (by assumption) ?tbq7
          case taq7 =>
            intro wS hSw
            (try dsimp only at hSw)
            (have m0 := hSw.1.cell 0; have m1 := hSw.2.cell 0; have m2 := hSw.2.cell 1; simp only [rcells, List.getElem?_cons_zero, List.getElem?_cons_succ] at m0 m1 m2; clear hSw; go_simp)
            (try (with_reducible rfl))
          (try simp only [List.getElem_toArray, List.getElem_cons_zero, List.getElem_cons_succ, Act.put, List.setIfInBounds_toArray, List.set_cons_zero, List.set_cons_succ])
          refine' wpAnyH_take (i := 7) (v := _) rfl (by kernel_rfl) (by kernel_rfl) (by kernel_rfl) (fun _ _ _ h => h) (Or.inl ⟨by rfl, ?taq8⟩) (by assumption) ?tbq8
          case taq8 =>
            intro wS hSw
            (try dsimp only at hSw)
            (have m0 := hSw.1.cell 0; have m1 := hSw.2.cell 0; have m2 := hSw.2.cell 1; simp only [rcells, List.getElem?_cons_zero, List.getElem?_cons_succ] at m0 m1 m2; clear hSw; go_simp)
            (try (with_reducible rfl))
          (try simp only [List.getElem_toArray, List.getElem_cons_zero, List.getElem_cons_succ, Act.put, List.setIfInBounds_toArray, List.set_cons_zero, List.set_cons_succ])
          refine' wpAnyH_take (i := 8) (v := _) rfl (by kernel_rfl) (by kernel_rfl) (by kernel_rfl) (fun _ _ _ h => h) (Or.inl ⟨by rfl, ?taq9⟩) (by assumption) ?tbq9
          case taq9 =>
            intro wS hSw
            (try dsimp only at hSw)
            (have m0 := hSw.1.cell 0; have m1 := hSw.2.cell 0; have m2 := hSw.2.cell 1; simp only [rcells, List.getElem?_cons_zero, List.getElem?_cons_succ] at m0 m1 m2; clear hSw; go_simp)
            (try (with_reducible rfl))
          (try simp only [List.getElem_toArray, List.getElem_cons_zero, List.getElem_cons_succ, Act.put, List.setIfInBounds_toArray, List.set_cons_zero, List.set_cons_succ])
          refine wpAnyH_ready (rs := [9]) (by kernel_rfl) (by simp) ?_
          refine AllReadyH.cons rfl (fun K9 hK9 => ?_) AllReadyH.nil
          (try simp only [List.getElem_toArray, List.getElem_cons_zero, List.getElem_cons_succ])
          have cg : (wr.alloc (.cells #[.int .i64 (e.1 : Int), .slice Ae e.2.length ce] 88)).drew.cell? ⟨g, e.1, none⟩ = some uo := HBC.out
          have fg : (wr.alloc (.cells #[.int .i64 (e.1 : Int), .slice Ae e.2.length ce] 88)).drew.frozen? ⟨g, e.1, none⟩ = false := hbgf
          go_simp
          refine hK9.out _ _ (⟨HPN.out.drew.far hpg _, HQ.out.drew.far (fun e => hgn e.symm) _⟩) (fun hHeld9 => ?_)
          clear hK9 K9
          (try simp only [List.getElem_toArray, List.getElem_cons_zero, List.getElem_cons_succ, Act.put, List.setIfInBounds_toArray, List.set_cons_zero, List.set_cons_succ])
          refine wpAnyH_done (by kernel_rfl) ?_ _
          have D3 := Lib.hid (D2.out.drew.put e.1 (.slice Ae e.2.length ce))
          clear cg fg HBC hbgf HPN HQ D2
          go_wp2
          go_roundw
          case rel => exact ⟨k + 1, vs.set e.1 (.slice Ae e.2.length ce), by omega, by go_num, Lib.hid (by rw [HT.out, applyL_snoc]; exact hvs.out.setAt HVE.out), Lib.hid (by have := D3.out; rwa [List.set_append_left _ _ (by rw [HVL.out]; exact hei)] at this)⟩
          case measure => simp [intOf]; omega
        · obtain rfl : k = m := by omega
          have hvl : vs.length = n := by rw [hvs.out.1, applyL_len, HN.out]
          have HVL := Lib.hid hvl
          have HV : Hid (Vs rs1 vs q.flushed.sure) := Lib.hid (by have := hvs.out; rwa [List.take_of_length_le (by rw [HM.out]; exact Nat.le_refl _)] at this)
          have HD5 := Lib.hid ((hdm.out.put2 1 (.slice none 0 0)).freezeP (sz := 1) (n := n) (c := c2) (by rw [HVL.out, Nat.mul_one]) hnc hcm)
          clear hvl hvs hdm HBP
          go_wp2
          go_ret
          rw [HW.out]
          refine ⟨rfl, .slice (some ⟨g, 0, none⟩) n c2, .slice none 0 0, (2, .slice none 0 0, []) :: (1, .slice (some ⟨g, 0, none⟩) n c2, vs) :: rs1, fun z hz => .tail _ (.tail _ (H1.out z hz)), HD5.out.read (Below.refl _ _) (ReadsIn.nil_ _ _), HFK.out, ⟨vs, .tail _ (.head _), HV.out.mono (fun z hz => .tail _ (.tail _ hz))⟩, ⟨[], .head _, rfl, fun i e he => by simp [Rk.flushed] at he⟩⟩
end
end Go.Proofs.Ytjddplddpdcmdaa
