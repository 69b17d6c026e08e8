/- Contract of the reference's disk: Read. -/
import Derived.Test.YtjddplddpdcmdaaSecRD1
namespace Go.Proofs.Ytjddplddpdcmdaa
open Go.RowKit
set_option linter.unusedVariables false
set_option linter.unusedSimpArgs false

theorem elem_byteR : ElemOf Try.prog 31 5 (.int .u8 0) 1 := ⟨Try.underlying31, by kernel_rfl, rfl⟩
theorem elem_rowsR : ElemOf Try.prog 22 31 (.slice none 0 0) 24 := ⟨Try.underlying22, by kernel_rfl, rfl⟩
theorem elem_put : ElemN Try.prog 77 88 2 (.agg #[.int .i64 0, .slice none 0 0]) 32 := ⟨Try.underlying77, by kernel_rfl, by rfl, by omega⟩
section
variable {w0 w w' W W' : World} {S : Nat → Prop} {ds ds' : List (Nat × Dk)} {bs bs' : List (Nat × TypeId × List Value)} {rs rs' rs0 : List (Nat × Value × List Value)} {p g k : Nat} {r r' : Rk} {svs : List Value} {xs : List (List UInt8)} {ps : List (Nat × Value)} {l : List (Nat × List UInt8)} {sv wv v u : Value}
theorem ReadsIn.at1 {ys : List Value} (h : ReadsIn 1 S w v ys) (hk : ys[k]? = some u) : ∃ g o c, v = .slice (some ⟨g, o, none⟩) ys.length c ∧ S g ∧ g < w.heap.size ∧ ys.length ≤ c ∧ w.cell? ⟨g, o + k, none⟩ = some u := by
  obtain ⟨A, n, c, e, hl, hc, hm, ha⟩ := h
  have hn := (List.getElem?_eq_some_iff.1 hk).1
  obtain ⟨g, o, rfl, hs, hg, hx⟩ := ha.out (by omega)
  exact ⟨g, o, c, by rw [e, hl, Nat.mul_one], hs, hg, by omega, hx k u hk⟩
theorem putV_len : ∀ e : Nat × Value, (putV e).length = 2 := fun e => rfl
theorem puts_len (ps : List (Nat × Value)) : (ps.flatMap putV).length = ps.length * 2 := flat_length putV 2 ps (fun e _ => putV_len e)
theorem ReadsIn.at2 (h : ReadsIn 2 S w v (ps.flatMap putV)) {e : Nat × Value} (hk : ps[k]? = some e) :
    ∃ g o c, v = .slice (some ⟨g, o, none⟩) ps.length c ∧ S g ∧ g < w.heap.size ∧ w.cell? ⟨g, o + k * 2, none⟩ = some (.int .i64 (e.1 : Int)) ∧ w.cell? ⟨g, o + k * 2 + 1, none⟩ = some e.2 := by
  obtain ⟨A, n, c, e', hl, hc, hm, ha⟩ := h
  rw [puts_len] at hl
  obtain rfl : ps.length = n := by omega
  have hn := (List.getElem?_eq_some_iff.1 hk).1
  obtain ⟨g, o, rfl, hs, hg, hx⟩ := ha.out (by omega)
  have hp := flat_part putV 2 ps (fun e _ => putV_len e) k e hk
  have h0 : (ps.flatMap putV)[k * 2]? = some (.int .i64 (e.1 : Int)) := by
    have := congrArg (fun l => l[0]?) hp
    simpa [putV, List.getElem?_take, List.getElem?_drop] using this
  have h1 : (ps.flatMap putV)[k * 2 + 1]? = some e.2 := by
    have := congrArg (fun l => l[1]?) hp
    simpa [putV, List.getElem?_take, List.getElem?_drop] using this
  exact ⟨g, o, c, e', hs, hg, hx _ _ h0, by have := hx _ _ h1; rwa [← Nat.add_assoc] at this⟩
theorem RDk.form (h : RDk rs sv wv r) (hd : DM w0 W ds bs rs) : (∃ A c, sv = .slice A r.sure.length c) ∧ ∃ A c, wv = .slice A r.log.length c := by
  obtain ⟨h1, ⟨svs, h2, h3⟩, ps, h4, h5⟩ := h
  obtain ⟨U, _, h6⟩ := hd.reads h2
  obtain ⟨A, c, e, _⟩ := h6.reads.form
  obtain ⟨U, _, B, n, c2, e2, hl, _⟩ := hd.reads h4
  rw [puts_len] at hl
  exact ⟨⟨A, c, by rw [← h3.1]; exact e⟩, B, c2, by rw [← h5.1]; exact (by omega : ps.length = n) ▸ e2⟩
theorem RDk.logMax (h : RDk rs sv wv r) (hd : DM w0 W ds bs rs) : r.log.length ≤ 9223372036854775807 := by
  obtain ⟨h1, ⟨svs, h2, h3⟩, ps, h4, h5⟩ := h
  obtain ⟨U, _, B, n, c2, e2, hl, hc, hm, _⟩ := hd.reads h4
  rw [puts_len] at hl
  simp only at hl
  unfold maxLen at hm
  rw [← h5.1]
  omega
theorem DM.form1 (hd : DM w0 W ds bs rs) {x : List UInt8} (hx : (1, v, bytesV x) ∈ rs) : ∃ A c, v = .slice A x.length c := by
  obtain ⟨U, _, h6⟩ := hd.reads hx
  obtain ⟨A, c, e, _⟩ := h6.reads.form
  exact ⟨A, c, by rw [length_bytesV] at e; exact e⟩
theorem lastL_len (j : Nat) : ∀ (l : List (Nat × List UInt8)) (b : List UInt8), (∀ e ∈ l, e.2.length = 64) → b.length = 64 → (lastL j l b).length = 64
  | [], b, _, h => h
  | e :: l, b, hl, h => lastL_len j l _ (fun x hx => hl x (by simp [hx])) (by split; exact hl e (by simp); exact h)
theorem own_readsIn {base n : Nat} {e : TypeId} {xs : List Value} {sz : Nat} (hs : 0 < sz) (h : w.ownsRow base e sz v n xs) {T : Nat → Prop} (hT : ∀ i, v.ownBlock = some i → T i) : ReadsIn sz T w v xs := (ReadsIn.of_own hs h).imp (fun i hi _ => hT i hi)
set_option maxHeartbeats 1600000 in
set_option maxRecDepth 100000 in
theorem rread_any (h : RM w0 W ds p r bs rs0) (i : Int) (res : List UInt8 × Int) (hr : r.read i = res) : Calls Try.prog 40 #[.pointer (some ⟨p, 0, none⟩), .int .i64 i] W fun en W' =>
    (res.2 ≠ 0 ∧ en = .returned (.tuple #[.slice none 0 0, .int .i64 res.2]) ∧ RM w0 W' ds p r bs rs0) ∨ (res.2 = 0 ∧ res.1.length = 64 ∧ ∃ A c, en = .returned (.tuple #[.slice A 64 c, .int .i64 0]) ∧ RM w0 W' ds p r bs ((1, .slice A 64 c, bytesV res.1) :: rs0)) := by
  have HH := Lib.hid h
  obtain ⟨sv, wv, rs, h1, h2, h3⟩ := h
  obtain ⟨⟨A, c, rfl⟩, Aw, cw, rfl⟩ := h3.form h2
  have hb := h2.blk (.head _)
  have k0 := hb.cell 0
  have k1 := hb.cell 1
  have k4 := hb.cell 4
  have hp := hb.lt
  simp only [rcells, List.getElem?_cons_zero, List.getElem?_cons_succ] at k0 k1 k4
  have hm9 := h3.logMax h2
  obtain ⟨n, hn⟩ : ∃ n, r.sure.length = n := ⟨_, rfl⟩
  obtain ⟨m, hm⟩ : ∃ m, r.log.length = m := ⟨_, rfl⟩
  obtain ⟨dn, hd⟩ : ∃ d, r.down = d := ⟨_, rfl⟩
  have HR := Lib.hid hr
  have HD := Lib.hid hd
  rw [hn] at k0 h2
  rw [hm] at k1 h2 hm9
  rw [hd] at k4
  have HI : Hid (r.hasI i = (decide (0 ≤ i) && decide (i < (n : Int)))) := Lib.hid (by rw [← hn]; rfl)
  rw [hn, hm] at h3
  have H1 := Lib.hid h1
  have H2 := Lib.hid h2
  have H3 := Lib.hid h3
  have HN := Lib.hid hn
  have HM := Lib.hid hm
  clear h1 h2 h3 hb hn hm hd hr
  by_cases hi0 : i < 0
  · have t0 : decide (i < 0) = true := by simp; omega
    have HW : Hid (res = ([], 1)) := Lib.hid (by rw [← HR.out]; unfold Rk.read; rw [HI.out, if_neg (by simp; omega)])
    go_enter Try.func40, Try.ntmps40
    go_wp2
    refine bodyPost_ret (v := .tuple #[.slice none 0 0, .int .i64 1]) (by simp [results, Try.results40, go_sem]) rfl ?_
    rw [HW.out]
    exact .inl ⟨by simp, rfl, HH.out⟩
  · have t0 : decide (i < 0) = false := by simp; omega
    by_cases hi1 : (n : Int) ≤ i
    · have t1 : decide ((n : Int) ≤ i) = true := by simp; omega
      have HW : Hid (res = ([], 1)) := Lib.hid (by rw [← HR.out]; unfold Rk.read; rw [HI.out, if_neg (by simp; omega)])
      go_enter Try.func40, Try.ntmps40
      go_wp2
      refine bodyPost_ret (v := .tuple #[.slice none 0 0, .int .i64 1]) (by simp [results, Try.results40, go_sem]) rfl ?_
      rw [HW.out]
      exact .inl ⟨by simp, rfl, HH.out⟩
    · have t1 : decide ((n : Int) ≤ i) = false := by simp; omega
      obtain ⟨j, rfl⟩ : ∃ j : Nat, i = j := ⟨i.toNat, by omega⟩
      have hj : j < n := by omega
      cases dn with
      | true =>
        have HW : Hid (res = ([], 9)) := Lib.hid (by rw [← HR.out]; unfold Rk.read; rw [HI.out, HD.out, if_pos (by simp; omega)]; rfl)
        go_enter Try.func40, Try.ntmps40
        go_wp2
        refine bodyPost_ret (v := .tuple #[.slice none 0 0, .int .i64 9]) (by simp [results, Try.results40, go_sem]) rfl ?_
        rw [HW.out]
        exact .inl ⟨by simp, rfl, HH.out⟩
      | false =>
        obtain ⟨x, hx⟩ : ∃ x, r.sure[j]? = some x := ⟨r.sure[j]'(by rw [HN.out]; exact hj), List.getElem?_eq_getElem _⟩
        have HW : Hid (res = (lastL j r.log x, 0)) := Lib.hid (by
          rw [← HR.out]; unfold Rk.read; rw [HI.out, HD.out, if_pos (by simp; omega)]
          rw [List.getD_eq_getElem?_getD, Int.toNat_natCast, hx]; rfl)
        have HLL : Hid ((lastL j r.log x).length = 64) := Lib.hid (lastL_len j r.log x (fun e he => (H3.out.ok.log e he).2) (H3.out.ok.sure x (List.mem_of_getElem? hx)))
        obtain ⟨svs, hs1, hs2⟩ := H3.out.sure
        obtain ⟨ps, hp1, hp2⟩ := H3.out.log
        obtain ⟨v, hv, hvr⟩ := hs2.2 j x hx
        obtain ⟨U, hU, hrd⟩ := H2.out.reads hs1
        obtain ⟨g, o, c', e1, _, hg, _, hcell⟩ := hrd.at1 hv
        injection e1 with e1 e2 e3
        subst e1 e3
        obtain ⟨Av, cv, rfl⟩ := H2.out.form1 hvr
        have i0 : (0 : Int) ≤ (j : Int) := by omega
        have i1 : (j : Int) < (n : Int) := by omega
        have HP1 := Lib.hid hp1
        have HP2 := Lib.hid hp2
        have HVR : Hid ((1, Value.slice Av x.length cv, bytesV (lastL j (r.log.take 0) x)) ∈ rs) := Lib.hid hvr
        clear hs1 hs2 hp1 hp2 hU hrd hx hv hvr e2
        go_enter Try.func40, Try.ntmps40
        go_wp2
        go_loopw [36, 6] (fun i b wr => ∃ (k : Nat) (v : Value), k ≤ m ∧ i = .int .i64 k ∧ b = v ∧ Hid ((1, v, bytesV (lastL j (r.log.take k) x)) ∈ rs) ∧ Hid (DM w0 wr ds ((p, 79, rcells (.slice (some ⟨g, o, none⟩) n c) (.slice Aw m cw) r) :: bs) rs)) (fun i _ _ => m - (intOf i).toNat)
        case atStart => exact ⟨0, _, by omega, rfl, rfl, HVR, H2⟩
        case round =>
          obtain ⟨k, v, hk, rfl, hbv, hvr, hdm⟩ := hrel
          have hbv2 := hbv.symm
          subst hbv2
          clear hbv
          clear HVR k0 k1 k4 hcell
          by_cases hlt : k < m
          · obtain ⟨e, he⟩ : ∃ e, r.log[k]? = some e := ⟨r.log[k]'(by rw [HM.out]; exact hlt), List.getElem?_eq_getElem _⟩
            obtain ⟨ve, hve, hver⟩ := HP2.out.2 k e he
            obtain ⟨U, hU, hrd⟩ := hdm.out.reads HP1.out
            obtain ⟨gw, ow, cw', e1, _, hgw, q0, q1⟩ := hrd.at2 hve
            injection e1 with e1 e2 e3
            subst e1 e3
            obtain ⟨Ae, ce, rfl⟩ := hdm.out.form1 hver
            simp only at q0 q1
            have HVE := Lib.hid hver
            have HT : Hid (r.log.take (k + 1) = r.log.take k ++ [e]) := Lib.hid (by rw [List.take_add_one, he]; rfl)
            have D2 := Lib.hid (hdm.out.below (((Below.refl wr.heap.size wr).alloc (Nat.le_refl _) (.cells #[.int .i64 (e.1 : Int), .slice Ae e.2.length ce] 88))))
            have i2 : (0 : Int) ≤ (k : Int) := by omega
            have i3 : (k : Int) < (m : Int) := by omega
            clear he hve hver hU hrd e2 hdm
            by_cases heq : e.1 = j
            · have t2 : ((e.1 : Int) == (j : Int)) = true := by simp; omega
              have HLN : Hid (lastL j (r.log.take (k + 1)) x = e.2) := Lib.hid (by rw [HT.out, lastL_snoc, if_pos heq])
              clear heq
              go_wp2
              go_roundw
              case rel => exact ⟨k + 1, _, by omega, by go_num, rfl, Lib.hid (by rw [HLN.out]; exact HVE.out), D2⟩
              case measure => simp [intOf]; omega
            · have t2 : ((e.1 : Int) == (j : Int)) = false := by simp; omega
              have HLN : Hid (lastL j (r.log.take (k + 1)) x = lastL j (r.log.take k) x) := Lib.hid (by rw [HT.out, lastL_snoc, if_neg heq])
              clear heq
              go_wp2
              go_roundw
              case rel => exact ⟨k + 1, _, by omega, by go_num, rfl, Lib.hid (by rw [HLN.out]; exact hvr.out), D2⟩
              case measure => simp [intOf]; omega
          · obtain rfl : k = m := by omega
            have HVR : Hid ((1, v, bytesV (lastL j r.log x)) ∈ rs) := Lib.hid (by have := hvr.out; rwa [List.take_of_length_le (by rw [HM.out]; exact Nat.le_refl _)] at this)
            have HRV := Lib.hid (hdm.out.reads1 HVR.out)
            generalize lastL j r.log x = y at HW HLL HVR HRV
            clear hvr
            go_wp2_with (at_builtin; refine wpList_extend elem_byteR _ rfl (.const (.slice none 0 0)) (.tmp 47) rfl wr.heap.size 0 (.slice none 0 0) [] rfl (World.ownsRow_nil _ _ _ _) wr.heap.size _ (bytesV y) rfl HRV.out (bytesV_one _) (by rw [length_bytesV, HLL.out]; unfold maxLen; omega) (by rw [length_bytesV, HLL.out]; omega) (Nat.le_refl _) ?_; intro A' c' w1 hown hgrow hfr; rw [length_bytesV, HLL.out] at hown ⊢)
            refine bodyPost_ret (v := .tuple #[.slice A' 64 c', .int .i64 0]) (by simp [results, Try.results40, go_sem]) rfl ?_
            rw [HW.out]
            rw [Nat.zero_add, List.nil_append] at hown
            have hbw := (Below.refl wr.heap.size wr).grown hgrow (Nat.le_refl _) (fun k hk => by cases hk)
            have hrd := own_readsIn (T := fun i => wr.heap.size ≤ i) (by omega) hown (fun i hi => (hown.lt i hi).1)
            refine .inr ⟨rfl, HLL.out, A', c', rfl, _, _, _ :: rs, fun z hz => ?_, hdm.out.read hbw hrd, H3.out.mono (fun z hz => .tail _ hz)⟩
            rcases List.mem_cons.1 hz with rfl | hz
            · exact .head _
            · exact .tail _ (H1.out z hz)
end
end Go.Proofs.Ytjddplddpdcmdaa
