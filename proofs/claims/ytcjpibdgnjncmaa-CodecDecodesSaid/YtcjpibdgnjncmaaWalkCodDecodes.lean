/- The walk of CodecDecodes. -/
import Derived.Test.YtcjpibdgnjncmaaWalkCodForms
import Derived.Test.YtcjpibdgnjncmaaCodRDec
import Derived.Test.YtcjpibdgnjncmaaCodOpenI
namespace Go.Proofs.Ytcjpibdgnjncmaa
open Go.RowKit
set_option linter.unusedVariables false
set_option linter.unusedSimpArgs false

theorem decOf_use {w w' : World} {bs : List UInt8} {en : Ending} (h : DecOf w bs en w') : DecUse w bs en w' := by
  obtain ⟨hb, ps, u, rfl, h1, h2, hown, hins⟩ := h
  have hlen : ps.length ≤ 12 ∧ ps.map (·.c) = (decode bs).2.2.2 ∧ (0 ≤ (decode bs).2.1 ∧ (decode bs).2.1 < 18446744073709551616) ∧ (-9223372036854775808 ≤ (decode bs).2.2.1 ∧ (decode bs).2.2.1 ≤ 9223372036854775807) := by
    by_cases he : (decode bs).1 = 0
    · obtain ⟨k1, k2, k3, k4⟩ := (decode_inv he).1
      have h3 := h1 he
      refine ⟨?_, h3, k1, by omega⟩
      rw [← h3, List.length_map] at k3
      exact k3
    · obtain ⟨k1, k2, k3⟩ := decode_none he
      rw [k1, k2, k3, h2 he]
      exact ⟨by simp, rfl, by omega, by omega⟩
  obtain ⟨hl12, hcs, hsd, hst⟩ := hlen
  obtain ⟨A, c, rfl⟩ := own_form hown
  refine ⟨A, c, ps, rfl, hb, ⟨rfl, hsd, hst, ?_⟩, hcs⟩
  exact ⟨ReadsN.of_own (by omega) hown, Lib.hid (fun x hx => (hins x hx).ok), ⟨A, c, rfl⟩, by dsimp only; omega⟩
theorem encB_len {w : World} {B : Nat} {v : Value} {d : StV} (h : StOf w B v d) : (encB d).length ≤ 700000 := by
  unfold encB
  by_cases hm : mayS d = true
  · rw [if_pos hm]
    have h1 := length_encPs (cs := d.ps.map (·.c)) (fun c hc => by
      obtain ⟨q, hq, rfl⟩ := List.mem_map.1 hc
      exact (mayS_of hm).2.2 q hq)
    have h2 := (mayS_of hm).2.1
    unfold encS encC
    rw [List.length_append, length_encH]
    rw [List.length_map] at h1
    omega
  · rw [if_neg hm]; simp
theorem two_same (q1 q2 : Int) (v v' : Value) (xs ys : List ParV) (cs : List ParC) (hx : xs.map (·.c) = cs) (hy : ys.map (·.c) = cs) : sameS ⟨q1, q2, v, xs⟩ ⟨q1, q2, v', ys⟩ = true := by
  unfold sameS
  simp only [Bool.and_eq_true, beq_self_eq_true, true_and]
  rw [sameCs_eq, hx, hy]
set_option maxRecDepth 100000 in
set_option maxHeartbeats 6400000 in
theorem codecDecodes_walk (v0 : Value) (a0 : StV) (v1 : Value) (ps : List Int) (a2 a3 : Int) (v4 : Value) (more : List UInt8) (w : World) (o0 : StOf w w.heap.size v0 a0) (o1 : IntsOf w v1 ps) (w2 : (Lit.int .u8 a2).wf = true) (w3 : (Lit.int .i64 a3).wf = true) (o4 : Reads w w.heap.size v4 (bytesV more) ∧ more.length ≤ 140737488351232) :
    Calls Try.prog 3 #[v0, v1, .int .u8 a2, .int .i64 a3, v4] w fun en w' => en = .returned (.bool true) ∧ Below w.heap.size w w' := by
  obtain ⟨x, rfl⟩ := byte_of w2
  obtain ⟨seed, step, lv, xs⟩ := a0
  have h0 := o0
  obtain ⟨rfl, _, _, hx⟩ := o0
  dsimp only at hx
  obtain ⟨A, k, rfl⟩ := hx.form
  obtain ⟨hr4, hl4⟩ := o4
  obtain ⟨A4, c4, rfl, _, _⟩ := hr4.form
  obtain ⟨A1, c1, rfl, _, _⟩ := o1.rd.form
  rw [length_bytesV] at hr4 ⊢
  rw [length_ints] at o1 ⊢
  have hb0 := (Below.refl w.heap.size w).alloc (Nat.le_refl _) (.cells #[.int .u64 seed, .int .i64 step, .slice A xs.length k] 25)
  have hk0 := Blk.fresh w 25 [.int .u64 seed, .int .i64 step, .slice A xs.length k]
  have HB := Lib.hid hb0
  have HK := Lib.hid hk0
  have HD := Lib.hid (h0.below hb0)
  have HR4 := Lib.hid hr4
  have HP := Lib.hid o1
  have hpl := o1.len
  have s1 := hb0.size
  have l1 := hk0.lt
  clear h0 hx hb0 hk0 hr4 o1 w2 w3
  by_cases h3 : 300 < more.length
  · have t3 : decide ((300 : Int) < (more.length : Int)) = true := by simp; omega
    go_enter Try.func3, Try.ntmps3
    go_wp2_with fail
    generalize (w.alloc (.cells #[.int .u64 seed, .int .i64 step, .slice A xs.length k] 25)) = w1 at HB HK HD s1 l1 ⊢
    refine (light_any _ _ w1 w.heap.size s1 HD.out).mono ?_
    rintro en w2 ⟨⟨b2, rfl⟩, hw⟩
    have HB2 := Lib.hid (HB.out.trans (hw.mono s1))
    have s2 := HB2.out.size
    clear HB HK HD hw s1 l1
    cases b2 <;>
    · go_wp2_with (go_at_call 9; refine (awake24_any _).mono ?_; rintro en w' ⟨rfl, hb9⟩)
      go_ret
      exact ⟨rfl, HB2.out.trans (hb9.mono s2)⟩
  · have t3 : decide ((300 : Int) < (more.length : Int)) = false := by simp; omega
    go_enter Try.func3, Try.ntmps3
    go_wp2_with fail
    generalize (w.alloc (.cells #[.int .u64 seed, .int .i64 step, .slice A xs.length k] 25)) = w1 at HB HK HD s1 l1 ⊢
    refine (light_any _ _ w1 w.heap.size s1 HD.out).mono ?_
    rintro en w2 ⟨⟨b2, rfl⟩, hw⟩
    have HB2 := Lib.hid (HB.out.trans (hw.mono s1))
    have HK2 := Lib.hid (HK.out.below hw l1)
    have HD2 := Lib.hid (HD.out.below (hw.mono s1))
    have s2 := HB2.out.size
    have l2 := HK2.out.lt
    clear HB HK HD hw s1 l1
    cases b2 with
    | false =>
      go_wp2_with (go_at_call 9; refine (awake24_any _).mono ?_; rintro en w' ⟨rfl, hb9⟩)
      go_ret
      exact ⟨rfl, HB2.out.trans (hb9.mono s2)⟩
    | true =>
      have m0 := HK2.out.cell 0
      have m1 := HK2.out.cell 1
      have m2 := HK2.out.cell 2
      simp only [List.getElem?_cons_zero, List.getElem?_cons_succ] at m0 m1 m2
      go_wp2_with fail
      refine (rcenc_any _ _ w2 w.heap.size s2 HD2.out).mono ?_
      clear m0 m1 m2
      intro en w3 hen
      obtain ⟨hw, A3, c3, rfl, ho3⟩ := hen.use
      have hln := encB_len HD2.out
      generalize encE ⟨seed, step, .slice A xs.length k, xs⟩ = ee
      generalize encB ⟨seed, step, .slice A xs.length k, xs⟩ = bs0 at hln ho3 ⊢
      obtain ⟨n, hn⟩ : ∃ n, bs0.length = n := ⟨_, rfl⟩
      rw [hn] at hln ho3 ⊢
      have HB3 := Lib.hid (HB2.out.trans (hw.mono s2))
      have s3 := HB3.out.size
      have HO3 := Lib.hid (own_lower ho3 s2)
      clear hw hen ho3 HB2 HK2 HD2 s2 l2 t3
      go_upto_if 37 with fail
      go_cut [11] (fun s wx => ∃ (A : Option Addr) (k c : Nat) (bs : List UInt8), s = .slice A k c ∧ k ≤ 700000 ∧ Hid (bs.length = k) ∧ Hid (wx.ownsRow w.heap.size 5 1 (.slice A k c) k (bytesV bs)) ∧ Hid (Below w.heap.size w wx))
      case first =>
        by_cases h0 : n = 0
        · subst h0
          go_wp2_with fail
          go_meet
          case rel => exact ⟨A3, 0, c3, bs0, rfl, by omega, Lib.hid hn, HO3, HB3⟩
        · have HN := Lib.hid hn
          obtain ⟨g, _, _, e3, hg, _, hnc, _, _, _, _⟩ := own_blk HO3.out (by omega)
          injection e3 with e31 _ e33
          subst e31 e33
          have t0 : decide ((0 : Int) < (n : Int)) = true := by simp; omega
          have u1 : IntKind.u64.wrap (n : Int) = (n : Int) := by rw [IntKind.wrap_u64]; omega
          clear hn
          go_wp2_with fail
          go_loopw [40] (fun i wr => ∃ (j : Nat) (bs : List UInt8), j ≤ ps.length ∧ i = .int .i64 j ∧ Hid (bs.length = n) ∧ Hid (wr.ownsRow w.heap.size 5 1 (.slice (some ⟨g, 0, none⟩) n c3) n (bytesV bs)) ∧ Hid (Below w.heap.size w wr)) (fun i _ => ps.length - (intOf i).toNat)
          case atStart => exact ⟨0, bs0, by omega, rfl, HN, HO3, HB3⟩
          case round =>
            obtain ⟨j, bs, hj, rfl, hbn, hown, hbel⟩ := hrel
            clear HO3 HB3 HN t0
            by_cases hlt : j < ps.length
            · have t1 : decide ((j : Int) < (ps.length : Int)) = true := by simp; omega
              obtain ⟨A5, n5, c5, e5, _, _, _, hat⟩ := HP.out.rd.below hbel.out
              injection e5 with e51 e52 e53
              subst e51 e52 e53
              obtain ⟨gp, op, rfl, hgp, hxp⟩ := hat.out (by omega)
              have r1 := hxp j (.int .i64 ps[j]) (ints_at _ _ _ hlt)
              obtain ⟨y, hy⟩ : ∃ y, ps[j] = y := ⟨_, rfl⟩
              rw [hy] at r1
              have i1 : (0 : Int) ≤ (j : Int) := by omega
              have i2 : (j : Int) < (ps.length : Int) := by omega
              clear hat hxp hy HP
              by_cases h3' : j < 3
              · have t2 : decide ((j : Int) < 3) = true := by simp; omega
                obtain ⟨m, hm, hmn⟩ := mod_lt2 y (n : Int) (by omega) (by omega)
                obtain ⟨⟨bb, hbb⟩, hfz, hlg, _⟩ := byte_at hown.out (j := m) (by omega)
                have hxr := xor_byte bb x
                have i3 : (0 : Int) ≤ (m : Int) := by omega
                go_wp2_with fail
                have HO5 := Lib.hid (own_byte hown.out (j := m) (by omega) (bb ^^^ x))
                have HB5 := Lib.hid (hbel.out.setCell (p := ⟨g, m, none⟩) hg (.int .u8 ((bb ^^^ x).toNat : Int)))
                clear hxr hbb hfz hm t1 t2 hown hbel
                go_roundw
                case rel => exact ⟨j + 1, bs.set m (bb ^^^ x), by omega, by go_num, Lib.hid (by rw [List.length_set, hbn.out]), HO5, HB5⟩
                case measure => simp [intOf]; omega
              · have t2 : decide ((j : Int) < 3) = false := by simp; omega
                go_wp2_with fail
                clear t1 t2
                go_roundw
                case rel => exact ⟨j + 1, bs, by omega, by go_num, hbn, hown, hbel⟩
                case measure => simp [intOf]; omega
            · have t1 : decide ((j : Int) < (ps.length : Int)) = false := by simp; omega
              obtain ⟨m, hm, hmn⟩ := mod_lt2 a3 (n : Int) (by omega) (by omega)
              obtain ⟨q, hq⟩ : ∃ q : Nat, q + m = n := ⟨n - m, by omega⟩
              have hnm : (n : Int) - (m : Int) = (q : Int) := by omega
              have i3 : (0 : Int) ≤ (q : Int) := by omega
              have i4 : (q : Int) ≤ (c3 : Int) := by omega
              go_wp2_with fail
              go_meet
              case rel => exact ⟨_, q, c3, bs.take q, rfl, by omega, Lib.hid (by rw [List.length_take, hbn.out]; omega), Lib.hid (by rw [← bytesV_take]; exact own_take hown.out (by omega)), hbel⟩
      case rest =>
        obtain ⟨A5, k5, c5, bs, rfl, hk5, hbn, hown, hbel⟩ := hcut
        clear HO3 HB3
        have s5 := hbel.out.size
        have R5 := Lib.hid (HR4.out.below hbel.out)
        go_wp2_with (at_builtin; refine wpList_extend elem_byte _ rfl (.tmp 70) (.tmp 71) rfl w.heap.size k5 _ _ rfl hown.out w.heap.size _ (bytesV more) rfl R5.out (bytesV_one _) (by rw [length_bytesV]; unfold maxLen; omega) (by rw [length_bytesV]; omega) s5 ?_; intro A6 c6 w6 hown6 hg6 hf6; simp only [length_bytesV] at hown6 ⊢)
        rw [bytesV_append] at hown6
        have HB6 := Lib.hid (hbel.out.grown hg6 s5 (fun k hk => (hown.out.lt k hk).1))
        have HR6 := Lib.hid (Reads.of_own hown6)
        have s6 := HB6.out.size
        have hbl : (bs ++ more).length ≤ 1048576 := by rw [List.length_append, hbn.out]; omega
        generalize bs ++ more = cs at HR6 hbl
        clear hown6 hg6 hf6 hown hbel HR4 R5
        refine (cdec_use _ cs w6 w6.heap.size (Nat.le_refl _) HR6.out (by omega)).mono ?_
        rintro en w7 ⟨A7, c7, ys, rfl, hw, hey, hy⟩
        have HB7 := Lib.hid (HB6.out.trans (hw.mono s6))
        have s7 := HB7.out.size
        have z7 := hw.size
        have HW67 := Lib.hid hw
        have HD7 := Lib.hid hey
        have HY := Lib.hid hy
        have HC := Lib.hid (show ∀ W, w6.heap.size ≤ W.heap.size → Below w6.heap.size w6 W → Calls Try.prog 12 #[.slice A6 (k5 + more.length) c6] W (DecUse W cs) from fun W h1 h2 => (rcdec_any _ cs W w6.heap.size h1 (HR6.out.below h2) hbl).mono fun _ _ h => decOf_use h)
        clear hw hy hey HB6 HR6 hbl
        unfold DecUse at HC
        generalize decode cs = dd at *
        obtain ⟨e0, q1, q2, cs0⟩ := dd
        dsimp only at HC HD7 HY ⊢
        have hba := (Below.refl w7.heap.size w7).alloc (Nat.le_refl _) (.cells #[.int .u64 q1, .int .i64 q2, .slice A7 ys.length c7] 25)
        have HKA := Lib.hid (Blk.fresh w7 25 [.int .u64 q1, .int .i64 q2, .slice A7 ys.length c7])
        have HDA := Lib.hid (HD7.out.below hba)
        have HBA := Lib.hid (HB7.out.trans (hba.mono s7))
        have H67 := Lib.hid (HW67.out.trans (hba.mono z7))
        have sA := HBA.out.size
        have lA := HKA.out.lt
        have zA := H67.out.size
        clear hba HD7 HB7 HW67
        go_wp2_with fail
        generalize (w7.alloc (.cells #[.int .u64 q1, .int .i64 q2, .slice A7 ys.length c7] 25)) = wA at HKA HDA HBA H67 sA lA zA ⊢
        refine (HC.out wA zA H67.out).mono ?_
        rintro en w8 ⟨A8, c8, zs, rfl, hw, hdz, hz⟩
        have HB8 := Lib.hid (HBA.out.trans (hw.mono sA))
        have HK8 := Lib.hid (HKA.out.below hw lA)
        have z8 := hw.size
        have HD8 := Lib.hid ((HDA.out.below (hw.mono (by omega))).more (B' := w8.heap.size) (by omega))
        have HE8 := Lib.hid hdz
        have HSM := Lib.hid (two_same q1 q2 (.slice A7 ys.length c7) (.slice A8 zs.length c8) ys zs cs0 HY.out hz)
        have s8 := HB8.out.size
        have hba := (Below.refl w8.heap.size w8).alloc (Nat.le_refl _) (.cells #[.int .u64 q1, .int .i64 q2, .slice A8 zs.length c8] 25)
        have HKB := Lib.hid (Blk.fresh w8 25 [.int .u64 q1, .int .i64 q2, .slice A8 zs.length c8])
        have HKC := Lib.hid (HK8.out.below hba HK8.out.lt)
        have HDB := Lib.hid (HD8.out.below hba)
        have HDC := Lib.hid (HE8.out.below hba)
        have HBB := Lib.hid (HB8.out.trans (hba.mono s8))
        have sB := HBB.out.size
        have zB := hba.size
        have lB := HKB.out.lt
        have lC := HKC.out.lt
        have z3 : (e0 == e0) = true := by simp
        have m0 := HKB.out.cell 0
        have m1 := HKB.out.cell 1
        have m2 := HKB.out.cell 2
        simp only [List.getElem?_cons_zero, List.getElem?_cons_succ] at m0 m1 m2
        have u0 := HKC.out.cell 0
        have u1 := HKC.out.cell 1
        have u2 := HKC.out.cell 2
        simp only [List.getElem?_cons_zero, List.getElem?_cons_succ] at u0 u1 u2
        clear hw hdz hz hba HK8 HD8 HE8 HB8 HKA HDA HBA H67 HC
        go_wp2_with fail
        generalize (w8.alloc (.cells #[.int .u64 q1, .int .i64 q2, .slice A8 zs.length c8] 25)) = wB at *
        refine (rsames_any _ _ _ _ wB w8.heap.size zB HDB.out HDC.out true HSM.out).mono ?_
        clear m0 m1 m2 u0 u1 u2
        rintro en w9 ⟨rfl, hw⟩
        have HB9 := Lib.hid (HBB.out.trans (hw.mono sB))
        have s9 := HB9.out.size
        clear hw
        go_wp2_with (go_at_call 9; refine (awake24_any _).mono ?_; rintro en w' ⟨rfl, hb9⟩)
        go_ret
        exact ⟨rfl, HB9.out.trans (hb9.mono s9)⟩
end Go.Proofs.Ytcjpibdgnjncmaa
