/- The walk of CodecBack. -/
import Derived.Test.YtcjpibdgnjncmaaCodUse
import Derived.Test.YtcjpibdgnjncmaaOpenS
namespace Go.Proofs.Ytcjpibdgnjncmaa
open Go.RowKit
set_option linter.unusedVariables false
set_option linter.unusedSimpArgs false

theorem back_zero {s : StV} (h : okN s.seed s.step s.cs) : decode (encS s) = (0, s.seed, s.step, s.cs) := by
  have h := decode_ok h []
  rw [List.append_nil, if_pos rfl] at h
  exact h
theorem back_more {s : StV} (h : okN s.seed s.step s.cs) : (decode (encS s ++ [0])).1 = 5 := by
  have h := decode_ok h [0]
  rw [if_neg (by simp)] at h
  rw [StV.encS_eq, h]
theorem length_encS_le {s : StV} (h : okN s.seed s.step s.cs) : 0 < (encS s).length ∧ (encS s).length ≤ 700000 := by
  rw [StV.encS_eq]
  unfold encC
  rw [List.length_append, length_encH]
  have h1 := length_encPs (fun p hp => (h.2.2.2 p hp).1)
  have h2 := h.2.2.1
  omega
theorem own_emptyC (W : World) (base : Nat) (e : TypeId) (g : Nat) (hg : g = W.heap.size) (h : base ≤ W.heap.size) : (W.alloc (.cells #[] e)).ownsRow base e 1 (.slice (some ⟨g, 0, none⟩) 0 0) 0 [] := by
  subst hg
  have := (Blk.fresh W e []).own (size := 1) (n := 0) (cap := 0) h (Nat.le_refl _) (by unfold maxLen; omega) (by simp)
  simpa using this
set_option maxRecDepth 100000 in
set_option maxHeartbeats 3200000 in
theorem codecBack_walk (v0 : Value) (a0 : StV) (v1 : Value) (bs : List UInt8) (w : World) (o0 : StOf w w.heap.size v0 a0) (o1 : Reads w w.heap.size v1 (bytesV bs) ∧ bs.length ≤ 140737488351232) :
    Calls Try.prog 7 #[v0, v1] w fun en w' => en = .returned (.bool true) ∧ Below w.heap.size w w' := by
  obtain ⟨seed, step, lv, ps⟩ := a0
  have h0 := o0
  obtain ⟨rfl, _, _, hx⟩ := o0
  obtain ⟨hr1, hl1⟩ := o1
  obtain ⟨A1, c1, rfl, _, _⟩ := hr1.form
  rw [length_bytesV] at hr1 ⊢
  dsimp only at hx h0 ⊢
  obtain ⟨A, k, rfl⟩ := hx.form
  have hlen := hx.len
  have hb0 := (Below.refl w.heap.size w).alloc (Nat.le_refl _) (.cells #[.int .u64 seed, .int .i64 step, .slice A ps.length k] 25)
  have hk0 := Blk.fresh w 25 [.int .u64 seed, .int .i64 step, .slice A ps.length k]
  have HB := Lib.hid hb0
  have HK := Lib.hid hk0
  have hd1 := h0.below hb0
  have HD := Lib.hid hd1
  have HY := Lib.hid h0
  have HR := Lib.hid hr1
  have hl := hk0.lt
  have hs := hb0.size
  have HL := Lib.hid (light_any _ _ (w.alloc (.cells #[.int .u64 seed, .int .i64 step, .slice A ps.length k] 25)) w.heap.size hs hd1)
  clear h0 hx hb0 hk0 hd1 hr1
  by_cases h5 : 5000 < bs.length
  · have t5 : decide ((5000 : Int) < (bs.length : Int)) = true := by simp; omega
    go_enter Try.func7, Try.ntmps7
    go_wp2_with fail
    generalize (w.alloc (.cells #[.int .u64 seed, .int .i64 step, .slice A ps.length k] 25)) = w1 at HB HK HD hl hs HL ⊢
    refine HL.out.mono ?_
    rintro en w2 ⟨⟨b2, rfl⟩, hw2⟩
    have HB2 := Lib.hid (HB.out.trans (hw2.mono hs))
    have s2 := HB2.out.size
    clear HD HK HB HL hw2
    cases b2 <;>
    · go_wp2_with (go_at_call 9; refine (awake24_any _).mono ?_; rintro en w' ⟨rfl, hb9⟩)
      go_ret
      exact ⟨rfl, HB2.out.trans (hb9.mono s2)⟩
  · have t5 : decide ((5000 : Int) < (bs.length : Int)) = false := by simp; omega
    go_enter Try.func7, Try.ntmps7
    go_wp2_with fail
    generalize (w.alloc (.cells #[.int .u64 seed, .int .i64 step, .slice A ps.length k] 25)) = w1 at HB HK HD hl hs HL ⊢
    refine HL.out.mono ?_
    rintro en w2 ⟨⟨b2, rfl⟩, hw2⟩
    have HK2 := Lib.hid (HK.out.below hw2 hl)
    have HB2 := Lib.hid (HB.out.trans (hw2.mono hs))
    have s2 := HB2.out.size
    have HD2 := Lib.hid (HD.out.below (hw2.mono hs))
    clear HD HK HB HL hw2
    cases b2 with
    | false =>
      go_wp2_with (go_at_call 9; refine (awake24_any _).mono ?_; rintro en w' ⟨rfl, hb9⟩)
      go_ret
      exact ⟨rfl, HB2.out.trans (hb9.mono s2)⟩
    | true =>
      have m0 := HK2.out.cell 0
      have m1 := HK2.out.cell 1
      have m2 := HK2.out.cell 2
      simp only [List.getElem?_cons_zero, List.getElem?_cons_succ] at m0 m1 m2
      go_wp2_with fail
      refine (cenc_any _ _ w2 w.heap.size s2 HD2.out).mono ?_
      clear m0 m1 m2
      rintro en w3 ⟨hb3, ⟨hm, rfl⟩ | ⟨hm, A3, c3, rfl, hown⟩⟩
      · have HB3 := Lib.hid (HB2.out.trans (hb3.mono s2))
        have s3 := HB3.out.size
        have HK3 := Lib.hid (HK2.out.below hb3 HK2.out.lt)
        have HD3 := Lib.hid (HD2.out.below (hb3.mono s2))
        have HM := Lib.hid hm
        clear hb3 hm HK2 HB2 HD2
        go_wp2_with fail
        refine (cdec_use _ [] w3 w3.heap.size (Nat.le_refl _) (Reads.nil_ _ _) (by simp)).mono ?_
        rintro en w4 ⟨A4, c4, ys, rfl, hb4, _, _⟩
        have HB4 := Lib.hid (HB3.out.trans (hb4.mono s3))
        have s4 := HB4.out.size
        have HK4 := Lib.hid (HK3.out.below hb4 HK3.out.lt)
        have HD4 := Lib.hid (HD3.out.below (hb4.mono s3))
        clear hb4 HK3 HB3 HD3
        have l4 := HK4.out.lt
        have m0 := HK4.out.cell 0
        have m1 := HK4.out.cell 1
        have m2 := HK4.out.cell 2
        simp only [List.getElem?_cons_zero, List.getElem?_cons_succ] at m0 m1 m2
        generalize (decode []).2.1 = y1
        generalize (decode []).2.2.1 = y2
        generalize (decode []).1 = y0
        have hb4' := (Below.refl w4.heap.size w4).alloc (Nat.le_refl _) (.cells #[.int .u64 y1, .int .i64 y2, .slice A4 ys.length c4] 25)
        have HB4' := Lib.hid hb4'
        clear hb4'
        go_wp2_with fail
        refine (cmay_any _ _ (w4.alloc (.cells #[.int .u64 y1, .int .i64 y2, .slice A4 ys.length c4] 25)) w.heap.size (by simp; omega) (HD4.out.below (HB4'.out.mono s4)) false HM.out).mono ?_
        rintro en wT ⟨rfl, hbT⟩
        have HBT := Lib.hid (HB4.out.trans ((HB4'.out.mono s4).trans (hbT.mono (by simp; omega))))
        clear hbT m0 m1 m2
        go_wp2_with fail
        clear HK4 HD4 HB4 HM HY s2 s3 s4 l4 HB4'
        have sT := HBT.out.size
        refine (cdec_use _ bs wT w.heap.size sT (HR.out.below HBT.out) hl1).mono ?_
        rintro en w8 ⟨A8, c8, zs, rfl, hb8, hst8, hcs8⟩
        have HB8 := Lib.hid (HBT.out.trans (hb8.mono sT))
        have s8 := HB8.out.size
        by_cases hq : (decode bs).1 = 0
        · obtain ⟨hk8, he8⟩ := decode_inv hq
          have hcs : StV.cs ⟨(decode bs).2.1, (decode bs).2.2.1, .slice A8 zs.length c8, zs⟩ = (decode bs).2.2.2 := hcs8
          have HM8 : Hid (mayS ⟨(decode bs).2.1, (decode bs).2.2.1, .slice A8 zs.length c8, zs⟩ = true) := Lib.hid (okN_mayS (by rw [hcs]; exact hk8))
          have HE8 : Hid (encS ⟨(decode bs).2.1, (decode bs).2.2.1, .slice A8 zs.length c8, zs⟩ = bs) := Lib.hid (by rw [StV.encS_eq, hcs]; exact he8)
          have HD8 := Lib.hid hst8
          rw [hq]
          generalize (decode bs).2.1 = q1 at HD8 HM8 HE8 ⊢
          generalize (decode bs).2.2.1 = q2 at HD8 HM8 HE8 ⊢
          have hba := (Below.refl w8.heap.size w8).alloc (Nat.le_refl _) (.cells #[.int .u64 q1, .int .i64 q2, .slice A8 zs.length c8] 25)
          have HKA := Lib.hid (Blk.fresh w8 25 [.int .u64 q1, .int .i64 q2, .slice A8 zs.length c8])
          have HDA := Lib.hid (HD8.out.below hba)
          have HBA := Lib.hid (HB8.out.trans (hba.mono s8))
          have sA := HBA.out.size
          have lA := HKA.out.lt
          clear hba hb8 hst8 hcs8 hcs hk8 he8 hq HD8 HBT sT
          go_wp2_with fail
          generalize (w8.alloc (.cells #[.int .u64 q1, .int .i64 q2, .slice A8 zs.length c8] 25)) = wA at HKA HDA HBA sA lA ⊢
          refine (cenc_any _ _ wA w8.heap.size (by omega) HDA.out).mono ?_
          rintro en w9 ⟨hb9, ⟨hm9, _⟩ | ⟨_, A9, c9, rfl, hown9⟩⟩
          · rw [HM8.out] at hm9; cases hm9
          · rw [HE8.out] at hown9 ⊢
            have HO9 := Lib.hid hown9
            have HB9 := Lib.hid (HBA.out.trans (hb9.mono sA))
            have s9 := HB9.out.size
            have HK9 := Lib.hid (HKA.out.below hb9 lA)
            have HD9 := Lib.hid (HDA.out.below (hb9.mono (by omega)))
            have l9 := HK9.out.lt
            have n9 : w8.heap.size ≤ w9.heap.size := by omega
            have m0 := HK9.out.cell 0
            have m1 := HK9.out.cell 1
            have m2 := HK9.out.cell 2
            simp only [List.getElem?_cons_zero, List.getElem?_cons_succ] at m0 m1 m2
            clear hb9 hown9 HKA HDA
            go_wp2_with fail
            refine (cmay_any _ _ w9 w8.heap.size n9 HD9.out true HM8.out).mono ?_
            rintro en w10 ⟨rfl, hb10⟩
            have HB10 := Lib.hid (HB9.out.trans (hb10.mono s9))
            have s10 := HB10.out.size
            have z1 := run_str_k ((Reads.of_own HO9.out).below hb10)
            have z2 := run_str_k (HR.out.below HB10.out)
            clear m0 m1 m2 hb10
            go_wp2_with (go_at_call 9; refine (awake24_any _).mono ?_; rintro en w' ⟨rfl, hb9⟩)
            go_ret
            exact ⟨rfl, HB10.out.trans (hb9.mono s10)⟩
        · have hzs : zs = [] := by
            have h3 := (decode_none hq).2.2
            rw [h3] at hcs8
            simpa using hcs8
          subst hzs
          have tq : ((decode bs).1 != 0) = true := by simpa using hq
          generalize (decode bs).1 = q0 at tq ⊢
          have hba := (Below.refl w8.heap.size w8).alloc (Nat.le_refl _) (.cells #[.int .u64 (decode bs).2.1, .int .i64 (decode bs).2.2.1, .slice A8 0 c8] 25)
          have HBA := Lib.hid (HB8.out.trans (hba.mono s8))
          have sA := HBA.out.size
          clear hq hcs8 hst8 hb8 hba
          dsimp only [List.length_nil]
          go_wp2_with (go_at_call 9; refine (awake24_any _).mono ?_; rintro en w' ⟨rfl, hb9⟩)
          go_ret
          exact ⟨rfl, HBA.out.trans (hb9.mono sA)⟩
      · have hN := stOf_okN HY.out hm
        have e0 := back_zero hN
        have e1 := decode_short hN
        have e2 := back_more hN
        have hlE := length_encS_le hN
        rw [← StV.encS_eq, List.dropLast_eq_take] at e1
        obtain ⟨E, hEE⟩ : ∃ E, encS ⟨seed, step, .slice A ps.length k, ps⟩ = E := ⟨_, rfl⟩
        rw [hEE] at e0 e1 e2 hlE hown ⊢
        obtain ⟨p0, p1⟩ := hlE
        have E0 := Lib.hid e0
        have E1 := Lib.hid e1
        have E2 := Lib.hid e2
        have HM := Lib.hid hm
        have HB3 := Lib.hid (HB2.out.trans (hb3.mono s2))
        have s3 := HB3.out.size
        have HK3 := Lib.hid (HK2.out.below hb3 HK2.out.lt)
        have HD3 := Lib.hid (HD2.out.below (hb3.mono s2))
        have HO3 := Lib.hid hown
        clear hb3 hm HK2 HB2 HD2 e0 e1 e2 hEE hown hN
        go_wp2_with fail
        refine (cdec_use _ E w3 w3.heap.size (Nat.le_refl _) (Reads.of_own HO3.out) (by omega)).mono ?_
        rintro en w4 ⟨A4, c4, ys, rfl, hb4, hst4, hcs4⟩
        have HB4 := Lib.hid (HB3.out.trans (hb4.mono s3))
        have s4 := HB4.out.size
        have HK4 := Lib.hid (HK3.out.below hb4 HK3.out.lt)
        have HD4 := Lib.hid (HD3.out.below (hb4.mono s3))
        have HO4 := Lib.hid ((Reads.of_own HO3.out).below hb4)
        have n3 := hb4.size
        rw [E0.out] at hst4 hcs4 ⊢
        dsimp only at hst4 hcs4 ⊢
        have HS : Hid (sameS ⟨seed, step, .slice A4 ys.length c4, ys⟩ ⟨seed, step, .slice A ps.length k, ps⟩ = true) := Lib.hid (by
          unfold sameS
          dsimp only
          rw [hcs4]
          have h1 := sameCs_refl (StV.cs ⟨seed, step, .slice A ps.length k, ps⟩)
          unfold StV.cs at h1 ⊢
          dsimp only at h1 ⊢
          rw [h1]
          simp)
        have HP := Lib.hid hst4
        have hba := (Below.refl w4.heap.size w4).alloc (Nat.le_refl _) (.cells #[.int .u64 seed, .int .i64 step, .slice A4 ys.length c4] 25)
        have HKA := Lib.hid (Blk.fresh w4 25 [.int .u64 seed, .int .i64 step, .slice A4 ys.length c4])
        have HPA := Lib.hid (HP.out.below hba)
        have HDA := Lib.hid (HD4.out.below (hba.mono s4))
        have HBA := Lib.hid (HB4.out.trans (hba.mono s4))
        have HKB := Lib.hid (HK4.out.below hba HK4.out.lt)
        have HOA := Lib.hid (HO4.out.below (hba.mono n3))
        have sA := HBA.out.size
        have lA := HKA.out.lt
        have lB := HKB.out.lt
        have m0 := HKB.out.cell 0
        have m1 := HKB.out.cell 1
        have m2 := HKB.out.cell 2
        simp only [List.getElem?_cons_zero, List.getElem?_cons_succ] at m0 m1 m2
        clear hb4 hst4 hcs4 HK3 HB3 HD3 hba HO4 HP HD4 HK4 E0 HB4
        go_wp2_with fail
        generalize (w4.alloc (.cells #[.int .u64 seed, .int .i64 step, .slice A4 ys.length c4] 25)) = wA at *
        refine (cmay_any _ _ wA w.heap.size sA HDA.out true HM.out).mono ?_
        clear m0 m1 m2
        rintro en w5 ⟨rfl, hb5⟩
        have HB5 := Lib.hid (HBA.out.trans (hb5.mono sA))
        have s5 := HB5.out.size
        have z5 := hb5.size
        have K5 := Lib.hid (HKB.out.below hb5 lB)
        have J5 := Lib.hid (HKA.out.below hb5 lA)
        have P5 := Lib.hid ((HPA.out.below (hb5.mono (by omega))))
        have D5 := Lib.hid (HDA.out.below (hb5.mono sA))
        have O5 := Lib.hid (HOA.out.below (hb5.mono (by omega)))
        have k5 := K5.out.lt
        have j5 := J5.out.lt
        have m0 := K5.out.cell 0
        have m1 := K5.out.cell 1
        have m2 := K5.out.cell 2
        simp only [List.getElem?_cons_zero, List.getElem?_cons_succ] at m0 m1 m2
        have u0 := J5.out.cell 0
        have u1 := J5.out.cell 1
        have u2 := J5.out.cell 2
        simp only [List.getElem?_cons_zero, List.getElem?_cons_succ] at u0 u1 u2
        clear hb5 HKB HKA HPA HDA HOA HBA
        go_wp2_with fail
        refine (csame_any _ _ _ ⟨seed, step, .slice A ps.length k, ps⟩ w5 w5.heap.size (Nat.le_refl _) (P5.out.more (by omega)) (D5.out.more s5) true HS.out).mono ?_
        clear m0 m1 m2 u0 u1 u2
        rintro en w6 ⟨rfl, hb6⟩
        have HB6 := Lib.hid (HB5.out.trans (hb6.mono s5))
        have O6 := Lib.hid (O5.out.below (hb6.mono (by omega)))
        have s6 := HB6.out.size
        have z6 := hb6.size
        clear hb6 K5 J5 P5 D5 O5 HB5 HS
        obtain ⟨m, hm⟩ : ∃ m, E.length = m + 1 := ⟨E.length - 1, by omega⟩
        obtain ⟨g3, k3, _, e3, _, _, hmc, hmx, _, _, _⟩ := own_blkN HO3.out (by omega)
        rw [hm] at e3 hmc ⊢
        injection e3 with e3 _ e4
        subst e3 e4
        have hm1 : m ≤ 700000 := by omega
        have i1 : (m : Int) ≤ (c3 : Int) := by omega
        have i2 : (0 : Int) ≤ (m : Int) := by omega
        have t0 : decide ((0 : Int) < (m : Int) + 1) = true := by rw [decide_eq_true_eq]; omega
        have EM := Lib.hid hm
        have hT := (ReadsN.of_one O6.out).take (k := m) (by omega)
        rw [Nat.mul_one, bytesV_take] at hT
        have HT := Lib.hid hT.one
        have e6 := E1.out
        rw [hm, Nat.add_sub_cancel] at e6
        have E6 := Lib.hid (show ((decode (E.take m)).1 == 0) = false by simpa using e6)
        clear hm p0 p1 e6 hT E1
        go_wp2_with fail
        refine (cdec_use _ _ w6 w3.heap.size (by omega) HT.out (by rw [List.length_take]; omega)).mono ?_
        rintro en w7 ⟨A7, c7, us, rfl, hb7, _, _⟩
        have t7 := E6.out
        have HB7 := Lib.hid (HB6.out.trans (hb7.mono s6))
        have O7 := Lib.hid (O6.out.below (hb7.mono (by omega)))
        have s7 := HB7.out.size
        have z7 := hb7.size
        generalize (decode (E.take m)).1 = f7 at t7 ⊢
        generalize (decode (E.take m)).2.1 = f8
        generalize (decode (E.take m)).2.2.1 = f9
        have O7' := O7.out
        rw [EM.out] at O7'
        have R7 := Lib.hid O7'
        have n7 : w3.heap.size ≤ w7.heap.size := by omega
        clear hb7 HB6 O6 HT E6 O7 O7'
        go_wp2_with (first
          | (at_builtin; refine wpList_extend elem_byte _ rfl (.tmp 71) (.tmp 72) rfl w7.heap.size 0 _ [] rfl (own_emptyC _ _ _ _ (World.size_alloc _ _).symm (by rw [World.size_alloc]; omega)) w3.heap.size _ (bytesV E) rfl ((R7.out.alloc n7 _).alloc (by rw [World.size_alloc]; omega) _) (bytesV_one _) (by rw [length_bytesV, EM.out]; unfold maxLen; omega) (by rw [length_bytesV, EM.out]; omega) (by rw [World.size_alloc, World.size_alloc]; omega) ?_; intro A8 c8 w8 hown8 hg8 hf8; simp only [length_bytesV, Nat.zero_add, List.nil_append, EM.out] at hown8 ⊢)
          | (at_builtin; refine wpList_extend elem_byte _ rfl (.tmp 73) (.tmp 74) rfl w7.heap.size (m + 1) _ _ rfl (hown8.alloc _) _ _ [.int .u8 0] rfl (Reads.one_ w8 _ _) (by simp [Value.oneCell']) (by simp only [List.length_cons, List.length_nil, maxLen]; omega) (by simp only [List.length_cons, List.length_nil]; omega) (by simp; have := hg8.size; simp at this; omega) ?_; intro A9 c9 w9 hown9 hg9 hf9; simp only [List.length_cons, List.length_nil, Nat.zero_add] at hown9 ⊢))
        have e9 : bytesV E ++ [.int .u8 0] = bytesV (E ++ [0]) := by rw [← bytesV_append]; rfl
        rw [e9] at hown9
        have HB9 := Lib.hid ((((HB7.out.alloc s7 _).alloc (by rw [World.size_alloc]; omega) _).grown hg8 (by rw [World.size_alloc, World.size_alloc]; omega) (fun k hk => by have hk2 := Option.some.inj hk; dsimp only at hk2; omega)).alloc (by have := hg8.size; rw [World.size_alloc, World.size_alloc] at this; omega) _ |>.grown hg9 (by have := hg8.size; rw [World.size_alloc, World.size_alloc] at this; rw [World.size_alloc]; omega) (fun k hk => by have := (hown8.lt k hk).1; omega))
        have R9 := Lib.hid (Reads.of_own hown9)
        clear e9 hown9 hown8 hg8 hg9 hf8 hf9 HB7 R7
        refine (cdec_use _ (E ++ [0]) w9 w9.heap.size (Nat.le_refl _) R9.out (by rw [List.length_append, EM.out]; simp; omega)).mono ?_
        rintro en wS ⟨A10, c10, us9, rfl, hb, _, _⟩
        rw [E2.out]
        generalize (decode (E ++ [0])).2.1 = x1
        generalize (decode (E ++ [0])).2.2.1 = x2
        have HBS := Lib.hid (HB9.out.trans (hb.mono HB9.out.size))
        have HBT := Lib.hid (HBS.out.alloc HBS.out.size (.cells #[.int .u64 x1, .int .i64 x2, .slice A10 us9.length c10] 25))
        clear hb HB9 HBS R9 E2
        go_wp2_with fail
        generalize (wS.alloc (.cells #[.int .u64 x1, .int .i64 x2, .slice A10 us9.length c10] 25)) = wT at HBT ⊢
        clear EM HM HY s2 s3 s5 s6 s7 z5 z6 z7 n7 sA lA lB k5 j5 t7 i1 i2 hm1 hmc hmx n3
        have sT := HBT.out.size
        refine (cdec_use _ bs wT w.heap.size sT (HR.out.below HBT.out) hl1).mono ?_
        rintro en w8 ⟨A8, c8, zs, rfl, hb8, hst8, hcs8⟩
        have HB8 := Lib.hid (HBT.out.trans (hb8.mono sT))
        have s8 := HB8.out.size
        by_cases hq : (decode bs).1 = 0
        · obtain ⟨hk8, he8⟩ := decode_inv hq
          have hcs : StV.cs ⟨(decode bs).2.1, (decode bs).2.2.1, .slice A8 zs.length c8, zs⟩ = (decode bs).2.2.2 := hcs8
          have HM8 : Hid (mayS ⟨(decode bs).2.1, (decode bs).2.2.1, .slice A8 zs.length c8, zs⟩ = true) := Lib.hid (okN_mayS (by rw [hcs]; exact hk8))
          have HE8 : Hid (encS ⟨(decode bs).2.1, (decode bs).2.2.1, .slice A8 zs.length c8, zs⟩ = bs) := Lib.hid (by rw [StV.encS_eq, hcs]; exact he8)
          have HD8 := Lib.hid hst8
          rw [hq]
          generalize (decode bs).2.1 = q1 at HD8 HM8 HE8 ⊢
          generalize (decode bs).2.2.1 = q2 at HD8 HM8 HE8 ⊢
          have hba := (Below.refl w8.heap.size w8).alloc (Nat.le_refl _) (.cells #[.int .u64 q1, .int .i64 q2, .slice A8 zs.length c8] 25)
          have HKA := Lib.hid (Blk.fresh w8 25 [.int .u64 q1, .int .i64 q2, .slice A8 zs.length c8])
          have HDA := Lib.hid (HD8.out.below hba)
          have HBA := Lib.hid (HB8.out.trans (hba.mono s8))
          have sA := HBA.out.size
          have lA := HKA.out.lt
          clear hba hb8 hst8 hcs8 hcs hk8 he8 hq HD8 HBT sT
          go_wp2_with fail
          generalize (w8.alloc (.cells #[.int .u64 q1, .int .i64 q2, .slice A8 zs.length c8] 25)) = wA at HKA HDA HBA sA lA ⊢
          refine (cenc_any _ _ wA w8.heap.size (by omega) HDA.out).mono ?_
          rintro en w9 ⟨hb9, ⟨hm9, _⟩ | ⟨_, A9, c9, rfl, hown9⟩⟩
          · rw [HM8.out] at hm9; cases hm9
          · rw [HE8.out] at hown9 ⊢
            have HO9 := Lib.hid hown9
            have HB9 := Lib.hid (HBA.out.trans (hb9.mono sA))
            have s9 := HB9.out.size
            have HK9 := Lib.hid (HKA.out.below hb9 lA)
            have HD9 := Lib.hid (HDA.out.below (hb9.mono (by omega)))
            have l9 := HK9.out.lt
            have n9 : w8.heap.size ≤ w9.heap.size := by omega
            have m0 := HK9.out.cell 0
            have m1 := HK9.out.cell 1
            have m2 := HK9.out.cell 2
            simp only [List.getElem?_cons_zero, List.getElem?_cons_succ] at m0 m1 m2
            clear hb9 hown9 HKA HDA
            go_wp2_with fail
            refine (cmay_any _ _ w9 w8.heap.size n9 HD9.out true HM8.out).mono ?_
            rintro en w10 ⟨rfl, hb10⟩
            have HB10 := Lib.hid (HB9.out.trans (hb10.mono s9))
            have s10 := HB10.out.size
            have z1 := run_str_k ((Reads.of_own HO9.out).below hb10)
            have z2 := run_str_k (HR.out.below HB10.out)
            clear m0 m1 m2 hb10
            go_wp2_with (go_at_call 9; refine (awake24_any _).mono ?_; rintro en w' ⟨rfl, hb9⟩)
            go_ret
            exact ⟨rfl, HB10.out.trans (hb9.mono s10)⟩
        · have hzs : zs = [] := by
            have h3 := (decode_none hq).2.2
            rw [h3] at hcs8
            simpa using hcs8
          subst hzs
          have tq : ((decode bs).1 != 0) = true := by simpa using hq
          generalize (decode bs).1 = q0 at tq ⊢
          have hba := (Below.refl w8.heap.size w8).alloc (Nat.le_refl _) (.cells #[.int .u64 (decode bs).2.1, .int .i64 (decode bs).2.2.1, .slice A8 0 c8] 25)
          have HBA := Lib.hid (HB8.out.trans (hba.mono s8))
          have sA := HBA.out.size
          clear hq hcs8 hst8 hb8 hba
          dsimp only [List.length_nil]
          go_wp2_with (go_at_call 9; refine (awake24_any _).mono ?_; rintro en w' ⟨rfl, hb9⟩)
          go_ret
          exact ⟨rfl, HBA.out.trans (hb9.mono sA)⟩
end Go.Proofs.Ytcjpibdgnjncmaa
