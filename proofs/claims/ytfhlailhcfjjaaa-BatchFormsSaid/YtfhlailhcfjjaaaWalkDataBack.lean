/- The walk of DatasetBack. -/
import Derived.Test.YtfhlailhcfjjaaaDataAwake
import Derived.Test.YtfhlailhcfjjaaaDataLight
import Derived.Test.YtfhlailhcfjjaaaDataSame
import Derived.Outline
namespace Go.Proofs.Ytfhlailhcfjjaaa
open Go.RowKit
set_option linter.unusedVariables false
set_option linter.unusedSimpArgs false

theorem own_empty (W : World) (base : Nat) (e : TypeId) (g : Nat) (hg : g = W.heap.size) (h : base ≤ W.heap.size) : (W.alloc (.cells #[] e)).ownsRow base e 1 (.slice (some ⟨g, 0, none⟩) 0 0) 0 [] := by
  subst hg
  have := (Blk.fresh W e []).own (size := 1) (n := 0) (cap := 0) h (Nat.le_refl _) (by unfold maxLen; omega) rfl
  simpa using this
theorem sameExs_of {xs ys : List ExV} (h : xs.map (fun e => (e.data, e.label)) = ys.map (fun e => (e.data, e.label))) : sameExs xs ys = true := by
  unfold sameExs
  have hl : xs.length = ys.length := by have := congrArg List.length h; simpa using this
  simp only [Bool.and_eq_true, decide_eq_true_eq, List.all_eq_true]
  refine ⟨hl, fun p hp => ?_⟩
  obtain ⟨i, hi, hp⟩ := List.mem_iff_getElem.1 hp
  rw [List.getElem_zip] at hp
  subst hp
  rw [List.length_zip] at hi
  have h1 : (xs.map (fun e => (e.data, e.label)))[i]? = (ys.map (fun e => (e.data, e.label)))[i]? := by rw [h]
  rw [List.getElem?_map, List.getElem?_map, List.getElem?_eq_getElem (by omega), List.getElem?_eq_getElem (by omega)] at h1
  simp only [Option.map_some, Option.some.injEq, Prod.mk.injEq] at h1
  unfold sameEx
  simp [h1.1, h1.2]
theorem bytes_of {w : World} {B : Nat} {v : Value} {d : DatV} (h : DataOf w B v d) : bytesD d := fun e he => (h.xs.ok.out e he).data
theorem back_same {d : DatV} {ys : List ExV} {v : Value} (hm : mayD d = true) (hb : bytesD d) (hx : ys.map (fun e => (e.data, e.label)) = (decode (encD d)).2.2) : sameD (datOf (encD d) v ys) d = true := by
  have h := decode_ok hm hb []
  rw [List.append_nil, if_pos rfl] at h
  rw [h] at hx
  unfold datOf sameD
  rw [h]
  simp only [headV]
  rw [sameExs_of hx]
  simp
theorem back_zero {d : DatV} (hm : mayD d = true) (hb : bytesD d) : (decode (encD d)).1 = 0 := by
  have h := decode_ok hm hb []
  rw [List.append_nil, if_pos rfl] at h
  rw [h]
theorem back_more {d : DatV} (hm : mayD d = true) (hb : bytesD d) : (decode (encD d ++ [0])).1 = 5 := by
  have h := decode_ok hm hb [0]
  rw [if_neg (by simp)] at h
  rw [h]
set_option maxRecDepth 100000 in
set_option maxHeartbeats 3200000 in
theorem datasetBack_walk (v0 : Value) (a0 : DatV) (v1 : Value) (bs : List UInt8) (w : World) (o0 : DataOf w w.heap.size v0 a0) (o1 : Reads w w.heap.size v1 (bytesV bs) ∧ bs.length ≤ 140737488351232) :
    Calls Try.prog 10 #[v0, v1] w fun en w' => en = .returned (.bool true) ∧ Below w.heap.size w w' := by
  obtain ⟨a, b, c, ex, cl, lv, xs⟩ := a0
  have h0 := o0
  obtain ⟨rfl, _, hx⟩ := o0
  obtain ⟨hr1, hl1⟩ := o1
  obtain ⟨A1, c1, rfl, _, _⟩ := hr1.form
  rw [length_bytesV] at hr1 ⊢
  simp only at hx
  obtain ⟨A, k, rfl⟩ := hx.form
  have hlen := hx.len
  have hb0 := one_alloc w (.cells #[.int .i64 a, .int .i64 b, .int .i64 c, .int .i64 ex, .int .i64 cl, .slice A xs.length k] 33)
  have hk0 := Blk.fresh w 33 [.int .i64 a, .int .i64 b, .int .i64 c, .int .i64 ex, .int .i64 cl, .slice A xs.length k]
  have HB := Lib.hid hb0
  have HK := Lib.hid hk0
  have hd1 := h0.below hb0
  have HD := Lib.hid hd1
  have HY := Lib.hid (bytes_of h0)
  have HR := Lib.hid hr1
  have hl := hk0.lt
  have hs := hb0.size
  have HL := Lib.hid (light_any _ _ (w.alloc (.cells #[.int .i64 a, .int .i64 b, .int .i64 c, .int .i64 ex, .int .i64 cl, .slice A xs.length k] 33)) w.heap.size hs hd1)
  clear h0 hx hb0 hk0 hd1 hr1
  by_cases h5 : 5000 < bs.length
  · have t5 : decide ((5000 : Int) < (bs.length : Int)) = true := by simp; omega
    go_enter Try.func10, Try.ntmps10
    go_wp2_with fail
    generalize (w.alloc (.cells #[.int .i64 a, .int .i64 b, .int .i64 c, .int .i64 ex, .int .i64 cl, .slice A xs.length k] 33)) = w1 at HB HK HD hl hs HL ⊢
    refine HL.out.mono ?_
    rintro en w2 ⟨⟨b2, rfl, hb2⟩, hw2⟩
    have HB2 := Lib.hid (HB.out.trans (hw2.mono hs))
    have s2 := HB2.out.size
    clear HD HK HB HL hw2 hb2
    cases b2 <;>
    · go_wp2_with (go_at_call 17; refine (awake22_any _).mono ?_; rintro en w' ⟨rfl, hb9⟩)
      go_ret
      exact ⟨rfl, HB2.out.trans (hb9.mono s2)⟩
  · have t5 : decide ((5000 : Int) < (bs.length : Int)) = false := by simp; omega
    go_enter Try.func10, Try.ntmps10
    go_wp2_with fail
    generalize (w.alloc (.cells #[.int .i64 a, .int .i64 b, .int .i64 c, .int .i64 ex, .int .i64 cl, .slice A xs.length k] 33)) = w1 at HB HK HD hl hs HL ⊢
    refine HL.out.mono ?_
    rintro en w2 ⟨⟨b2, rfl, hb2⟩, hw2⟩
    have HK2 := Lib.hid (HK.out.below hw2 hl)
    have HB2 := Lib.hid (HB.out.trans (hw2.mono hs))
    have s2 := HB2.out.size
    have HD2 := Lib.hid (HD.out.below (hw2.mono hs))
    clear HD HK HB HL hw2
    cases b2 with
    | false =>
      clear hb2
      go_wp2_with (go_at_call 17; refine (awake22_any _).mono ?_; rintro en w' ⟨rfl, hb9⟩)
      go_ret
      exact ⟨rfl, HB2.out.trans (hb9.mono s2)⟩
    | true =>
      clear hb2
      have m0 := HK2.out.cell 0
      have m1 := HK2.out.cell 1
      have m2 := HK2.out.cell 2
      have m3 := HK2.out.cell 3
      have m4 := HK2.out.cell 4
      have m5 := HK2.out.cell 5
      simp only [List.getElem?_cons_zero, List.getElem?_cons_succ] at m0 m1 m2 m3 m4 m5
      go_wp2_with fail
      refine (denc_any _ _ w2 w.heap.size s2 HD2.out).mono ?_
      clear m0 m1 m2 m3 m4 m5
      rintro en w3 ⟨hb3, ⟨hm, rfl⟩ | ⟨hm, A3, c3, rfl, hown⟩⟩
      · have HB3 := Lib.hid (HB2.out.trans (hb3.mono s2))
        have s3 := HB3.out.size
        have HK3 := Lib.hid (HK2.out.below hb3 HK2.out.lt)
        have HD3 := Lib.hid (HD2.out.below (hb3.mono s2))
        have HM := Lib.hid hm
        clear hb3 hm HK2 HB2 HD2
        go_wp2_with fail
        refine (ddec_use _ [] w3 w3.heap.size (Nat.le_refl _) (Reads.nil_ _ _) (by simp)).mono ?_
        rintro en w4 ⟨hb4, ys, A4, c4, rfl, hy, hey⟩
        have HB4 := Lib.hid (HB3.out.trans (hb4.mono s3))
        have s4 := HB4.out.size
        have HK4 := Lib.hid (HK3.out.below hb4 HK3.out.lt)
        have HD4 := Lib.hid (HD3.out.below (hb4.mono s3))
        clear hb4 hy hey HK3 HB3 HD3
        have l4 := HK4.out.lt
        have m0 := HK4.out.cell 0
        have m1 := HK4.out.cell 1
        have m2 := HK4.out.cell 2
        have m3 := HK4.out.cell 3
        have m4 := HK4.out.cell 4
        have m5 := HK4.out.cell 5
        simp only [List.getElem?_cons_zero, List.getElem?_cons_succ] at m0 m1 m2 m3 m4 m5
        go_wp2_with fail
        refine (dmay_any _ _ (w4.alloc (.cells #[.int .i64 (decode []).2.1.a, .int .i64 (decode []).2.1.b, .int .i64 (decode []).2.1.c, .int .i64 (decode []).2.1.exp, .int .i64 (decode []).2.1.cl, .slice A4 ys.length c4] 33)) w.heap.size (by simp; omega) (HD4.out.below (one_alloc w4 _ |>.mono s4)) false HM.out).mono ?_
        rintro en wT ⟨rfl, hbT⟩
        have HBT := Lib.hid (HB4.out.trans ((one_alloc w4 _ |>.mono s4).trans (hbT.mono (by simp; omega))))
        clear hbT m0 m1 m2 m3 m4 m5
        go_wp2_with fail
        clear HK4 HD4 HB4 HM HY s2 s3 s4 l4
        have sT := HBT.out.size
        refine (ddec_use _ bs wT w.heap.size sT (HR.out.below HBT.out) hl1).mono ?_
        rintro en w8 ⟨hb8, zs, A8, c8, rfl, hz, hez⟩
        have HB8 := Lib.hid (HBT.out.trans (hb8.mono sT))
        have s8 := HB8.out.size
        by_cases hq : (decode bs).1 = 0
        · obtain ⟨hm8, he8⟩ := decode_inv hq (.slice A8 zs.length c8) zs hz
          have HM8 := Lib.hid hm8
          have HE8 := Lib.hid he8
          have HD8 : Hid (DataOf w8 w8.heap.size (.agg #[.int .i64 (decode bs).2.1.a, .int .i64 (decode bs).2.1.b, .int .i64 (decode bs).2.1.c, .int .i64 (decode bs).2.1.exp, .int .i64 (decode bs).2.1.cl, .slice A8 zs.length c8]) (datOf bs (.slice A8 zs.length c8) zs)) := Lib.hid ⟨rfl, datOf_in bs _ zs, hez⟩
          rw [hq]
          generalize datOf bs (.slice A8 zs.length c8) zs = d8 at HM8 HE8 HD8
          generalize (decode bs).2.1.a = q1 at HD8 ⊢
          generalize (decode bs).2.1.b = q2 at HD8 ⊢
          generalize (decode bs).2.1.c = q3 at HD8 ⊢
          generalize (decode bs).2.1.exp = q4 at HD8 ⊢
          generalize (decode bs).2.1.cl = q5 at HD8 ⊢
          have hba := one_alloc w8 (.cells #[.int .i64 q1, .int .i64 q2, .int .i64 q3, .int .i64 q4, .int .i64 q5, .slice A8 zs.length c8] 33)
          have HKA := Lib.hid (Blk.fresh w8 33 [.int .i64 q1, .int .i64 q2, .int .i64 q3, .int .i64 q4, .int .i64 q5, .slice A8 zs.length c8])
          have HDA := Lib.hid (HD8.out.below hba)
          have HBA := Lib.hid (HB8.out.trans (hba.mono s8))
          have sA := HBA.out.size
          have lA := HKA.out.lt
          clear hba hb8 hz hez hm8 he8 hq HD8 HBT sT
          go_wp2_with fail
          generalize (w8.alloc (.cells #[.int .i64 q1, .int .i64 q2, .int .i64 q3, .int .i64 q4, .int .i64 q5, .slice A8 zs.length c8] 33)) = wA at HKA HDA HBA sA lA ⊢
          refine (denc_any _ d8 wA w8.heap.size (by omega) HDA.out).mono ?_
          rintro en w9 ⟨hb9, ⟨hm9, _⟩ | ⟨_, A9, c9, rfl, hown9⟩⟩
          · rw [HM8.out] at hm9; cases hm9
          · rw [HE8.out] at hown9 ⊢
            have HO9 := Lib.hid hown9
            have HB9 := Lib.hid (HBA.out.trans (hb9.mono sA))
            have s9 := HB9.out.size
            have HK9 := Lib.hid (HKA.out.below hb9 lA)
            have HD9 := Lib.hid (HDA.out.below (hb9.mono (by omega)))
            have l9 := HK9.out.lt
            have n9 : w8.heap.size ≤ w9.heap.size := by omega
            have m0 := HK9.out.cell 0
            have m1 := HK9.out.cell 1
            have m2 := HK9.out.cell 2
            have m3 := HK9.out.cell 3
            have m4 := HK9.out.cell 4
            have m5 := HK9.out.cell 5
            simp only [List.getElem?_cons_zero, List.getElem?_cons_succ] at m0 m1 m2 m3 m4 m5
            clear hb9 hown9 HKA HDA
            go_wp2_with fail
            refine (dmay_any _ d8 w9 w8.heap.size n9 HD9.out true HM8.out).mono ?_
            rintro en w10 ⟨rfl, hb10⟩
            have HB10 := Lib.hid (HB9.out.trans (hb10.mono s9))
            have s10 := HB10.out.size
            have z1 := run_str_d ((Reads.of_own HO9.out).below hb10)
            have z2 := run_str_d (HR.out.below HB10.out)
            clear m0 m1 m2 m3 m4 m5 hb10
            go_wp2_with (go_at_call 17; refine (awake22_any _).mono ?_; rintro en w' ⟨rfl, hb9⟩)
            go_ret
            exact ⟨rfl, HB10.out.trans (hb9.mono s10)⟩
        · have hzs : zs = [] := by
            rw [decode_none hq] at hz
            simpa using hz
          subst hzs
          have tq : ((decode bs).1 != 0) = true := by simpa using hq
          generalize (decode bs).1 = q0 at tq ⊢
          have hba := one_alloc w8 (.cells #[.int .i64 (decode bs).2.1.a, .int .i64 (decode bs).2.1.b, .int .i64 (decode bs).2.1.c, .int .i64 (decode bs).2.1.exp, .int .i64 (decode bs).2.1.cl, .slice A8 0 c8] 33)
          have HBA := Lib.hid (HB8.out.trans (hba.mono s8))
          have sA := HBA.out.size
          clear hq hz hez hb8 hba
          dsimp only [List.length_nil]
          go_wp2_with (go_at_call 17; refine (awake22_any _).mono ?_; rintro en w' ⟨rfl, hb9⟩)
          go_ret
          exact ⟨rfl, HBA.out.trans (hb9.mono sA)⟩
      · have hY := HY.out
        have e0 := back_zero hm hY
        have e1 := decode_short hm hY
        have e2 := back_more hm hY
        have hE := length_encD hm
        have hsz := sizeD_in (mayD_of hm).1
        have hl2 : xs.length ≤ 64 := (mayD_lens hm).1
        have e3 : ∀ ys v, ys.map (fun e => (e.data, e.label)) = (decode (encD ⟨a, b, c, ex, cl, .slice A xs.length k, xs⟩)).2.2 → sameD (datOf (encD ⟨a, b, c, ex, cl, .slice A xs.length k, xs⟩) v ys) ⟨a, b, c, ex, cl, .slice A xs.length k, xs⟩ = true := fun ys v hx => back_same hm hY hx
        rw [List.dropLast_eq_take] at e1
        obtain ⟨E, hEE⟩ : ∃ E, encD ⟨a, b, c, ex, cl, .slice A xs.length k, xs⟩ = E := ⟨_, rfl⟩
        rw [hEE] at e0 e1 e2 e3 hE hown ⊢
        simp only at hE
        have hlE : 0 < E.length ∧ E.length ≤ 200000 := by
          obtain ⟨p1, p2, _⟩ := hsz
          have q1 : (0 : Int) ≤ (xs.length : Int) * (1 + sizeD ⟨a, b, c, ex, cl, .slice A xs.length k, xs⟩) := Int.mul_nonneg (by omega) (by omega)
          have q2 : (xs.length : Int) * (1 + sizeD ⟨a, b, c, ex, cl, .slice A xs.length k, xs⟩) ≤ 64 * 2049 := Int.mul_le_mul (by omega) (by omega) (by omega) (by omega)
          omega
        obtain ⟨p0, p1⟩ := hlE
        have E0 := Lib.hid e0
        have E1 := Lib.hid e1
        have E2 := Lib.hid e2
        have E3 := Lib.hid e3
        have HM := Lib.hid hm
        have HB3 := Lib.hid (HB2.out.trans (hb3.mono s2))
        have s3 := HB3.out.size
        have HK3 := Lib.hid (HK2.out.below hb3 HK2.out.lt)
        have HD3 := Lib.hid (HD2.out.below (hb3.mono s2))
        have HO3 := Lib.hid hown
        clear hb3 hm HK2 HB2 HD2 e0 e1 e2 e3 hE hEE hY hsz hl2 hown
        go_wp2_with fail
        refine (ddec_use _ E w3 w3.heap.size (Nat.le_refl _) (Reads.of_own HO3.out) (by omega)).mono ?_
        rintro en w4 ⟨hb4, ys, A4, c4, rfl, hy, hey⟩
        have HB4 := Lib.hid (HB3.out.trans (hb4.mono s3))
        have s4 := HB4.out.size
        have HK4 := Lib.hid (HK3.out.below hb4 HK3.out.lt)
        have HD4 := Lib.hid (HD3.out.below (hb4.mono s3))
        have HO4 := Lib.hid ((Reads.of_own HO3.out).below hb4)
        have n3 := hb4.size
        have HS := Lib.hid (E3.out ys (.slice A4 ys.length c4) hy)
        have HP : Hid (DataOf w4 w4.heap.size (.agg #[.int .i64 (decode E).2.1.a, .int .i64 (decode E).2.1.b, .int .i64 (decode E).2.1.c, .int .i64 (decode E).2.1.exp, .int .i64 (decode E).2.1.cl, .slice A4 ys.length c4]) (datOf E (.slice A4 ys.length c4) ys)) := Lib.hid ⟨rfl, datOf_in E _ ys, hey⟩
        rw [E0.out]
        generalize datOf E (.slice A4 ys.length c4) ys = dp at HS HP
        generalize (decode E).2.1.a = q1 at HP ⊢
        generalize (decode E).2.1.b = q2 at HP ⊢
        generalize (decode E).2.1.c = q3 at HP ⊢
        generalize (decode E).2.1.exp = q4 at HP ⊢
        generalize (decode E).2.1.cl = q5 at HP ⊢
        have hba := one_alloc w4 (.cells #[.int .i64 q1, .int .i64 q2, .int .i64 q3, .int .i64 q4, .int .i64 q5, .slice A4 ys.length c4] 33)
        have HKA := Lib.hid (Blk.fresh w4 33 [.int .i64 q1, .int .i64 q2, .int .i64 q3, .int .i64 q4, .int .i64 q5, .slice A4 ys.length c4])
        have HPA := Lib.hid (HP.out.below hba)
        have HDA := Lib.hid (HD4.out.below (hba.mono s4))
        have HBA := Lib.hid (HB4.out.trans (hba.mono s4))
        have HKB := Lib.hid (HK4.out.below hba HK4.out.lt)
        have HOA := Lib.hid (HO4.out.below (hba.mono n3))
        have sA := HBA.out.size
        have lA := HKA.out.lt
        have lB := HKB.out.lt
        have m0 := HKB.out.cell 0
        have m1 := HKB.out.cell 1
        have m2 := HKB.out.cell 2
        have m3 := HKB.out.cell 3
        have m4 := HKB.out.cell 4
        have m5 := HKB.out.cell 5
        simp only [List.getElem?_cons_zero, List.getElem?_cons_succ] at m0 m1 m2 m3 m4 m5
        clear hb4 hy hey HK3 HB3 HD3 hba HO4 HP HD4 HK4 E3 E0 HB4
        go_wp2_with fail
        generalize (w4.alloc (.cells #[.int .i64 q1, .int .i64 q2, .int .i64 q3, .int .i64 q4, .int .i64 q5, .slice A4 ys.length c4] 33)) = wA at *
        refine (dmay_any _ _ wA w.heap.size sA HDA.out true HM.out).mono ?_
        clear m0 m1 m2 m3 m4 m5
        rintro en w5 ⟨rfl, hb5⟩
        have HB5 := Lib.hid (HBA.out.trans (hb5.mono sA))
        have s5 := HB5.out.size
        have z5 := hb5.size
        have K5 := Lib.hid (HKB.out.below hb5 lB)
        have J5 := Lib.hid (HKA.out.below hb5 lA)
        have P5 := Lib.hid ((HPA.out.below (hb5.mono (by omega))))
        have D5 := Lib.hid (HDA.out.below (hb5.mono sA))
        have O5 := Lib.hid (HOA.out.below (hb5.mono (by omega)))
        have k5 := K5.out.lt
        have j5 := J5.out.lt
        have m0 := K5.out.cell 0
        have m1 := K5.out.cell 1
        have m2 := K5.out.cell 2
        have m3 := K5.out.cell 3
        have m4 := K5.out.cell 4
        have m5 := K5.out.cell 5
        simp only [List.getElem?_cons_zero, List.getElem?_cons_succ] at m0 m1 m2 m3 m4 m5
        have u0 := J5.out.cell 0
        have u1 := J5.out.cell 1
        have u2 := J5.out.cell 2
        have u3 := J5.out.cell 3
        have u4 := J5.out.cell 4
        have u5 := J5.out.cell 5
        simp only [List.getElem?_cons_zero, List.getElem?_cons_succ] at u0 u1 u2 u3 u4 u5
        clear hb5 HKB HKA HPA HDA HOA HBA
        go_wp2_with fail
        refine (dsame_any _ _ dp ⟨a, b, c, ex, cl, .slice A xs.length k, xs⟩ w5 w5.heap.size (Nat.le_refl _) (P5.out.more (by omega)) (D5.out.more s5)).mono ?_
        rw [HS.out]
        clear m0 m1 m2 m3 m4 m5 u0 u1 u2 u3 u4 u5
        rintro en w6 ⟨rfl, hb6⟩
        have HB6 := Lib.hid (HB5.out.trans (hb6.mono s5))
        have O6 := Lib.hid (O5.out.below (hb6.mono (by omega)))
        have s6 := HB6.out.size
        have z6 := hb6.size
        clear hb6 K5 J5 P5 D5 O5 HB5 HS
        have t0 : decide ((0 : Int) < (E.length : Int)) = true := by simp; omega
        clear t0
        obtain ⟨m, hm⟩ : ∃ m, E.length = m + 1 := ⟨E.length - 1, by omega⟩
        obtain ⟨g3, k3, _, e3, _, _, hmc, hmx, _, _, _⟩ := own_blk HO3.out (by omega)
        rw [hm] at e3 hmc ⊢
        injection e3 with e3 _ e4
        subst e3 e4
        have hm1 : m ≤ 200000 := by omega
        have i1 : (m : Int) ≤ (c3 : Int) := by omega
        have i2 : (0 : Int) ≤ (m : Int) := by omega
        have t0 : decide ((0 : Int) < (m : Int) + 1) = true := by rw [decide_eq_true_eq]; omega
        have EM := Lib.hid hm
        have hT := (ReadsN.of_one O6.out).take (k := m) (by omega)
        rw [Nat.mul_one, bytesV_take] at hT
        have HT := Lib.hid hT.one
        have e6 := E1.out
        rw [hm, Nat.add_sub_cancel] at e6
        have E6 := Lib.hid (show ((decode (E.take m)).1 == 0) = false by simpa using e6)
        clear hm p0 p1 e6 hT E1
        go_wp2_with fail
        refine (ddec_use _ _ w6 w3.heap.size (by omega) HT.out (by rw [List.length_take]; omega)).mono ?_
        rintro en w7 ⟨hb7, us, A7, c7, rfl, _, _⟩
        have t7 := E6.out
        have HB7 := Lib.hid (HB6.out.trans (hb7.mono s6))
        have O7 := Lib.hid (O6.out.below (hb7.mono (by omega)))
        have s7 := HB7.out.size
        have z7 := hb7.size
        generalize (decode (E.take m)).1 = f7 at t7 ⊢
        have O7' := O7.out
        rw [EM.out] at O7'
        have R7 := Lib.hid O7'
        have n7 : w3.heap.size ≤ w7.heap.size := by omega
        clear hb7 HB6 O6 HT E6 O7 O7'
        go_wp2_with (first
          | (at_builtin; refine wpList_extend elem_byte _ rfl (.tmp 71) (.tmp 72) rfl w7.heap.size 0 _ [] rfl (own_empty _ _ _ _ (World.size_alloc _ _).symm (by rw [World.size_alloc]; omega)) w3.heap.size _ (bytesV E) rfl ((R7.out.alloc n7 _).alloc (by rw [World.size_alloc]; omega) _) (bytesV_one _) (by rw [length_bytesV, EM.out]; unfold maxLen; omega) (by rw [length_bytesV, EM.out]; omega) (by rw [World.size_alloc, World.size_alloc]; omega) ?_; intro A8 c8 w8 hown8 hg8 hf8; simp only [length_bytesV, Nat.zero_add, List.nil_append, EM.out] at hown8 ⊢)
          | (at_builtin; refine wpList_extend elem_byte _ rfl (.tmp 73) (.tmp 74) rfl w7.heap.size (m + 1) _ _ rfl (hown8.alloc _) _ _ [.int .u8 0] rfl (Reads.one_ w8 _ _) (by simp [Value.oneCell']) (by simp only [List.length_cons, List.length_nil, maxLen]; omega) (by simp only [List.length_cons, List.length_nil]; omega) (by simp; have := hg8.size; simp at this; omega) ?_; intro A9 c9 w9 hown9 hg9 hf9; simp only [List.length_cons, List.length_nil, Nat.zero_add] at hown9 ⊢))
        have e9 : bytesV E ++ [.int .u8 0] = bytesV (E ++ [0]) := by rw [← bytesV_append]; rfl
        rw [e9] at hown9
        have HB9 := Lib.hid ((((HB7.out.alloc s7 _).alloc (by rw [World.size_alloc]; omega) _).grown hg8 (by rw [World.size_alloc, World.size_alloc]; omega) (fun k hk => by have hk2 := Option.some.inj hk; dsimp only at hk2; omega)).alloc (by have := hg8.size; rw [World.size_alloc, World.size_alloc] at this; omega) _ |>.grown hg9 (by have := hg8.size; rw [World.size_alloc, World.size_alloc] at this; rw [World.size_alloc]; omega) (fun k hk => by have := (hown8.lt k hk).1; omega))
        have R9 := Lib.hid (Reads.of_own hown9)
        clear e9 hown9 hown8 hg8 hg9 hf8 hf9 HB7 R7
        refine (ddec_use _ (E ++ [0]) w9 w9.heap.size (Nat.le_refl _) R9.out (by rw [List.length_append, EM.out]; simp; omega)).mono ?_
        rintro en wS ⟨hb, us9, A10, c10, rfl, _, _⟩
        rw [E2.out]
        have HBS := Lib.hid (HB9.out.trans (hb.mono HB9.out.size))
        have HBT := Lib.hid (HBS.out.alloc HBS.out.size (.cells #[.int .i64 (decode (E ++ [0])).2.1.a, .int .i64 (decode (E ++ [0])).2.1.b, .int .i64 (decode (E ++ [0])).2.1.c, .int .i64 (decode (E ++ [0])).2.1.exp, .int .i64 (decode (E ++ [0])).2.1.cl, .slice A10 us9.length c10] 33))
        clear hb HB9 HBS R9 E2
        go_wp2_with fail
        generalize (wS.alloc (.cells #[.int .i64 (decode (E ++ [0])).2.1.a, .int .i64 (decode (E ++ [0])).2.1.b, .int .i64 (decode (E ++ [0])).2.1.c, .int .i64 (decode (E ++ [0])).2.1.exp, .int .i64 (decode (E ++ [0])).2.1.cl, .slice A10 us9.length c10] 33)) = wT at HBT ⊢
        clear EM HM HY s2 s3 s5 s6 s7 z5 z6 z7 n7 sA lA lB k5 j5 t7 i1 i2 hm1 hmc hmx n3
        have sT := HBT.out.size
        refine (ddec_use _ bs wT w.heap.size sT (HR.out.below HBT.out) hl1).mono ?_
        rintro en w8 ⟨hb8, zs, A8, c8, rfl, hz, hez⟩
        have HB8 := Lib.hid (HBT.out.trans (hb8.mono sT))
        have s8 := HB8.out.size
        by_cases hq : (decode bs).1 = 0
        · obtain ⟨hm8, he8⟩ := decode_inv hq (.slice A8 zs.length c8) zs hz
          have HM8 := Lib.hid hm8
          have HE8 := Lib.hid he8
          have HD8 : Hid (DataOf w8 w8.heap.size (.agg #[.int .i64 (decode bs).2.1.a, .int .i64 (decode bs).2.1.b, .int .i64 (decode bs).2.1.c, .int .i64 (decode bs).2.1.exp, .int .i64 (decode bs).2.1.cl, .slice A8 zs.length c8]) (datOf bs (.slice A8 zs.length c8) zs)) := Lib.hid ⟨rfl, datOf_in bs _ zs, hez⟩
          rw [hq]
          generalize datOf bs (.slice A8 zs.length c8) zs = d8 at HM8 HE8 HD8
          generalize (decode bs).2.1.a = q1 at HD8 ⊢
          generalize (decode bs).2.1.b = q2 at HD8 ⊢
          generalize (decode bs).2.1.c = q3 at HD8 ⊢
          generalize (decode bs).2.1.exp = q4 at HD8 ⊢
          generalize (decode bs).2.1.cl = q5 at HD8 ⊢
          have hba := one_alloc w8 (.cells #[.int .i64 q1, .int .i64 q2, .int .i64 q3, .int .i64 q4, .int .i64 q5, .slice A8 zs.length c8] 33)
          have HKA := Lib.hid (Blk.fresh w8 33 [.int .i64 q1, .int .i64 q2, .int .i64 q3, .int .i64 q4, .int .i64 q5, .slice A8 zs.length c8])
          have HDA := Lib.hid (HD8.out.below hba)
          have HBA := Lib.hid (HB8.out.trans (hba.mono s8))
          have sA := HBA.out.size
          have lA := HKA.out.lt
          clear hba hb8 hz hez hm8 he8 hq HD8 HBT sT
          go_wp2_with fail
          generalize (w8.alloc (.cells #[.int .i64 q1, .int .i64 q2, .int .i64 q3, .int .i64 q4, .int .i64 q5, .slice A8 zs.length c8] 33)) = wA at HKA HDA HBA sA lA ⊢
          refine (denc_any _ d8 wA w8.heap.size (by omega) HDA.out).mono ?_
          rintro en w9 ⟨hb9, ⟨hm9, _⟩ | ⟨_, A9, c9, rfl, hown9⟩⟩
          · rw [HM8.out] at hm9; cases hm9
          · rw [HE8.out] at hown9 ⊢
            have HO9 := Lib.hid hown9
            have HB9 := Lib.hid (HBA.out.trans (hb9.mono sA))
            have s9 := HB9.out.size
            have HK9 := Lib.hid (HKA.out.below hb9 lA)
            have HD9 := Lib.hid (HDA.out.below (hb9.mono (by omega)))
            have l9 := HK9.out.lt
            have n9 : w8.heap.size ≤ w9.heap.size := by omega
            have m0 := HK9.out.cell 0
            have m1 := HK9.out.cell 1
            have m2 := HK9.out.cell 2
            have m3 := HK9.out.cell 3
            have m4 := HK9.out.cell 4
            have m5 := HK9.out.cell 5
            simp only [List.getElem?_cons_zero, List.getElem?_cons_succ] at m0 m1 m2 m3 m4 m5
            clear hb9 hown9 HKA HDA
            go_wp2_with fail
            refine (dmay_any _ d8 w9 w8.heap.size n9 HD9.out true HM8.out).mono ?_
            rintro en w10 ⟨rfl, hb10⟩
            have HB10 := Lib.hid (HB9.out.trans (hb10.mono s9))
            have s10 := HB10.out.size
            have z1 := run_str_d ((Reads.of_own HO9.out).below hb10)
            have z2 := run_str_d (HR.out.below HB10.out)
            clear m0 m1 m2 m3 m4 m5 hb10
            go_wp2_with (go_at_call 17; refine (awake22_any _).mono ?_; rintro en w' ⟨rfl, hb9⟩)
            go_ret
            exact ⟨rfl, HB10.out.trans (hb9.mono s10)⟩
        · have hzs : zs = [] := by
            rw [decode_none hq] at hz
            simpa using hz
          subst hzs
          have tq : ((decode bs).1 != 0) = true := by simpa using hq
          generalize (decode bs).1 = q0 at tq ⊢
          have hba := one_alloc w8 (.cells #[.int .i64 (decode bs).2.1.a, .int .i64 (decode bs).2.1.b, .int .i64 (decode bs).2.1.c, .int .i64 (decode bs).2.1.exp, .int .i64 (decode bs).2.1.cl, .slice A8 0 c8] 33)
          have HBA := Lib.hid (HB8.out.trans (hba.mono s8))
          have sA := HBA.out.size
          clear hq hz hez hb8 hba
          dsimp only [List.length_nil]
          go_wp2_with (go_at_call 17; refine (awake22_any _).mono ?_; rintro en w' ⟨rfl, hb9⟩)
          go_ret
          exact ⟨rfl, HBA.out.trans (hb9.mono sA)⟩
end Go.Proofs.Ytfhlailhcfjjaaa
