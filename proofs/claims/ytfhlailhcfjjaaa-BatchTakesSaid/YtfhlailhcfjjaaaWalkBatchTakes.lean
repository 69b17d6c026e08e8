/- The walk of BatchTakes. -/
import Derived.Test.YtfhlailhcfjjaaaBatchOf
import Derived.Test.YtfhlailhcfjjaaaBatch
import Derived.BigQuiet
namespace Go.Proofs.Ytfhlailhcfjjaaa
open Go.RowKit
set_option linter.unusedVariables false
set_option linter.unusedSimpArgs false

theorem ofLabels_at {d : DatV} {ids : List Int} {i : Nat} {k : Int} (h : ids[i]? = some k) : (ofLabels d ids)[i]? = some (exAt d k).label := by
  unfold ofLabels
  rw [List.getElem?_map, h]
  rfl
theorem ofData_at {d : DatV} (hm : mayD d = true) {N : Nat} (hN : (N : Int) = sizeD d) : ∀ (ids : List Int) (i : Nat) (k : Int) (j : Nat), idsOk d ids = true → ids[i]? = some k → j < N → (ofData d ids)[i * N + j]? = (exAt d k).data[j]?
  | [], i, k, j, _, h, _ => by simp at h
  | x :: ids, i, k, j, h, hk, hj => by
    unfold idsOk at h
    rw [List.all_cons, Bool.and_eq_true] at h
    obtain ⟨_, hl, he⟩ := idIn_of h.1
    have h2 := oneI_len ((mayD_of hm).2 _ (List.mem_of_getElem? he))
    have h3 : (exAt d x).data.length = N := by omega
    have e : ofData d (x :: ids) = (exAt d x).data ++ ofData d ids := by unfold ofData; simp
    rw [e]
    match i, hk with
    | 0, hk =>
      simp only [List.getElem?_cons_zero, Option.some.injEq] at hk
      subst hk
      rw [Nat.zero_mul, Nat.zero_add, List.getElem?_append_left (by omega)]
    | i + 1, hk =>
      rw [List.getElem?_cons_succ] at hk
      rw [List.getElem?_append_right (by rw [h3, Nat.add_mul]; omega), h3, show (i + 1) * N + j - N = i * N + j by rw [Nat.add_mul]; omega]
      exact ofData_at hm hN ids i k j h.2 hk hj
theorem ofOk_parts {d : DatV} {ids : List Int} (h : ofOk d ids = true) : mayD d = true ∧ idsOk d ids = true ∧ ids.length ≤ 64 := by
  unfold ofOk at h
  simp only [Bool.and_eq_true, decide_eq_true_eq] at h
  exact ⟨h.1.1, h.2.1, h.1.2.2⟩
theorem rowFour {W : World} {g : Nat} {t : TypeId} {l : List Int} (h : Blk W g t (ints .i64 l)) (hl : l.length ≤ 100) : Reads W W.heap.size (.slice (some ⟨g, 0, none⟩) l.length l.length) (ints .i64 l) := h.reads (length_ints _ _) (by unfold maxLen; omega)
theorem ints_some {k : IntKind} {xs : List Int} {i : Nat} {y : Int} (h : xs[i]? = some y) : (ints k xs)[i]? = some (.int k y) := by
  unfold ints
  rw [List.getElem?_map, h]
  rfl
theorem Reads.cell_at {W : World} {B n c : Nat} {A : Option Addr} {xs : List Value} (h : Reads W B (.slice A n c) xs) {i : Nat} {u : Value} (hu : xs[i]? = some u) : ∃ g o, A = some ⟨g, o, none⟩ ∧ g < B ∧ W.cell? ⟨g, o + i, none⟩ = some u := by
  obtain ⟨A', n', c', e, hn, hc, hm, ha⟩ := h
  injection e with e1 e2 e3
  subst e1 e2 e3
  have hl := (List.getElem?_eq_some_iff.1 hu).1
  obtain ⟨g, o, e2, hg, hx⟩ := ha.out (by omega)
  exact ⟨g, o, e2, hg, hx i u hu⟩
set_option maxRecDepth 100000 in
set_option maxHeartbeats 6400000 in
theorem batchTakes_walk (v0 : Value) (d : DatV) (v1 : Value) (ids : List Int) (w : World) (o0 : DataOf w w.heap.size v0 d) (o1 : IntsOf w v1 ids) :
    Calls Try.prog 8 #[v0, v1] w fun en w' => en = .returned (.bool true) ∧ Below w.heap.size w w' := by
  have HBD := Lib.hid o1.bd.out
  have hil := o1.len
  have hi := o1.rd
  have h0 := o0
  obtain ⟨rfl, hwd, hx⟩ := o0
  obtain ⟨A, k, hlv⟩ := hx.form
  rw [hlv] at h0 hx ⊢
  clear hlv
  obtain ⟨Ai, ci, rfl, _, _⟩ := hi.form
  rw [length_ints] at hi ⊢
  have hlen := hx.len
  have hb1 := one_alloc w (.cells #[.int .i64 d.a, .int .i64 d.b, .int .i64 d.c, .int .i64 d.exp, .int .i64 d.cl, .slice A d.xs.length k] 33)
  have hk1 := Blk.fresh w 33 [.int .i64 d.a, .int .i64 d.b, .int .i64 d.c, .int .i64 d.exp, .int .i64 d.cl, .slice A d.xs.length k]
  have HB1 := Lib.hid hb1
  have K1 := Lib.hid hk1
  have H0 := Lib.hid (h0.below hb1)
  have HX := Lib.hid hx
  have HI := Lib.hid (hi.below hb1)
  have s1 := hb1.size
  have l1 := hk1.lt
  clear o1 h0 hi hx hb1 hk1 hwd
  go_enter Try.func8, Try.ntmps8
  by_cases c1 : ids.length ≤ 20
  case neg =>
    have t1 : decide (20 < (ids.length : Int)) = true := by simp; omega
    go_wp2_with (go_at_call 14; refine (awake23_any _).mono ?_; rintro en w' ⟨rfl, hb9⟩)
    go_ret
    exact ⟨rfl, HB1.out.trans (hb9.mono s1)⟩
  have t1 : decide (20 < (ids.length : Int)) = false := by simp; omega
  by_cases c2 : d.xs.length ≤ 64
  case neg =>
    have t2 : decide (64 < (d.xs.length : Int)) = true := by simp; omega
    have m5 := K1.out.cell 5
    simp only [List.getElem?_cons_zero, List.getElem?_cons_succ] at m5
    go_wp2_with (go_at_call 14; refine (awake23_any _).mono ?_; rintro en w' ⟨rfl, hb9⟩)
    go_ret
    exact ⟨rfl, HB1.out.trans (hb9.mono s1)⟩
  have t2 : decide (64 < (d.xs.length : Int)) = false := by simp; omega
  have m0 := K1.out.cell 0
  have m1 := K1.out.cell 1
  have m2 := K1.out.cell 2
  have m3 := K1.out.cell 3
  have m4 := K1.out.cell 4
  have m5 := K1.out.cell 5
  simp only [List.getElem?_cons_zero, List.getElem?_cons_succ] at m0 m1 m2 m3 m4 m5
  go_wp2_with fail
  generalize (w.alloc (.cells #[.int .i64 d.a, .int .i64 d.b, .int .i64 d.c, .int .i64 d.exp, .int .i64 d.cl, .slice A d.xs.length k] 33)) = w1 at HB1 K1 H0 HI s1 l1 m0 m1 m2 m3 m4 m5 ⊢
  clear m0 m1 m2 m3 m4 m5 t1 t2
  refine (of_any _ d _ ids w1 w.heap.size s1 H0.out HI.out HBD.out (by omega)).mono ?_
  intro en w2 hgot
  obtain ⟨hb2, ⟨hno, rfl⟩ | ⟨hok, A1, c1', A2, c2', A3, c3', rfl, hr1, hr2, hr3⟩⟩ := hgot
  · have HB2 := Lib.hid (HB1.out.trans (hb2.mono s1))
    have s2 := HB2.out.size
    clear hb2 hno HBD H0 HX HI K1 HB1 s1 l1
    go_wp2_with fail
    have hbf := HB2.out.trans ((one_alloc w2 (.cells #[.slice none 0 0, .int .i64 0, .slice none 0 0] 47)).mono s2)
    have HBF := Lib.hid hbf
    clear hbf
    refine (awake23_any _).mono ?_
    rintro en w' ⟨rfl, hb9⟩
    go_wp2
    go_ret
    exact ⟨rfl, HBF.out.trans (hb9.mono HBF.out.size)⟩
  · have HB2 := Lib.hid (HB1.out.trans (hb2.mono s1))
    have s2 := HB2.out.size
    have K2 := Lib.hid (K1.out.below hb2 l1)
    have l2 := K2.out.lt
    have H02 := Lib.hid (H0.out.below (hb2.mono s1))
    have HI2 := Lib.hid (HI.out.below (hb2.mono s1))
    obtain ⟨hm, hio, _⟩ := ofOk_parts hok
    have HM := Lib.hid hm
    have HIO := Lib.hid hio
    obtain ⟨N, hN⟩ : ∃ N : Nat, sizeD d = N := ⟨(sizeD d).toNat, by have := (sizeD_in (mayD_of hm).1).1; omega⟩
    have HN := Lib.hid hN.symm
    obtain ⟨sz1, sz2, sz3, sz4⟩ := sizeD_in (mayD_of hm).1
    have hw1 : wrap64 (d.a * d.b) = d.a * d.b := by unfold wrap64; omega
    have hw2 : wrap64 (d.a * d.b * d.c) = (N : Int) := by
      rw [show d.a * d.b * d.c = sizeD d from rfl]
      unfold wrap64
      omega
    have hdl := ofData_len hm ids hio
    rw [hN] at hdl
    have hdb := ofData_le hm ids hio (by omega)
    have hw3 : wrap64 ((N : Int) * (ids.length : Int)) = ((ofData d ids).length : Int) := by
      rw [Int.mul_comm, ← hdl]
      unfold wrap64
      omega
    have hN2 : N ≤ 2048 := by omega
    clear sz1 sz2 sz3 sz4
    have t3 : ((ids.length : Int) != (ids.length : Int)) = false := by simp
    have t4 : (((ofData d ids).length : Int) != ((ofData d ids).length : Int)) = false := by simp
    have t5 : (d.exp != d.exp) = false := by simp
    have HR1 := Lib.hid hr1
    have HR2 := Lib.hid hr2
    have HR3 := Lib.hid hr3
    clear hb2 K1 H0 HI HB1 s1 l1 hr1 hr2 hr3 hm hio hok hN HBD
    have m0 := K2.out.cell 0
    have m1 := K2.out.cell 1
    have m2 := K2.out.cell 2
    have m3 := K2.out.cell 3
    have m4 := K2.out.cell 4
    have m5 := K2.out.cell 5
    simp only [List.getElem?_cons_zero, List.getElem?_cons_succ] at m0 m1 m2 m3 m4 m5
    go_wp2_with fail
    rw [hw2]
    obtain ⟨S, hS⟩ : ∃ S : Int, (N : Int) = S := ⟨_, rfl⟩
    rw [hS]
    have HS := Lib.hid hS
    clear hS
    clear m0 m1 m2 m3 m4 m5 hw1 hw2 hw3 t3 t4 t5
    have hq1 := (Blk.fresh w2 47 [.slice A1 4 c1', .int .i64 d.exp, .slice A2 (ofData d ids).length c2']).alloc (.cells #[.int .i64 ids.length, .int .i64 d.a, .int .i64 d.b, .int .i64 d.c] 3)
    have hq2 := Blk.fresh (w2.alloc (.cells #[.slice A1 4 c1', .int .i64 d.exp, .slice A2 (ofData d ids).length c2'] 47)) 3 (ints .i64 (ofDims d ids))
    have hb3 := (one_alloc w2 (.cells #[.slice A1 4 c1', .int .i64 d.exp, .slice A2 (ofData d ids).length c2'] 47)).alloc (by rw [World.size_alloc]; omega) (.cells #[.int .i64 ids.length, .int .i64 d.a, .int .i64 d.b, .int .i64 d.c] 3)
    have hrr := rowFour hq2 (by simp [ofDims])
    simp only [World.size_alloc] at hrr
    generalize hw3g : ((w2.alloc (.cells #[.slice A1 4 c1', .int .i64 d.exp, .slice A2 (ofData d ids).length c2'] 47)).alloc (.cells #[.int .i64 ids.length, .int .i64 d.a, .int .i64 d.b, .int .i64 d.c] 3)) = w3 at hq1 hb3 ⊢
    replace hrr : Reads w3 (w2.heap.size + 1 + 1) (.slice (some ⟨w2.heap.size + 1, 0, none⟩) 4 4) (ints .i64 (ofDims d ids)) := by rw [← hw3g]; exact hrr
    clear hw3g hq2
    have HB3 := Lib.hid (HB2.out.trans (hb3.mono s2))
    have s3 := HB3.out.size
    have KT := Lib.hid hq1
    have lt := hq1.lt
    have lq : w.heap.size < w2.heap.size := l2
    have K3 := Lib.hid (K2.out.below hb3 l2)
    have H03 := Lib.hid (H02.out.below (hb3.mono s2))
    have HI3 := Lib.hid (HI2.out.below (hb3.mono s2))
    have R13 := Lib.hid (HR1.out.below hb3)
    have R23 := Lib.hid (HR2.out.below hb3)
    have R33 := Lib.hid (HR3.out.below hb3)
    have RR := Lib.hid hrr
    have s23 := hb3.size
    clear hq1 hb3 hrr HB2 K2 H02 HI2 HR1 HR2 HR3
    generalize w2.heap.size = q at *
    refine (sameints_any _ _ _ _ w3 _ _ R13.out RR.out).mono ?_
    rintro en w4 ⟨rfl, z4, rfl⟩
    have hsame : (ofDims d ids == ofDims d ids) = true := by simp
    rw [hsame]
    clear hsame
    go_wp2_with fail
    go_loopw [97] (fun i wr => ∃ j : Nat, j ≤ ids.length ∧ i = .int .i64 j ∧ Hid (Below w3.heap.size w3 wr)) (fun i _ => ids.length - (intOf i).toNat)
    case atStart => exact ⟨0, by omega, rfl, Lib.hid (data_drewN (Below.refl _ _) _)⟩
    case round =>
      obtain ⟨j, hj, rfl, hbel⟩ := hrel
      by_cases hlt : j < ids.length
      · obtain ⟨A9, n9, c9, e9, _, _, _, hat⟩ := HI3.out.below (hbel.out.mono s3)
        injection e9 with e91 e92 e93
        subst e91 e92 e93
        obtain ⟨gi, oi, rfl, hgi, hxi⟩ := hat.out (by omega)
        have r1 := hxi j (.int .i64 ids[j]) (ints_at _ _ _ hlt)
        have HY : Hid (ids[j]? = some ids[j]) := Lib.hid (List.getElem?_eq_getElem hlt)
        have hin : idIn d ids[j] = true := by
          have := HIO.out
          unfold idsOk at this
          exact List.all_eq_true.1 this _ (List.getElem_mem hlt)
        generalize ids[j] = y at r1 HY hin
        obtain ⟨y0, yl, yx⟩ := idIn_of hin
        obtain ⟨m, rfl⟩ := Int.eq_ofNat_of_zero_le y0
        simp only [Int.toNat_natCast] at yl yx
        have t1 : decide ((m : Int) < 0) = false := by simp
        have t2 : decide ((d.xs.length : Int) ≤ (m : Int)) = false := by simp; omega
        obtain ⟨g, o, c', e, e1, hlk, hok, hg, q0, q1⟩ := (HX.out.below (HB3.out.trans (hbel.out.mono s3))).at_ (k := m) yl
        injection e1 with e1 _ e3
        subst e1 e3
        have hee : exAt d (m : Int) = e := exAt_of (by simpa using hlk)
        obtain ⟨Ad, cd, hdv, _, _⟩ := hok.rd.form
        have hdl2 := oneI_len ((mayD_of HM.out).2 _ (List.mem_of_getElem? hlk))
        have hlab := ofLabels_at (d := d) HY.out
        rw [hee] at hlab
        have HAT : Hid (∀ i, i < N → (ofData d ids)[j * N + i]? = e.data[i]?) := Lib.hid (fun i hi => by rw [← hee]; exact ofData_at HM.out HN.out ids j m i HIO.out HY.out hi)
        obtain ⟨dv, data, lab⟩ := e
        simp only at hdv q0 q1 hdl2 hlab HAT
        subst hdv
        rw [length_ints] at q0
        have hok1 := hok.rd
        simp only at hok1
        rw [length_ints] at hok1
        have hdN : data.length = N := by have := HN.out; omega
        obtain ⟨A8, n8, c8, e8, _, _, _, hat8⟩ := R33.out.below (hbel.out.mono s23)
        injection e8 with e81 e82 e83
        subst e81 e82 e83
        obtain ⟨gl, ol, rfl, hgl, hxl⟩ := hat8.out (by omega)
        have r2 := hxl j (.int .i64 lab) (by unfold ints; rw [List.getElem?_map, hlab]; rfl)
        have HKT := Lib.hid (KT.out.below hbel.out lt)
        have HK3 := Lib.hid (K3.out.below hbel.out K3.out.lt)
        have HRD := Lib.hid hok1
        have R2r := Lib.hid (R23.out.below (hbel.out.mono s23))
        have i1 : (0 : Int) ≤ (j : Int) := by omega
        have i2 : (j : Int) < (ids.length : Int) := by omega
        have i3 : (m : Int) < (d.xs.length : Int) := by omega
        have i4 : (0 : Int) ≤ (m : Int) := by omega
        have t3 : (lab != lab) = false := by simp
        have t2b : decide ((m : Int) ≥ (d.xs.length : Int)) = false := by simp; omega
        have t2c : decide (d.xs.length ≤ m) = false := by simp; omega
        have m5 := HK3.out.cell 5
        simp only [List.getElem?_cons_zero, List.getElem?_cons_succ] at m5
        clear hat hxi hat8 hxl hlab hee hok hok1 hlk hin HI3 y0 yl yx
        go_wp2_with fail
        go_quiet (fail)
        clear r1 r2 t1 t2 t2b t2c t3 q1
        go_wp2_with fail
        clear q0 i1 i2 i3 i4 m5
        go_loopw [131] (fun i wx => ∃ z : Nat, z ≤ data.length ∧ i = .int .i64 z ∧ Hid (Below wr.heap.size wr wx)) (fun i _ => data.length - (intOf i).toNat)
        case atStart => exact ⟨0, by omega, rfl, Lib.hid (data_drewN (Below.refl _ _) _)⟩
        case round =>
          obtain ⟨z, hz, rfl, hbx⟩ := hrel
          by_cases hlm : z < data.length
          · obtain ⟨A7, n7, c7, e7, _, _, _, hat7⟩ := HRD.out.below (hbx.out.mono (by have := HB3.out.size; have := hbel.out.size; omega))
            injection e7 with e71 e72 e73
            subst e71 e72 e73
            obtain ⟨ga, oa, rfl, hga, hxa⟩ := hat7.out (by omega)
            have r1 := hxa z (.int .i8 data[z]) (ints_at _ _ _ hlm)
            have hat0 := HAT.out z (by omega)
            rw [List.getElem?_eq_getElem hlm] at hat0
            generalize data[z] = y at r1 hat0
            obtain ⟨P, hP⟩ : ∃ P : Nat, j * N = P := ⟨_, rfl⟩
            rw [hP] at hat0
            obtain ⟨Q, hQ⟩ : ∃ Q : Nat, P + z = Q := ⟨_, rfl⟩
            rw [hQ] at hat0
            obtain ⟨hQl, hQe⟩ := List.getElem?_eq_some_iff.1 hat0
            have hPl : P ≤ Q := by omega
            have hbq : Below q _ _ := hbx.out.mono (Nat.le_trans s23 hbel.out.size)
            have h6 := R2r.out.below hbq
            obtain ⟨gb, ob, hA2, hgb, r2⟩ := h6.cell_at (ints_some hat0)
            subst hA2
            clear hbq h6
            have HKT2 := Lib.hid (HKT.out.below hbx.out HKT.out.lt)
            have p0 := HKT2.out.cell 0
            have p1 := HKT2.out.cell 1
            have p2 := HKT2.out.cell 2
            simp only [List.getElem?_cons_zero, List.getElem?_cons_succ] at p0 p1 p2
            have j1 : (0 : Int) ≤ (z : Int) := by omega
            have j2 : (z : Int) < (data.length : Int) := by omega
            have j3 : (0 : Int) ≤ (Q : Int) := by omega
            have j4 : (Q : Int) < ((ofData d ids).length : Int) := by omega
            have t4 : (y != y) = false := by simp
            obtain ⟨PI, hPI⟩ : ∃ PI : Int, (P : Int) = PI := ⟨_, rfl⟩
            have w2 : wrap64 (PI + (z : Int)) = (Q : Int) := by rw [IntWalk.wrap64_in _ (by omega)]; omega
            have W2 := Lib.hid w2
            clear w2
            have w1 : wrap64 ((j : Int) * S) = PI := by
              rw [← HS.out, ← Int.natCast_mul, hP, hPI]
              exact IntWalk.wrap64_in _ (by omega)
            have w2 := W2.out
            clear W2 hPI
            clear hat7 hxa hQe hat0 hP hQ hQl
            go_wp2_with fail
            clear w1 w2 t4 j1 j2 j3 j4
            go_roundw
            case rel => exact ⟨z + 1, by omega, by go_num, hbx⟩
            case measure => simp [intOf]; omega
          · have HBX := Lib.hid (hbel.out.trans (hbx.out.mono hbel.out.size))
            go_wp2_with fail
            go_roundw
            case rel => exact ⟨j + 1, by omega, by go_num, HBX⟩
            case measure => simp [intOf]; omega
      · have HBX := Lib.hid (HB3.out.trans (hbel.out.mono s3))
        go_wp2_with (go_at_call 14; refine (awake23_any _).mono ?_; rintro en w' ⟨rfl, hb9⟩)
        go_ret
        exact ⟨rfl, HBX.out.trans (hb9.mono HBX.out.size)⟩
end Go.Proofs.Ytfhlailhcfjjaaa
