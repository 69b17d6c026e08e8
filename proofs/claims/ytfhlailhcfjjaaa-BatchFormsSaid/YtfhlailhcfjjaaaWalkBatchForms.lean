/- The walk of BatchForms. -/
import Derived.Test.YtfhlailhcfjjaaaRBatchOf
import Derived.Test.YtfhlailhcfjjaaaRWhich
import Derived.Test.YtfhlailhcfjjaaaDataLight
import Derived.Test.YtfhlailhcfjjaaaSameT
namespace Go.Proofs.Ytfhlailhcfjjaaa
open Go.RowKit
set_option linter.unusedVariables false
set_option linter.unusedSimpArgs false

theorem u64x {x : Int} (w : (Lit.int .u64 x).wf = true) : 0 ≤ x ∧ x < 18446744073709551616 := by
  simp only [Lit.wf, IntKind.min, IntKind.max, IntKind.signed, IntKind.bits, Bool.and_eq_true] at w
  have h2 : (2:Int)^64 = 18446744073709551616 := by decide
  simp at w
  omega
def FormsOf (w : World) (en : Ending) (w' : World) : Prop := en = .returned (.bool true) ∧ Below w.heap.size w w'
theorem FormsOf.ok {w w' : World} (h : Below w.heap.size w w') : FormsOf w (.returned (.bool true)) w' := ⟨rfl, h⟩
def outD (d : DatV) (ids : List Int) : List Int := if ofOk d ids = true then ofDims d ids else []
def outE (d : DatV) (ids : List Int) : Int := if ofOk d ids = true then d.exp else 0
def outX (d : DatV) (ids : List Int) : List Int := if ofOk d ids = true then ofData d ids else []
def outL (d : DatV) (ids : List Int) : List Int := if ofOk d ids = true then ofLabels d ids else []
def outN (d : DatV) (ids : List Int) : Int := if ofOk d ids = true then 0 else 1
theorem OfGot.use {w w' : World} {d : DatV} {ids : List Int} {en : Ending} (h : OfGot w d ids en w') (hby : bytesD d) : Below w.heap.size w w' ∧ ∃ A1 c1 A2 c2 A3 c3, en = .returned (.tuple #[.agg #[.slice A1 (outD d ids).length c1, .int .i64 (outE d ids), .slice A2 (outX d ids).length c2], .slice A3 (outL d ids).length c3, .int .i64 (outN d ids)]) ∧
    IsT w' w'.heap.size (.slice A1 (outD d ids).length c1) (.slice A2 (outX d ids).length c2) (outD d ids) (outE d ids) (outX d ids) ∧ Reads w' w'.heap.size (.slice A3 (outL d ids).length c3) (ints .i64 (outL d ids)) := by
  obtain ⟨hb, ⟨hno, rfl⟩ | ⟨hok, A1, c1, A2, c2, A3, c3, rfl, h1, h2, h3⟩⟩ := h
  · have e1 : outD d ids = [] := by unfold outD; simp [hno]
    have e2 : outE d ids = 0 := by unfold outE; simp [hno]
    have e3 : outX d ids = [] := by unfold outX; simp [hno]
    have e4 : outL d ids = [] := by unfold outL; simp [hno]
    have e5 : outN d ids = 1 := by unfold outN; simp [hno]
    rw [e1, e2, e3, e4, e5]
    exact ⟨hb, none, 0, none, 0, none, 0, rfl, IsT.zero _ _, Reads.nil_ _ _⟩
  · have e1 : outD d ids = ofDims d ids := by unfold outD; simp [hok]
    have e2 : outE d ids = d.exp := by unfold outE; simp [hok]
    have e3 : outX d ids = ofData d ids := by unfold outX; simp [hok]
    have e4 : outL d ids = ofLabels d ids := by unfold outL; simp [hok]
    have e5 : outN d ids = 0 := by unfold outN; simp [hok]
    have e6 : (ofLabels d ids).length = ids.length := by unfold ofLabels; rw [List.length_map]
    rw [e1, e2, e3, e4, e5, e6]
    have hok0 := hok
    unfold ofOk at hok0
    simp only [Bool.and_eq_true, decide_eq_true_eq] at hok0
    have hm := hok0.1.1
    have hio := hok0.2.1
    have hln := hok0.1.2.2
    have hh := headI_of (mayD_of hm).1
    refine ⟨hb, A1, c1, A2, c2, A3, c3, rfl, ⟨h1, h2, Lib.hid ?_, Lib.hid (ofData_in hby ids hio), by omega, by omega⟩, h3⟩
    intro x hx
    unfold ofDims at hx
    simp only [List.mem_cons, List.not_mem_nil, or_false] at hx
    rcases hx with rfl | rfl | rfl | rfl <;> omega
theorem sameB_refl (d : List Int) (e : Int) (x : List Int) : sameB d e x d e x = true := by unfold sameB; simp
set_option maxRecDepth 100000 in
set_option maxHeartbeats 6400000 in
theorem batchForms_aux (a0 a1 a2 a3 : Int) (v4 : Value) (d : DatV) (v5 : Value) (ids : List Int) (w : World) (w0 : (Lit.int .u64 a0).wf = true) (o4 : DataOf w w.heap.size v4 d) (o5 : IntsOf w v5 ids) :
    Calls Try.prog 7 #[.int .u64 a0, .int .i64 a1, .int .i64 a2, .int .i64 a3, v4, v5] w (FormsOf w) := by
  obtain ⟨u0, u1⟩ := u64x w0
  clear w0
  have HBY := Lib.hid (show bytesD d from fun e he => (o4.xs.ok.out e he).data)
  have HBD := Lib.hid o5.bd.out
  have hil := o5.len
  have hi := o5.rd
  have h0 := o4
  obtain ⟨rfl, hwd, hx⟩ := o4
  obtain ⟨A, k0, hlv⟩ := hx.form
  rw [hlv] at h0 hx ⊢
  clear hlv
  obtain ⟨Ai, ci, rfl, _, _⟩ := hi.form
  rw [length_ints] at hi ⊢
  have hlen := hx.len
  have hb1 := one_alloc w (.cells #[.int .i64 d.a, .int .i64 d.b, .int .i64 d.c, .int .i64 d.exp, .int .i64 d.cl, .slice A d.xs.length k0] 33)
  have hk1 := Blk.fresh w 33 [.int .i64 d.a, .int .i64 d.b, .int .i64 d.c, .int .i64 d.exp, .int .i64 d.cl, .slice A d.xs.length k0]
  have HB1 := Lib.hid hb1
  have K1 := Lib.hid hk1
  have H0 := Lib.hid (h0.below hb1)
  have HI := Lib.hid (hi.below hb1)
  have HX := Lib.hid hx
  have s1 := hb1.size
  have l1 := hk1.lt
  clear o5 h0 hi hx hb1 hk1 hwd
  have m5 := K1.out.cell 5
  simp only [List.getElem?_cons_zero, List.getElem?_cons_succ] at m5
  go_enter Try.func7, Try.ntmps7
  go_wp2_with fail
  generalize (w.alloc (.cells #[.int .i64 d.a, .int .i64 d.b, .int .i64 d.c, .int .i64 d.exp, .int .i64 d.cl, .slice A d.xs.length k0] 33)) = w1 at HB1 K1 H0 HI s1 l1 m5 ⊢
  clear m5
  go_loopw [13, 25] (fun n i wr => ∃ k : Nat, k ≤ d.xs.length ∧ k ≤ 100 ∧ i = .int .i64 k ∧ n = .int .i64 (sumLen (d.xs.take k)) ∧ Hid (sumLen (d.xs.take k) ≤ 3000) ∧ Hid (Below w1.heap.size w1 wr)) (fun _ i _ => d.xs.length - (intOf i).toNat)
  case atStart => exact ⟨0, by omega, by omega, rfl, rfl, Lib.hid (by simp [sumLen]), Lib.hid (Below.refl _ _)⟩
  case round =>
    obtain ⟨k, hk, hk1, rfl, rfl, hs, hbel⟩ := hrel
    have HBr := Lib.hid (HB1.out.trans (hbel.out.mono s1))
    have sr := HBr.out.size
    by_cases hlt : k < d.xs.length
    · obtain ⟨g, o, c', e, e1, hlk, hok, hg, q0, q1⟩ := (HX.out.below HBr.out).at_ hlt
      injection e1 with e1 _ e3
      subst e1 e3
      obtain ⟨Ad, cd, hdv, _, _⟩ := hok.rd.form
      obtain ⟨dv, data, lab⟩ := e
      simp only at hdv q0 q1
      subst hdv
      rw [length_ints] at q0
      rw [length_ints] at hlk hok
      have hdl := hok.len
      simp only at hdl
      have HST := Lib.hid (sumLen_step hlk)
      have a1 : g < wr.heap.size := by omega
      have hs' := hs.out
      have HBX := Lib.hid (HBr.out.trans ((one_alloc wr (.cells #[.slice Ad data.length cd, .int .i64 lab] 45)).mono sr))
      have HBY2 := Lib.hid (hbel.out.trans ((one_alloc wr (.cells #[.slice Ad data.length cd, .int .i64 lab] 45)).mono hbel.out.size))
      obtain ⟨n, hn⟩ : ∃ n, sumLen (d.xs.take k) = n := ⟨_, rfl⟩
      rw [hn] at hs' HST ⊢
      have i1 : (0 : Int) ≤ (k : Int) := by omega
      have i2 : (k : Int) < (d.xs.length : Int) := by omega
      have hw : wrap64 ((n : Int) + (data.length : Int)) = (n : Int) + (data.length : Int) := by unfold wrap64; omega
      have HW := Lib.hid hw
      clear hlk hok hn hw
      obtain ⟨N, hN⟩ : ∃ N : Nat, n + data.length = N := ⟨_, rfl⟩
      have hNI : (n : Int) + (data.length : Int) = (N : Int) := by omega
      have hNS : sumLen (d.xs.take (k + 1)) = N := by rw [HST.out]; exact hN
      have HNS := Lib.hid hNS
      clear hN hNS
      go_wp2_with (go_at_call 14; refine (awake23_any _).mono ?_; rintro en w' ⟨rfl, hb9⟩)
      · go_ret
        exact FormsOf.ok (HBX.out.trans (hb9.mono HBX.out.size))
      · rename_i hw1
        obtain ⟨hw1, hw2⟩ := hw1
        clear hs HW HST hNI hs'
        go_roundw
        case rel => exact ⟨k + 1, by omega, by omega, by go_num, by rw [HNS.out], Lib.hid (by rw [HNS.out]; omega), HBY2⟩
        case measure => simp [intOf]; omega
      · go_ret
        exact FormsOf.ok (HBX.out.trans (hb9.mono HBX.out.size))
    · obtain rfl : k = d.xs.length := by omega
      clear hs hlt hk hk1
      have lr : w.heap.size < wr.heap.size := by have := hbel.out.size; omega
      have K2 := Lib.hid (K1.out.below hbel.out l1)
      have H2 := Lib.hid (H0.out.below (hbel.out.mono s1))
      have I2 := Lib.hid (HI.out.below (hbel.out.mono s1))
      clear K1 H0 HI hbel l1 s1 HB1 HX
      by_cases c0 : ids.length ≤ 100
      case neg =>
        have t1 : decide (100 < (ids.length : Int)) = true := by simp; omega
        go_wp2_with (go_at_call 14; refine (awake23_any _).mono ?_; rintro en w' ⟨rfl, hb9⟩)
        go_ret
        exact FormsOf.ok (HBr.out.trans (hb9.mono sr))
      have t1 : decide (100 < (ids.length : Int)) = false := by simp; omega
      have m0 := K2.out.cell 0
      have m1 := K2.out.cell 1
      have m2 := K2.out.cell 2
      have m3 := K2.out.cell 3
      have m4 := K2.out.cell 4
      have m5 := K2.out.cell 5
      simp only [List.getElem?_cons_zero, List.getElem?_cons_succ] at m0 m1 m2 m3 m4 m5
      go_wp2_with fail
      clear m0 m1 m2 m3 m4 m5 t1
      refine (of_any _ d _ ids wr w.heap.size sr H2.out I2.out HBD.out (by omega)).mono ?_
      intro en w3 hgot
      obtain ⟨hb3, A1, c1, A2, c2, A3, c3, rfl, hist, hlr⟩ := hgot.use HBY.out
      have HB3 := Lib.hid (HBr.out.trans (hb3.mono sr))
      have s3 := HB3.out.size
      have K3 := Lib.hid (K2.out.below hb3 lr)
      have l3 := K3.out.lt
      have hba := one_alloc w3 (.cells #[.slice A1 (outD d ids).length c1, .int .i64 (outE d ids), .slice A2 (outX d ids).length c2] 47)
      have HB4 := Lib.hid (HB3.out.trans (hba.mono s3))
      have K4 := Lib.hid (K3.out.below hba l3)
      have H4 := Lib.hid (H2.out.below ((hb3.mono sr).trans (hba.mono s3)))
      have I4 := Lib.hid (I2.out.below ((hb3.mono sr).trans (hba.mono s3)))
      have P4 := Lib.hid (Blk.fresh w3 47 [.slice A1 (outD d ids).length c1, .int .i64 (outE d ids), .slice A2 (outX d ids).length c2])
      have S4 := Lib.hid ((hist.below hba).more hba.size)
      have L4 := Lib.hid ((hlr.below hba).more hba.size)
      clear hgot hb3 hist hlr hba K2 H2 I2 HBr lr
      have m0 := K3.out.cell 0
      have m1 := K3.out.cell 1
      have m2 := K3.out.cell 2
      have m3 := K3.out.cell 3
      have m4 := K3.out.cell 4
      have m5 := K3.out.cell 5
      simp only [List.getElem?_cons_zero, List.getElem?_cons_succ] at m0 m1 m2 m3 m4 m5
      go_wp2_with fail
      clear m0 m1 m2 m3 m4 m5 K3 HB3
      generalize (w3.alloc (.cells #[.slice A1 (outD d ids).length c1, .int .i64 (outE d ids), .slice A2 (outX d ids).length c2] 47)) = w4 at HB4 K4 H4 I4 P4 S4 L4 ⊢
      have s4 := HB4.out.size
      have l4 := K4.out.lt
      have p4 := P4.out.lt
      refine (rof_any _ d _ ids w4 w.heap.size s4 H4.out I4.out HBD.out (by omega)).mono ?_
      intro en w5 hgot
      obtain ⟨hb5, A4, c4, A5, c5, A6, c6, rfl, hist, hlr⟩ := hgot.use HBY.out
      have hba := one_alloc w5 (.cells #[.slice A4 (outD d ids).length c4, .int .i64 (outE d ids), .slice A5 (outX d ids).length c5] 47)
      have hbb := hb5.trans (hba.mono hb5.size)
      have HB6 := Lib.hid (HB4.out.trans (hbb.mono s4))
      have P6 := Lib.hid (P4.out.below hbb p4)
      have S6 := Lib.hid ((S4.out.below hbb).more hbb.size)
      have L6 := Lib.hid ((L4.out.below hbb).more hbb.size)
      have Q6 := Lib.hid (Blk.fresh w5 47 [.slice A4 (outD d ids).length c4, .int .i64 (outE d ids), .slice A5 (outX d ids).length c5])
      have S6' := Lib.hid ((hist.below hba).more hba.size)
      have L6' := Lib.hid ((hlr.below hba).more hba.size)
      clear hgot hb5 hist hlr hba hbb K4 H4 I4 HB4 P4 S4 L4 HBD HBY
      go_wp2_with fail
      generalize (w5.alloc (.cells #[.slice A4 (outD d ids).length c4, .int .i64 (outE d ids), .slice A5 (outX d ids).length c5] 47)) = w6 at HB6 P6 S6 L6 Q6 S6' L6' ⊢
      have s6 := HB6.out.size
      generalize w3.heap.size = g1 at *
      generalize w5.heap.size = g2 at *
      generalize outD d ids = dd at *
      generalize outE d ids = ee at *
      generalize outX d ids = xx at *
      generalize outL d ids = ll at *
      generalize outN d ids = nn at *
      have S1 := Lib.hid (steps_gen a1 a2 w6)
      have S2 := Lib.hid (rsteps_gen a1 a2 w6)
      generalize stepsI a1 a2 = KK at S1 S2
      have z1 : (KK == KK) = true := by simp
      refine S1.out.mono ?_
      rintro en w' ⟨rfl, rfl⟩
      go_wp2_with fail
      refine S2.out.mono ?_
      rintro en w' ⟨rfl, rfl⟩
      clear S1 S2
      go_wp2_with fail
      clear z1
      refine (which_gen a0 a1 a2 a3 w6 u0 u1).mono ?_
      rintro en w7 ⟨⟨A7, c7, rfl, r7⟩, hb7⟩
      have HB7 := Lib.hid (HB6.out.trans (hb7.mono s6))
      have P7 := Lib.hid (P6.out.below hb7 P6.out.lt)
      have Q7 := Lib.hid (Q6.out.below hb7 Q6.out.lt)
      have S7 := Lib.hid ((S6.out.below hb7).more hb7.size)
      have S7' := Lib.hid ((S6'.out.below hb7).more hb7.size)
      have L7 := Lib.hid ((L6.out.below hb7).more hb7.size)
      have L7' := Lib.hid ((L6'.out.below hb7).more hb7.size)
      have R7 := Lib.hid r7
      have s7 := HB7.out.size
      clear hb7 r7 HB6 P6 Q6 S6 S6' L6 L6' s6
      go_wp2_with fail
      refine (rwhich_gen a0 a1 a2 a3 w7 u0 u1).mono ?_
      rintro en w8 ⟨⟨A8, c8, rfl, r8⟩, hb8⟩
      have HB8 := Lib.hid (HB7.out.trans (hb8.mono s7))
      have P8 := Lib.hid (P7.out.below hb8 P7.out.lt)
      have Q8 := Lib.hid (Q7.out.below hb8 Q7.out.lt)
      have S8 := Lib.hid ((S7.out.below hb8).more hb8.size)
      have S8' := Lib.hid ((S7'.out.below hb8).more hb8.size)
      have L8 := Lib.hid ((L7.out.below hb8).more hb8.size)
      have L8' := Lib.hid ((L7'.out.below hb8).more hb8.size)
      have R8 := Lib.hid ((R7.out.below hb8).more hb8.size)
      have R8' := Lib.hid r8
      have s8 := HB8.out.size
      clear hb8 r8 HB7 P7 Q7 S7 S7' L7 L7' R7 s7
      generalize whichI a0 a1 a2 a3 = wi at *
      go_wp2_with fail
      refine (sameints_any wi wi _ _ w8 _ _ R8.out R8'.out).mono ?_
      rintro en w9 ⟨rfl, z9, hz9⟩
      have hb9 : Below w8.heap.size w8 w9 := by rw [hz9]; exact data_drewN (Below.refl _ _) _
      clear hz9
      have HB9 := Lib.hid (HB8.out.trans (hb9.mono s8))
      have P9 := Lib.hid (P8.out.below hb9 P8.out.lt)
      have Q9 := Lib.hid (Q8.out.below hb9 Q8.out.lt)
      have S9 := Lib.hid ((S8.out.below hb9).more hb9.size)
      have S9' := Lib.hid ((S8'.out.below hb9).more hb9.size)
      have L9 := Lib.hid ((L8.out.below hb9).more hb9.size)
      have L9' := Lib.hid ((L8'.out.below hb9).more hb9.size)
      have s9 := HB9.out.size
      have p9 := P9.out.lt
      have q9 := Q9.out.lt
      rw [show (wi == wi) = true by simp]
      clear hb9 HB8 P8 Q8 S8 S8' L8 L8' R8 R8' s8
      have p0 := P9.out.cell 0
      have p1 := P9.out.cell 1
      have p2 := P9.out.cell 2
      simp only [List.getElem?_cons_zero, List.getElem?_cons_succ] at p0 p1 p2
      have q0 := Q9.out.cell 0
      have q1 := Q9.out.cell 1
      have q2 := Q9.out.cell 2
      simp only [List.getElem?_cons_zero, List.getElem?_cons_succ] at q0 q1 q2
      go_wp2_with fail
      clear p0 p1 p2 q0 q1 q2
      refine (samet_any dd ee xx dd ee xx _ _ _ _ w9 w9.heap.size (Nat.le_refl _) S9.out S9'.out).mono ?_
      rintro en w10 ⟨rfl, hb10⟩
      rw [sameB_refl]
      have HB10 := Lib.hid (HB9.out.trans (hb10.mono s9))
      have L10 := Lib.hid (L9.out.below hb10)
      have L10' := Lib.hid (L9'.out.below hb10)
      have s10 := HB10.out.size
      clear hb10 HB9 P9 Q9 S9 S9' L9 L9'
      go_wp2_with fail
      refine (sameints_any ll ll _ _ w10 _ _ L10.out L10'.out).mono ?_
      rintro en w11 ⟨rfl, z11, hz11⟩
      have hb11 : Below w10.heap.size w10 w11 := by rw [hz11]; exact data_drewN (Below.refl _ _) _
      clear hz11
      rw [show (ll == ll) = true by simp]
      have HB11 := Lib.hid (HB10.out.trans (hb11.mono s10))
      have s11 := HB11.out.size
      have z2 : (nn == nn) = true := by simp
      clear hb11 HB10 L10 L10' s10
      go_wp2_with (go_at_call 14; refine (awake23_any _).mono ?_; rintro en w' ⟨rfl, hb9⟩)
      go_ret
      exact FormsOf.ok (HB11.out.trans (hb9.mono s11))
theorem batchForms_walk (a0 a1 a2 a3 : Int) (v4 : Value) (a4 : DatV) (v5 : Value) (a5 : List Int) (w : World) (w0 : (Lit.int .u64 a0).wf = true) (w1 : (Lit.int .i64 a1).wf = true) (w2 : (Lit.int .i64 a2).wf = true) (w3 : (Lit.int .i64 a3).wf = true) (o4 : DataOf w w.heap.size v4 a4) (o5 : IntsOf w v5 a5) :
    Calls Try.prog 7 #[.int .u64 a0, .int .i64 a1, .int .i64 a2, .int .i64 a3, v4, v5] w fun en w' => en = .returned (.bool true) ∧ Below w.heap.size w w' :=
  batchForms_aux a0 a1 a2 a3 v4 a4 v5 a5 w w0 o4 o5
end Go.Proofs.Ytfhlailhcfjjaaa
