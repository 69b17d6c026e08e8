/- The walk of AddSums. -/
import Derived.Test.YthdahnjghpiheaaAcc
import Derived.Test.YthdahnjghpiheaaOpenA
import Derived.Test.YthdahnjghpiheaaSameAcc
import Derived.Test.YthdahnjghpiheaaAwake14
namespace Go.Proofs.Ythdahnjghpiheaa
open Go.RowKit
set_option linter.unusedVariables false

theorem ints_replicateA (k : IntKind) (n : Nat) : List.replicate n (Value.int k 0) = ints k (List.replicate n 0) := by simp [ints]
theorem sum_comm : ∀ xs ys : List Int, sumI xs ys = sumI ys xs
  | [], [] => rfl
  | [], _ :: _ => rfl
  | _ :: _, [] => rfl
  | x :: xs, y :: ys => by simp only [sumI]; rw [sum_comm xs ys, Int.add_comm]
theorem sum_zeros : ∀ xs : List Int, sumI xs (List.replicate xs.length 0) = xs
  | [] => rfl
  | x :: xs => by simp only [List.length_cons, List.replicate_succ, sumI]; rw [sum_zeros xs, Int.add_zero]
theorem accErr_comm (gd : List Int) (ge : Int) (gx xd : List Int) (xe : Int) (xx : List Int) : accErr xd xe xx gd ge gx = accErr gd ge gx xd xe xx := by
  unfold accErr
  rw [sum_comm xx gx]
  by_cases h : addMay gd ge gx = true ∧ addMay xd xe xx = true
  · rw [if_pos ⟨h.2, h.1⟩, if_pos h]
    by_cases h3 : gd = xd
    · rw [if_pos h3.symm, if_pos h3]
      by_cases h4 : ge = xe
      · rw [if_pos h4.symm, if_pos h4]
      · rw [if_neg (fun q => h4 q.symm), if_neg h4]
    · rw [if_neg (fun q => h3 q.symm), if_neg h3]
  · rw [if_neg (fun q => h ⟨q.2, q.1⟩), if_neg h]
theorem accErr_ok {gd : List Int} {ge : Int} {gx xd : List Int} {xe : Int} {xx : List Int} (h : accErr gd ge gx xd xe xx = 0) : gd = xd ∧ ge = xe ∧ (sumI gx xx).all inB = true := by
  unfold accErr at h
  split at h
  · split at h
    · rename_i h3
      split at h
      · rename_i h4
        split at h
        · rename_i h5
          exact ⟨h3, h4, h5⟩
        · omega
      · omega
    · omega
  · omega

set_option maxHeartbeats 3200000 in
set_option maxRecDepth 100000 in
theorem addSums_walk (v0 : Value) (a0 : AccV) (v1 : Value) (a1 : AccV) (w : World) (o0 : AccOf w v0 a0) (o1 : AccOf w v1 a1) :
    Calls Try.prog 11 #[v0, v1] w fun en w' => en = .returned (.bool true) ∧ Below w.heap.size w w' := by
  obtain ⟨gv, gw, gd, ge, gx⟩ := a0
  obtain ⟨xv, xw, xd, xe, xx⟩ := a1
  obtain ⟨rfl, hG, ldg, lxg⟩ := o0
  obtain ⟨rfl, hX, ldx, lxx⟩ := o1
  simp only at hG hX ldg lxg ldx lxx ⊢
  have hb0 := two_alloc0 w (.cells #[gv, .int .i64 ge, gw] 39) (.cells #[xv, .int .i64 xe, xw] 39)
  have TA := Lib.hid (hG.below hb0)
  have TB := Lib.hid (hX.below hb0)
  obtain ⟨A, c, rfl, _, _⟩ := hG.d.form
  obtain ⟨A', c', rfl, _, hmx⟩ := hG.x.form
  obtain ⟨A2, c2, rfl, _, _⟩ := hX.d.form
  obtain ⟨A2', c2', rfl, _, _⟩ := hX.x.form
  simp only [length_ints] at *
  have KA := Lib.hid ((Blk.fresh w 39 [.slice A gd.length c, .int .i64 ge, .slice A' gx.length c']).alloc (.cells #[.slice A2 xd.length c2, .int .i64 xe, .slice A2' xx.length c2'] 39))
  have kx := Blk.fresh (w.alloc (.cells #[.slice A gd.length c, .int .i64 ge, .slice A' gx.length c'] 39)) 39 [.slice A2 xd.length c2, .int .i64 xe, .slice A2' xx.length c2']
  rw [World.size_alloc] at kx
  have KB := Lib.hid kx
  have BB := Lib.hid hb0
  have hml : gx.length ≤ maxLen := by unfold maxLen; omega
  have HML := Lib.hid hml
  have hl2 : w.heap.size + 2 ≤ ((w.alloc (.cells #[.slice A gd.length c, .int .i64 ge, .slice A' gx.length c'] 39)).alloc (.cells #[.slice A2 xd.length c2, .int .i64 xe, .slice A2' xx.length c2'] 39)).heap.size := by simp
  obtain ⟨n, hn⟩ : ∃ n, gd.length = n := ⟨_, rfl⟩
  obtain ⟨m, hm⟩ : ∃ m, gx.length = m := ⟨_, rfl⟩
  rw [hn, hm] at KA TA BB hl2 KB TB
  rw [hm] at lxg
  rw [hn, hm]
  have HN := Lib.hid hn
  have HM := Lib.hid hm
  have hmk : Hid (∀ (W : World), (Instr.makeSlice 37 (.int .i64 (m : Int)) (.int .i64 (m : Int))).run Try.prog W = .ok (.slice (some ⟨W.heap.size, 0, none⟩) m m) (W.alloc (.cells (zerosA (.int .i32 0) m) 21))) := Lib.hid (fun W => by
    obtain ⟨i, hi, hz, hs, hb⟩ := info_parts elem_i32.info
    exact run_make1 37 21 i _ elem_i32.und hi hz hs rfl .i64 .i64 m (by rw [hb]; omega) (by omega) W)
  clear hG hX hb0 kx hml hmx hn hm
  obtain ⟨Dp, p1⟩ : ∃ D, (if accErr gd ge gx xd xe xx = 0 then gd else []) = D := ⟨_, rfl⟩
  obtain ⟨Ep, p2⟩ : ∃ D, (if accErr gd ge gx xd xe xx = 0 then ge else 0) = D := ⟨_, rfl⟩
  obtain ⟨Xp, p3⟩ : ∃ D, (if accErr gd ge gx xd xe xx = 0 then sumI gx xx else []) = D := ⟨_, rfl⟩
  obtain ⟨ep, p4⟩ : ∃ D, accErr gd ge gx xd xe xx = D := ⟨_, rfl⟩
  have Q1 : Hid ((if accErr xd xe xx gd ge gx = 0 then xd else []) = Dp) := Lib.hid (by
    rw [accErr_comm, ← p1]
    by_cases h : accErr gd ge gx xd xe xx = 0
    · rw [if_pos h, if_pos h]; exact (accErr_ok h).1.symm
    · rw [if_neg h, if_neg h])
  have Q2 : Hid ((if accErr xd xe xx gd ge gx = 0 then xe else 0) = Ep) := Lib.hid (by
    rw [accErr_comm, ← p2]
    by_cases h : accErr gd ge gx xd xe xx = 0
    · rw [if_pos h, if_pos h]; exact (accErr_ok h).2.1.symm
    · rw [if_neg h, if_neg h])
  have Q3 : Hid ((if accErr xd xe xx gd ge gx = 0 then sumI xx gx else []) = Xp) := Lib.hid (by rw [accErr_comm, ← p3, sum_comm xx gx])
  have Q4 : Hid (accErr xd xe xx gd ge gx = ep) := Lib.hid (by rw [accErr_comm]; exact p4)
  have hall : Xp.all inB = true := by
    rw [← p3]
    by_cases h : accErr gd ge gx xd xe xx = 0
    · rw [if_pos h]; exact (accErr_ok h).2.2
    · rw [if_neg h]; rfl
  have HALL := Lib.hid hall
  have P1 := Lib.hid p1
  have P2 := Lib.hid p2
  have P3 := Lib.hid p3
  have P4 := Lib.hid p4
  obtain ⟨Ds, r1⟩ : ∃ D, (if accErr gd ge gx gd ge (List.replicate gx.length 0) = 0 then gd else []) = D := ⟨_, rfl⟩
  obtain ⟨Es, r2⟩ : ∃ D, (if accErr gd ge gx gd ge (List.replicate gx.length 0) = 0 then ge else 0) = D := ⟨_, rfl⟩
  obtain ⟨Xs, r3⟩ : ∃ D, (if accErr gd ge gx gd ge (List.replicate gx.length 0) = 0 then sumI gx (List.replicate gx.length 0) else []) = D := ⟨_, rfl⟩
  obtain ⟨es, r4⟩ : ∃ D, accErr gd ge gx gd ge (List.replicate gx.length 0) = D := ⟨_, rfl⟩
  have R1 := Lib.hid r1
  have R2 := Lib.hid r2
  have R3 := Lib.hid r3
  have R4 := Lib.hid r4
  have hee : (ep != ep) = false := by simp
  clear p1 p2 p3 p4 r1 r2 r3 r4 hall
  go_enter Try.func11, Try.ntmps11
  go_wp2_with fail
  generalize ((w.alloc (.cells #[.slice A n c, .int .i64 ge, .slice A' m c'] 39)).alloc (.cells #[.slice A2 xd.length c2, .int .i64 xe, .slice A2' xx.length c2'] 39)) = w2 at TA TB BB KA KB hl2 ⊢
  refine (acc_any gd ge gx xd xe xx _ _ _ _ w2 w.heap.size (by omega) TA.out TB.out Dp Ep Xp ep P1.out P2.out P3.out P4.out).mono ?_
  rintro en w3 ⟨Ap, cp, Yp, yp, rfl, hT3, hb3⟩
  have hs3 := hb3.size
  have hbx := (Below.refl w3.heap.size w3).alloc (Nat.le_refl _) (.cells #[.slice Ap (Dp).length cp, .int .i64 Ep, .slice Yp (Xp).length yp] 39)
  have hbn := hbx.size
  have TA := Lib.hid ((TA.out.below (hb3.mono (by omega))).below (hbx.mono (by omega)))
  have TB := Lib.hid ((TB.out.below (hb3.mono (by omega))).below (hbx.mono (by omega)))
  have BB := Lib.hid ((BB.out.trans (hb3.mono (by omega))).trans (hbx.mono (by omega)))
  have kA := KA.out.below hb3 KA.out.lt
  have iA := kA.lt
  have kB := KB.out.below hb3 KB.out.lt
  have iB := kB.lt
  have xA0 : w3.cell? ⟨w.heap.size, 0, none⟩ = some (.slice A n c) := kA.cell 0
  have xA1 : w3.cell? ⟨w.heap.size, 1, none⟩ = some (.int .i64 ge) := kA.cell 1
  have xA2 : w3.cell? ⟨w.heap.size, 2, none⟩ = some (.slice A' m c') := kA.cell 2
  have xB0 : w3.cell? ⟨w.heap.size + 1, 0, none⟩ = some (.slice A2 xd.length c2) := kB.cell 0
  have xB1 : w3.cell? ⟨w.heap.size + 1, 1, none⟩ = some (.int .i64 xe) := kB.cell 1
  have xB2 : w3.cell? ⟨w.heap.size + 1, 2, none⟩ = some (.slice A2' xx.length c2') := kB.cell 2
  have KA := Lib.hid (kA.alloc (.cells #[.slice Ap (Dp).length cp, .int .i64 Ep, .slice Yp (Xp).length yp] 39))
  have KB := Lib.hid (kB.alloc (.cells #[.slice Ap (Dp).length cp, .int .i64 Ep, .slice Yp (Xp).length yp] 39))
  have Tp := Lib.hid (hT3.below hbx)
  have Kp := Lib.hid (Blk.fresh w3 39 [.slice Ap (Dp).length cp, .int .i64 Ep, .slice Yp (Xp).length yp])
  clear hT3 hb3 kA kB
  go_wp2_with fail
  clear xA0 xA1 xA2 xB0 xB1 xB2
  generalize (w3.alloc (.cells #[.slice Ap (Dp).length cp, .int .i64 Ep, .slice Yp (Xp).length yp] 39)) = w4 at hbx hbn BB TA TB Tp  KA KB Kp ⊢
  clear hbx
  refine (acc_any xd xe xx gd ge gx _ _ _ _ w4 w.heap.size (by omega) TB.out TA.out Dp Ep Xp ep Q1.out Q2.out Q3.out Q4.out).mono ?_
  rintro en w5 ⟨Aq, cq, Yq, yq, rfl, hT5, hb5⟩
  have hs5 := hb5.size
  have hbx := (Below.refl w5.heap.size w5).alloc (Nat.le_refl _) (.cells #[.slice Aq (Dp).length cq, .int .i64 Ep, .slice Yq (Xp).length yq] 39)
  have hbn := hbx.size
  have TA := Lib.hid ((TA.out.below (hb5.mono (by omega))).below (hbx.mono (by omega)))
  have TB := Lib.hid ((TB.out.below (hb5.mono (by omega))).below (hbx.mono (by omega)))
  have Tp := Lib.hid ((Tp.out.below (hb5.mono (by omega))).below (hbx.mono (by omega)))
  have BB := Lib.hid ((BB.out.trans (hb5.mono (by omega))).trans (hbx.mono (by omega)))
  have kA := KA.out.below hb5 KA.out.lt
  have iA := kA.lt
  have kB := KB.out.below hb5 KB.out.lt
  have iB := kB.lt
  have kp := Kp.out.below hb5 Kp.out.lt
  have ip := kp.lt
  have xp0 : w5.cell? ⟨w3.heap.size, 0, none⟩ = some (.slice Ap (Dp).length cp) := kp.cell 0
  have xp1 : w5.cell? ⟨w3.heap.size, 1, none⟩ = some (.int .i64 Ep) := kp.cell 1
  have xp2 : w5.cell? ⟨w3.heap.size, 2, none⟩ = some (.slice Yp (Xp).length yp) := kp.cell 2
  have KA := Lib.hid (kA.alloc (.cells #[.slice Aq (Dp).length cq, .int .i64 Ep, .slice Yq (Xp).length yq] 39))
  have KB := Lib.hid (kB.alloc (.cells #[.slice Aq (Dp).length cq, .int .i64 Ep, .slice Yq (Xp).length yq] 39))
  have Kp := Lib.hid (kp.alloc (.cells #[.slice Aq (Dp).length cq, .int .i64 Ep, .slice Yq (Xp).length yq] 39))
  have Tq := Lib.hid (hT5.below hbx)
  have Kq := Lib.hid (Blk.fresh w5 39 [.slice Aq (Dp).length cq, .int .i64 Ep, .slice Yq (Xp).length yq])
  clear hT5 hb5 kA kB kp
  go_wp2_with fail
  clear xp0 xp1 xp2
  generalize (w5.alloc (.cells #[.slice Aq (Dp).length cq, .int .i64 Ep, .slice Yq (Xp).length yq] 39)) = w6 at hbx hbn BB TA TB Tp Tq  KA KB Kp Kq ⊢
  clear hbx
  have hS := sameacc_any Dp Ep Xp Dp Ep Xp _ _ _ _ w6 w6.heap.size (Nat.le_refl _) (Tp.out.more (by omega)) (Tq.out.more (by omega))
  rw [same_self] at hS
  refine hS.mono ?_
  rintro en w7 ⟨rfl, hb7⟩
  have hs7 := hb7.size
  have TA := Lib.hid (TA.out.below (hb7.mono (by omega)))
  have Tp := Lib.hid (Tp.out.below (hb7.mono (by omega)))
  have BB := Lib.hid (BB.out.trans (hb7.mono (by omega)))
  have KA := Lib.hid (KA.out.below hb7 KA.out.lt)
  have Kp := Lib.hid (Kp.out.below hb7 Kp.out.lt)
  clear hb7 hS TB KB Kq Tq
  go_upto_region 5 with fail
  have hmk2 := hmk.out
  have iA7 := KA.out.lt
  have s0 : w7.cell? ⟨w.heap.size, 0, none⟩ = some (.slice A n c) := KA.out.cell 0
  have s1 : w7.cell? ⟨w.heap.size, 1, none⟩ = some (.int .i64 ge) := KA.out.cell 1
  have s2 : w7.cell? ⟨w.heap.size, 2, none⟩ = some (.slice A' m c') := KA.out.cell 2
  go_cut [9] (fun s wx => ∃ (q g0 : Nat), s = .pointer (some ⟨q, 0, none⟩) ∧ Blk wx q 39 [.slice A n c, .int .i64 ge, .slice (some ⟨g0, 0, none⟩) m m] ∧ Blk wx g0 21 (List.replicate m (.int .i32 0)) ∧ Below w7.heap.size w7 wx)
  case first =>
    go_region
    · go_wp2_with fail
      go_meet
      refine ⟨w7.heap.size + 1, w7.heap.size, rfl, ?_, ?_, ?_⟩
      · have h := (Blk.fresh (w7.alloc (.cells (zerosA (.int .i32 0) m) 21)) 39 [.slice A n c, .int .i64 ge, .slice (some ⟨w7.heap.size, 0, none⟩) m m]).drew
        rw [World.size_alloc] at h
        exact h
      · have h := ((Blk.freshA w7 21 (zerosA (.int .i32 0) m)).alloc (.cells #[.slice A n c, .int .i64 ge, .slice (some ⟨w7.heap.size, 0, none⟩) m m] 39)).drew
        rw [zerosA_toList] at h
        exact h
      · exact (two_alloc0 w7 _ _).drew
    · go_wp2_with fail
      go_meet
      refine ⟨w7.heap.size, w7.heap.size + 1, rfl, ?_, ?_, ?_⟩
      · exact ((Blk.fresh w7 39 [.slice A n c, .int .i64 ge, .slice (some ⟨w7.heap.size + 1, 0, none⟩) m m]).alloc _).drew
      · have h := (Blk.freshA (w7.alloc (.cells #[.slice A n c, .int .i64 ge, .slice (some ⟨w7.heap.size + 1, 0, none⟩) m m] 39)) 21 (zerosA (.int .i32 0) m)).drew
        rw [zerosA_toList, World.size_alloc] at h
        exact h
      · exact (two_alloc0 w7 _ _).drew
  case rest =>
    obtain ⟨q, g0, rfl, kq, kg, hb8⟩ := hcut
    have tz : Reads wc wc.heap.size (.slice (some ⟨g0, 0, none⟩) m m) (ints .i32 (List.replicate gx.length 0)) := by
      rw [HM.out]
      rw [ints_replicateA] at kg
      have h := Blk.isInts _ kg (by simp; exact HM.out ▸ HML.out)
      simpa using h
    have hs8 := hb8.size
    have TA := Lib.hid (TA.out.below (hb8.mono (by omega)))
    have Tp := Lib.hid (Tp.out.below (hb8.mono (by omega)))
    have BB := Lib.hid (BB.out.trans (hb8.mono (by omega)))
    have KA := Lib.hid (KA.out.below hb8 KA.out.lt)
    have Kp := Lib.hid (Kp.out.below hb8 Kp.out.lt)
    have Tz : Hid (IsA wc wc.heap.size (.slice A n c) (.slice (some ⟨g0, 0, none⟩) m m) gd ge (List.replicate gx.length 0)) := Lib.hid ⟨TA.out.d.more (by omega), tz, TA.out.db, Lib.hid (by intro x hx; have := List.eq_of_mem_replicate hx; omega), TA.out.e0, TA.out.e1⟩
    have xA0 : wc.cell? ⟨w.heap.size, 0, none⟩ = some (.slice A n c) := KA.out.cell 0
    have xA1 : wc.cell? ⟨w.heap.size, 1, none⟩ = some (.int .i64 ge) := KA.out.cell 1
    have xA2 : wc.cell? ⟨w.heap.size, 2, none⟩ = some (.slice A' m c') := KA.out.cell 2
    have xz0 : wc.cell? ⟨q, 0, none⟩ = some (.slice A n c) := kq.cell 0
    have xz1 : wc.cell? ⟨q, 1, none⟩ = some (.int .i64 ge) := kq.cell 1
    have xz2 : wc.cell? ⟨q, 2, none⟩ = some (.slice (some ⟨g0, 0, none⟩) m m) := kq.cell 2
    clear hb8 tz kq kg s0 s1 s2 hmk2 hmk
    go_wp2_with fail
    clear xA0 xA1 xA2 xz0 xz1 xz2
    refine (acc_any gd ge gx gd ge (List.replicate gx.length 0) _ _ _ _ wc wc.heap.size (Nat.le_refl _) (TA.out.more (by omega)) Tz.out Ds Es Xs es R1.out R2.out R3.out R4.out).mono ?_
    rintro en w9 ⟨As, cs, Ys, ys, rfl, hT9, hb9⟩
    have hbx := (Below.refl w9.heap.size w9).alloc (Nat.le_refl _) (.cells #[.slice As Ds.length cs, .int .i64 Es, .slice Ys Xs.length ys] 39)
    have hbn := hbx.size
    have hbz : Below wc.heap.size wc (w9.alloc (.cells #[.slice As Ds.length cs, .int .i64 Es, .slice Ys Xs.length ys] 39)) := hb9.trans (hbx.mono (by have := hb9.size; omega))
    have Ts := Lib.hid (hT9.below hbx)
    have TA := Lib.hid (TA.out.below (hbz.mono (by omega)))
    have Tp := Lib.hid (Tp.out.below (hbz.mono (by omega)))
    have BB := Lib.hid (BB.out.trans (hbz.mono (by omega)))
    have kA9 := KA.out.below hb9 KA.out.lt
    have iA9 := kA9.lt
    have kp9 := Kp.out.below hb9 Kp.out.lt
    have ip9 := kp9.lt
    have xA0 : w9.cell? ⟨w.heap.size, 0, none⟩ = some (.slice A n c) := kA9.cell 0
    have xA1 : w9.cell? ⟨w.heap.size, 1, none⟩ = some (.int .i64 ge) := kA9.cell 1
    have xA2 : w9.cell? ⟨w.heap.size, 2, none⟩ = some (.slice A' m c') := kA9.cell 2
    have xp2 : w9.cell? ⟨w3.heap.size, 2, none⟩ = some (.slice Yp Xp.length yp) := kp9.cell 2
    have KP := Lib.hid (kp9.alloc (.cells #[.slice As Ds.length cs, .int .i64 Es, .slice Ys Xs.length ys] 39))
    have hsc := hb9.size
    clear hT9 hb9 hbx hbz kA9 kp9 Tz KA Kp
    by_cases hes : es = 0
    · subst hes
      have hr := R4.out
      obtain rfl : gd = Ds := by have := R1.out; rwa [if_pos hr] at this
      obtain rfl : ge = Es := by have := R2.out; rwa [if_pos hr] at this
      obtain rfl : gx = Xs := by have := R3.out; rwa [if_pos hr, sum_zeros] at this
      clear hr
      go_wp2_with fail
      have hS := sameacc_any gd ge gx gd ge gx _ _ _ _ _ (w9.alloc (.cells #[.slice As gd.length cs, .int .i64 ge, .slice Ys gx.length ys] 39)).heap.size (Nat.le_refl _) (Ts.out.more (by simp)) (TA.out.more (by simp; omega))
      rw [same_self] at hS
      refine hS.mono ?_
      rintro en w11 ⟨rfl, hb11⟩
      have BB := Lib.hid (BB.out.trans (hb11.mono (by simp; omega)))
      have Tp := Lib.hid (Tp.out.below (hb11.mono (by simp; omega)))
      have kp := KP.out.below hb11 KP.out.lt
      have xp2 : w11.cell? ⟨w3.heap.size, 2, none⟩ = some (.slice Yp Xp.length yp) := kp.cell 2
      clear hb11 hS kp KP xA0 xA1 xA2 TA Ts
      go_wp2_with fail
      have tp := Tp.out.x
      generalize w11 = wL at *
      go_loopw [61] (fun i wr => ∃ k : Nat, k ≤ Xp.length ∧ i = .int .i64 k ∧ wr = wL) (fun i _ => Xp.length - (intOf i).toNat)
      case atStart => exact ⟨0, by omega, rfl, rfl⟩
      case round =>
        obtain ⟨k, hk, rfl, rfl⟩ := hrel
        by_cases hlt : k < Xp.length
        · obtain ⟨AA, n1, cc, hva, hn1, hcc, hmm, ha⟩ := tp
          injection hva with q1 q2 q3
          subst q1 q2 q3
          obtain ⟨g, o, rfl, hg, hx⟩ := ha.out (by omega)
          obtain ⟨u, hu⟩ : ∃ u, Xp[k]? = some u := ⟨Xp[k], List.getElem?_eq_getElem hlt⟩
          have z1 := hx k (.int .i32 u) (by rw [ints, List.getElem?_map, hu]; rfl)
          have hub := inB_of (List.all_eq_true.1 HALL.out u (List.mem_of_getElem? hu))
          obtain ⟨u0, u1⟩ := hub
          have i1 : (0 : Int) ≤ (k : Int) := by omega
          have i2 : (k : Int) < (Xp.length : Int) := by omega
          have i3 : (k : Int) + 1 ≤ 9223372036854775807 := by unfold maxLen at hmm; omega
          have e1 : decide (16777216 ≤ u) = false := by rw [decide_eq_false_iff_not]; omega
          have e2 : decide (u ≤ -16777216) = false := by rw [decide_eq_false_iff_not]; omega
          clear hx ha hu hg hcc hmm hn1
          go_wp2
          go_roundw
          case rel => exact ⟨k + 1, by omega, by go_num, by first | rfl | trivial⟩
          case measure => simp [intOf]; omega
        · go_wp2_with (go_at_call 20; refine (awake14_any _).mono ?_; rintro en w15 ⟨rfl, hb15⟩)
          go_ret
          exact ⟨rfl, BB.out.trans (hb15.mono BB.out.size)⟩
    · have he0 : (es == 0) = false := by simpa using hes
      clear hes
      go_wp2_with fail
      have tp := Tp.out.x
      have hsz : w9.heap.size ≤ (w9.alloc (.cells #[.slice As Ds.length cs, .int .i64 Es, .slice Ys Xs.length ys] 39)).heap.size := by simp
      clear xA0 xA1 xA2 TA Ts xp2 ip9 iA9
      generalize (w9.alloc (.cells #[.slice As Ds.length cs, .int .i64 Es, .slice Ys Xs.length ys] 39)) = w11 at tp BB KP Tp hsz hbn ⊢
      have xp2 : w11.cell? ⟨w3.heap.size, 2, none⟩ = some (.slice Yp Xp.length yp) := KP.out.cell 2
      generalize w11 = wL at *
      go_loopw [61] (fun i wr => ∃ k : Nat, k ≤ Xp.length ∧ i = .int .i64 k ∧ wr = wL) (fun i _ => Xp.length - (intOf i).toNat)
      case atStart => exact ⟨0, by omega, rfl, rfl⟩
      case round =>
        obtain ⟨k, hk, rfl, rfl⟩ := hrel
        by_cases hlt : k < Xp.length
        · obtain ⟨AA, n1, cc, hva, hn1, hcc, hmm, ha⟩ := tp
          injection hva with q1 q2 q3
          subst q1 q2 q3
          obtain ⟨g, o, rfl, hg, hx⟩ := ha.out (by omega)
          obtain ⟨u, hu⟩ : ∃ u, Xp[k]? = some u := ⟨Xp[k], List.getElem?_eq_getElem hlt⟩
          have z1 := hx k (.int .i32 u) (by rw [ints, List.getElem?_map, hu]; rfl)
          have hub := inB_of (List.all_eq_true.1 HALL.out u (List.mem_of_getElem? hu))
          obtain ⟨u0, u1⟩ := hub
          have i1 : (0 : Int) ≤ (k : Int) := by omega
          have i2 : (k : Int) < (Xp.length : Int) := by omega
          have i3 : (k : Int) + 1 ≤ 9223372036854775807 := by unfold maxLen at hmm; omega
          have e1 : decide (16777216 ≤ u) = false := by rw [decide_eq_false_iff_not]; omega
          have e2 : decide (u ≤ -16777216) = false := by rw [decide_eq_false_iff_not]; omega
          clear hx ha hu hg hcc hmm hn1
          go_wp2
          go_roundw
          case rel => exact ⟨k + 1, by omega, by go_num, by first | rfl | trivial⟩
          case measure => simp [intOf]; omega
        · go_wp2_with (go_at_call 20; refine (awake14_any _).mono ?_; rintro en w15 ⟨rfl, hb15⟩)
          go_ret
          exact ⟨rfl, BB.out.trans (hb15.mono BB.out.size)⟩
end Go.Proofs.Ythdahnjghpiheaa
