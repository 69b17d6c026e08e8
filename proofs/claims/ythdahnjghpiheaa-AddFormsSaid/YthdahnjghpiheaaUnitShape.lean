/- Contract of unit.Shape. -/
import Derived.Test.YthdahnjghpiheaaUnitShapeP
import Derived.Deep.RegionHeld3
import Derived.Deep.DrawnRows
namespace Go.Proofs.Ythdahnjghpiheaa
open Go.RowKit
set_option linter.unusedVariables false

set_option maxHeartbeats 1600000 in
set_option maxRecDepth 100000 in
theorem unitshape_any (dims : List Int) (exp : Int) (data : List Int) (dv xv : Value) (d : List Int) (v : Value) (w : World) (B : Nat) (hB : B ≤ w.heap.size) (h : IsT w B dv xv dims exp data) (hd : Reads w B v (ints .i64 d)) (hdb : ∀ x ∈ d, -9223372036854775808 ≤ x ∧ x ≤ 9223372036854775807) :
    Calls Try.prog 12 #[.agg #[dv, .int .i64 exp, xv], v] w (ShapeGives w dims exp data d) := by
  have hb0 : Below w.heap.size w ((w.alloc (.cells #[dv, .int .i64 exp, xv] 25)).alloc (.cells #[.slice none 0 0, .int .i64 0, .slice none 0 0] 25)) := ((Below.refl _ _).alloc (Nat.le_refl _) _).alloc (by simp) _
  have hI0 := h.below (hb0.mono hB)
  have hD0 := hd.below (hb0.mono hB)
  have hM := tmay_any dims exp data dv xv _ B (Nat.le_trans hB hb0.size) hI0
  obtain ⟨A, c, rfl, _, _⟩ := h.d.form
  obtain ⟨A', c', rfl, _, _⟩ := h.x.form
  obtain ⟨A2, c2, rfl, _, _⟩ := hd.form
  simp only [length_ints] at *
  have hblk1 : Blk ((w.alloc (.cells #[.slice A dims.length c, .int .i64 exp, .slice A' data.length c'] 25)).alloc (.cells #[.slice none 0 0, .int .i64 0, .slice none 0 0] 25)) w.heap.size 25 [.slice A dims.length c, .int .i64 exp, .slice A' data.length c'] :=
    (Blk.fresh w 25 [.slice A dims.length c, .int .i64 exp, .slice A' data.length c']).alloc _
  have hblk2 := Blk.fresh (w.alloc (.cells #[.slice A dims.length c, .int .i64 exp, .slice A' data.length c'] 25)) 25 [.slice none 0 0, .int .i64 0, .slice none 0 0]
  have HM := Lib.hid hM
  have HB0 := Lib.hid hb0
  have HI := Lib.hid hI0
  have HD := Lib.hid hD0
  have HDB := Lib.hid hdb
  have K1 := Lib.hid hblk1
  have K2 := Lib.hid hblk2
  clear hM hb0 hI0 hD0 hdb hblk1 hblk2 h hd
  go_enter Try.func12, Try.ntmps12
  go_wp2_with fail
  refine HM.out.mono ?_
  rintro e w3 ⟨rfl, hb3⟩
  have k1 := K1.out.below hb3 (by simp; omega)
  have k2 := K2.out.below hb3 (by simp)
  have hi3 := (HI.out.below (hb3.mono (by simp; omega)))
  have hd3 := (HD.out.below (hb3.mono (by simp; omega)))
  have hb4 := HB0.out.trans (hb3.mono (by simp; omega))
  simp only [World.size_alloc] at k2
  clear hb3 HM K1 K2 HI HD HB0
  obtain ⟨b, hb⟩ : ∃ b, w.heap.size = b := ⟨_, rfl⟩
  rw [hb] at k1 k2
  rw [hb]
  have K1 := Lib.hid k1
  have K2 := Lib.hid k2
  have HI := Lib.hid hi3
  have HD := Lib.hid hd3
  have HB := Lib.hid hb4
  have HBE := Lib.hid hb
  have r0 := k2.cell 0
  have r1 := k2.cell 1
  have r2 := k2.cell 2
  have f0 := k2.free 0
  have f1 := k2.free 1
  have f2 := k2.free 2
  simp only [List.getElem?_cons_zero, List.getElem?_cons_succ] at r0 r1 r2
  clear k1 k2 hi3 hd3 hb4 hb
  by_cases p1 : mayB dims exp data = true
  · have t1 : mayB dims exp data = true := p1
    have P1 := Lib.hid p1
    clear p1
    rw [t1]
    clear t1
    by_cases p2 : 0 < sizeI d
    · have t2 : decide (0 < sizeI d) = true := by simpa using p2
      by_cases p3 : sizeI d = (data.length : Int)
      · have t3 : (sizeI d != (data.length : Int)) = false := by simpa using p3
        have se : shapeErr dims exp data d = 0 := by unfold shapeErr; rw [if_pos ⟨P1.out, p2⟩, if_pos p3]
        have SE := Lib.hid se
        have c1 := K1.out.cell 2
        simp only [List.getElem?_cons_zero, List.getElem?_cons_succ] at c1
        have hl1' := (sizeI_bound d).2
        have ld : d.length * 8 ≤ 140737488355328 := by
          have : d.length ≤ 4 := by
            rcases Nat.lt_or_ge 4 d.length with h | h
            · exfalso; unfold sizeI at p2; rw [if_pos (.inr h)] at p2; omega
            · exact h
          omega
        have lx : data.length * 1 ≤ 140737488355328 := by omega
        have hB3 : B ≤ w3.heap.size := Nat.le_trans hB HB.out.size
        clear p3 se hl1'
        go_wp2_with fail
        refine (shapemay_any d _ _ _ HD.out HDB.out).mono ?_; rintro e4 w4 ⟨rfl, rfl⟩
        rw [t2]
        clear t2 p2
        go_wp2_with fail
        go_quiet ((go_at_call 32; exact q_left (size_any d _ _ _ (HD.out.drewN _) HDB.out)))
        have hB3q : B ≤ (w3.drewN (nq + 1)).heap.size := hB3
        have hI5 := HI.out.x.drewN (nq + 1)
        have hK5 := K1.out.drewN (nq + 1)
        have hR5 := K2.out.drewN (nq + 1)
        have c2' : w3.cell? ⟨b, 1, none⟩ = some (.int .i64 exp) := K1.out.cell 1
        have HI5 := Lib.hid hI5
        have HK5 := Lib.hid hK5
        have HR5 := Lib.hid hR5
        have HD5 := Lib.hid (HD.out.drewN (nq + 1))
        have hs5 : (w3.drewN (nq + 1)).heap.size = w3.heap.size := rfl
        have HS5 := Lib.hid hs5
        have HLT := Lib.hid hK5.lt
        have HLT2 := Lib.hid hR5.lt
        clear hI5 hK5 hR5 hs5
        go_wp2_with fail
        go_region_held3 (fun w' => w'.cell? ⟨b, 1, none⟩ = some (.int .i64 exp) ∧ w'.cell? ⟨b, 2, none⟩ = some (.slice A' data.length c')) (first | (go_keep; done) | exact ⟨c51, c52⟩ | exact ⟨c61, c62⟩) (first
          | (go_at_call 33; (with_reducible refine (clone_int (w3.drewN (nq + 1)) B _ d HD5.out hB3q ld).mono ?_); rintro e5 w5 ⟨A6, c6, rfl, hown6, hb6⟩; have k5 := HK5.out.below hb6 HLT.out; have c51 : w5.cell? ⟨b, 1, none⟩ = some (.int .i64 exp) := k5.cell 1; have c52 : w5.cell? ⟨b, 2, none⟩ = some (.slice A' data.length c') := k5.cell 2; have HK := Lib.hid k5; clear k5; have HR := Lib.hid (HR5.out.below hb6 HLT2.out); have HX := Lib.hid (HI5.out.below (hb6.mono hB3q)); have hB5 := Nat.le_trans hB3q hb6.size; have HO6 := Lib.hid hown6; have HW6 := Lib.hid hb6; clear hown6 hb6)
          | (go_at_call 34; (with_reducible refine (clone_i8 w5 B _ data HX.out hB5 lx).mono ?_); rintro e6 w6 ⟨A7, c7, rfl, hown7, hb7⟩; have k6 := HK.out.below hb7 HK.out.lt; have c61 : w6.cell? ⟨b, 1, none⟩ = some (.int .i64 exp) := k6.cell 1; have c62 : w6.cell? ⟨b, 2, none⟩ = some (.slice A' data.length c') := k6.cell 2; have m6 := HR.out.below hb7 HR.out.lt; have x0 := m6.cell 0; have x1 := m6.cell 1; have x2 := m6.cell 2; have y0 := m6.free 0; have y1 := m6.free 1; have y2 := m6.free 2; simp only [List.getElem?_cons_zero, List.getElem?_cons_succ] at x0 x1 x2; clear k6 m6; have HO7 := Lib.hid hown7; have HW7 := Lib.hid hb7; clear hown7 hb7))
        all_goals
          go_wp2
          refine bodyPost_ret (v := .tuple #[.agg #[.slice A6 d.length c6, .int .i64 exp, .slice A7 data.length c7], .int .i64 0]) (by simp [results, Try.results12, go_sem, x0, x1, x2]) rfl ?_
          unfold ShapeGives
          rw [if_pos SE.out]
          exact two_made w w3 (w3.drewN (nq + 1)) w5 w6 b d exp data _ _ _ _ _ HBE.out HB.out (below_drewN (Below.refl _ _) _) HLT2.out HO6.out HW6.out HO7.out HW7.out HDB HI.out.xb HI.out.e0 HI.out.e1
      · have t3 : (sizeI d != (data.length : Int)) = true := by simpa using p3
        have se : shapeErr dims exp data d = 2 := by unfold shapeErr; rw [if_pos ⟨P1.out, p2⟩, if_neg p3]
        have SE := Lib.hid se
        have c1 := K1.out.cell 2
        simp only [List.getElem?_cons_zero, List.getElem?_cons_succ] at c1
        clear p3 se
        go_wp2_with fail
        refine (shapemay_any d _ _ _ HD.out HDB.out).mono ?_; rintro e4 w4 ⟨rfl, rfl⟩
        rw [t2]
        clear t2 p2
        go_wp2_with fail
        go_quiet ((go_at_call 32; exact q_left (size_any d _ _ _ (HD.out.drewN _) HDB.out)))
        go_wp2
        refine bodyPost_ret (v := .tuple #[.agg #[.slice none 0 0, .int .i64 0, .slice none 0 0], .int .i64 2]) (by simp [results, Try.results12, go_sem, r0, r1, r2]) rfl (ShapeGives.no SE.out (by decide) ?_)
        exact (((below_drewN HB.out _).setCell (p := ⟨b + 1, 0, none⟩) (by simp [← HBE.out]) _).setCell (p := ⟨b + 1, 1, none⟩) (by simp [← HBE.out]) _).setCell (p := ⟨b + 1, 2, none⟩) (by simp [← HBE.out]) _
    · have t2 : decide (0 < sizeI d) = false := by simpa using p2
      have se : shapeErr dims exp data d = 1 := by unfold shapeErr; rw [if_neg (fun h => p2 h.2)]
      have SE := Lib.hid se
      clear p2 se
      go_wp2_with fail
      refine (shapemay_any d _ _ _ HD.out HDB.out).mono ?_; rintro e4 w4 ⟨rfl, rfl⟩
      rw [t2]
      clear t2
      go_wp2
      refine bodyPost_ret (v := .tuple #[.agg #[.slice none 0 0, .int .i64 0, .slice none 0 0], .int .i64 1]) (by simp [results, Try.results12, go_sem, r0, r1, r2]) rfl (ShapeGives.no SE.out (by decide) ?_)
      exact ((HB.out.setCell (p := ⟨b + 1, 0, none⟩) (by simp [← HBE.out]) _).setCell (p := ⟨b + 1, 1, none⟩) (by simp [← HBE.out]) _).setCell (p := ⟨b + 1, 2, none⟩) (by simp [← HBE.out]) _
  · have t1 : mayB dims exp data = false := by simpa using p1
    have se : shapeErr dims exp data d = 1 := by unfold shapeErr; rw [if_neg (fun h => p1 h.1)]
    have SE := Lib.hid se
    clear p1 se
    rw [t1]
    clear t1
    go_wp2
    refine bodyPost_ret (v := .tuple #[.agg #[.slice none 0 0, .int .i64 0, .slice none 0 0], .int .i64 1]) (by simp [results, Try.results12, go_sem, r0, r1, r2]) rfl (ShapeGives.no SE.out (by decide) ?_)
    exact ((HB.out.setCell (p := ⟨b + 1, 0, none⟩) (by simp [← HBE.out]) _).setCell (p := ⟨b + 1, 1, none⟩) (by simp [← HBE.out]) _).setCell (p := ⟨b + 1, 2, none⟩) (by simp [← HBE.out]) _
end Go.Proofs.Ythdahnjghpiheaa
