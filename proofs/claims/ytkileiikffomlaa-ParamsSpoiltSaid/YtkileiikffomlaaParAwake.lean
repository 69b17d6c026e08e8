/- Contracts of pedagoguelaw17.flat, pedagoguelaw17.awake. -/
import Derived.Test.YtkileiikffomlaaParInit
import Derived.Test.YtkileiikffomlaaNetNet
import Derived.Test.YtkileiikffomlaaSame
namespace Go.Proofs.Ytkileiikffomlaa
open Go.RowKit
set_option linter.unusedVariables false
set_option linter.unusedSimpArgs false

theorem flat17_any (n : Int) (hn : inW n) (w : World) : Calls Try.prog 44 #[.int .i64 n] w (FlatOf w n) := by
  go_enter Try.func44, Try.ntmps44
  go_wp2
  have hk : Blk ((w.alloc (.cells #[.int .i64 1, .int .i64 1, .int .i64 2, .slice (some ⟨w.heap.size + 1, 0, none⟩) 2 2] 25)).alloc (.cells #[.int .i64 6, .int .i64 0, .int .i64 0, .int .i64 0, .int .i64 0, .int .i64 0, .bool false, .int .i64 1, .int .i64 n, .int .i64 0, .int .i64 0, .int .i64 0, .int .i64 0, .bool false] 43)) w.heap.size 25 [.int .i64 1, .int .i64 1, .int .i64 2, .slice (some ⟨w.heap.size + 1, 0, none⟩) 2 2] := (Blk.fresh w 25 [.int .i64 1, .int .i64 1, .int .i64 2, .slice (some ⟨w.heap.size + 1, 0, none⟩) 2 2]).alloc _
  have hl := Blk.fresh (w.alloc (.cells #[.int .i64 1, .int .i64 1, .int .i64 2, .slice (some ⟨w.heap.size + 1, 0, none⟩) 2 2] 25)) 43 ([lflat, ldense n].flatMap LayV.cells)
  rw [World.size_alloc] at hl
  have k0 := hk.cell 0
  have k1 := hk.cell 1
  have k2 := hk.cell 2
  have k3 := hk.cell 3
  refine bodyPost_ret (v := .agg #[.int .i64 1, .int .i64 1, .int .i64 2, .slice (some ⟨w.heap.size + 1, 0, none⟩) 2 2]) (by simp [results, Try.results44, go_sem, k0, k1, k2, k3]) rfl ?_
  exact ⟨w.heap.size + 1, rfl, lays_blk hl rfl (by omega) (by
    intro l hl
    have h0 : inW 0 := by unfold inW; omega
    have h1 : inW 1 := by unfold inW; omega
    have h6 : inW 6 := by unfold inW; omega
    simp at hl
    rcases hl with rfl | rfl
    · exact ⟨h6, h0, h0, h0, h0, h0⟩
    · exact ⟨h1, hn, h0, h0, h0, h0⟩), net_two w _ _⟩
theorem aw17_e : initE 1 1 2 [lflat, ldense 3] 7 = 0 := by rfl
theorem aw17_l : initL 1 1 2 [lflat, ldense 3] 7 = [zeroC, madeC [3, 2] 3 7 2] := by rfl
theorem aw17_d : pdimsI 1 1 2 [lflat, ldense 3] 2 = ([3, 2], 3) := by rfl
theorem aw17_len : (madeC [3, 2] 3 7 2).wx.length = 6 ∧ (madeC [3, 2] 3 7 2).m.length = 6 ∧ (madeC [3, 2] 3 7 2).bx.length = 3 := by
  unfold madeC
  simp only [madeL_len, List.length_replicate]
  decide
set_option maxRecDepth 100000 in
set_option maxHeartbeats 1600000 in
theorem awake17_any (w : World) : Calls Try.prog 22 #[] w fun en w' => en = .returned (.bool true) ∧ Below w.heap.size w w' := by
  have hc3 : inW 3 := by unfold inW; omega
  go_enter Try.func22, Try.ntmps22
  go_wp2_with fail
  refine (flat17_any 3 hc3 w).mono ?_
  rintro en w1 ⟨g, rfl, hl1, hb1⟩
  have HB1 := Lib.hid hb1
  clear hb1
  go_wp2_with fail
  refine (init_any 1 1 2 _ _ 7 w1 w1.heap.size (Nat.le_refl _) hl1 (by omega) (by omega)).mono ?_
  rintro en w2 ⟨hb2, ⟨h, _⟩ | ⟨_, ps, A, c, rfl, hm, hps, hpl, _⟩⟩
  · rw [aw17_e] at h; omega
  · rw [aw17_l] at hm
    simp only [List.length_cons, List.length_nil, Nat.zero_add, Nat.reduceAdd] at hpl
    rw [hpl] at hps ⊢
    have HB2 := Lib.hid (HB1.out.trans (hb2.mono HB1.out.size))
    have HPS := Lib.hid hps
    have HM := Lib.hid hm
    have HPL := Lib.hid hpl
    clear hb2 hps hm hpl hl1
    go_wp2_with fail
    refine (flat17_any 3 hc3 w2).mono ?_
    rintro en w3 ⟨g3, rfl, hl3, hb3⟩
    have HB3 := Lib.hid (HB2.out.trans (hb3.mono HB2.out.size))
    have HPS3 := Lib.hid (HPS.out.below hb3)
    have hs3 := hb3.size
    clear hb3
    go_wp2_with fail
    refine (pdims_any 1 1 2 _ _ 2 w3 w3.heap.size (Nat.le_refl _) hl3 _ aw17_d).mono ?_
    rintro en w4 ⟨A4, c4, rfl, hr4, hb4, _⟩
    dsimp only at hr4 ⊢
    have HB4 := Lib.hid (HB3.out.trans (hb4.mono HB3.out.size))
    have hps4 := HPS3.out.below (hb4.mono hs3)
    have HR4 := Lib.hid hr4
    have hpl := HPL.out
    obtain ⟨gp, op, cp, p, e1, hpk, hok, hgp, q0, q1, q2, q3, q4, q5, q6⟩ := hps4.at_ (k := 1) (by omega)
    injection e1 with e1 e2 e3
    subst e1 e3
    have hpc : p.c = madeC [3, 2] 3 7 2 := by
      have h1 : (ps.map (·.c))[1]? = some p.c := by rw [List.getElem?_map, hpk]; rfl
      rw [HM.out] at h1
      simpa using h1.symm
    obtain ⟨l1, l2, l3⟩ := aw17_len
    rw [← hpc] at l1 l2 l3
    obtain ⟨A5, c5, A6, c6, f1, f2⟩ := hok.t.form
    obtain ⟨A7, c7, f3, _⟩ := hok.m.form
    obtain ⟨A8, c8, A9, c9, f4, f5⟩ := hok.b.form
    rw [length_ints] at f3
    rw [f2, l1] at q2
    rw [f3, l2] at q3
    rw [f5, l3] at q6
    clear hb4 hr4 hps4 hl3 e2 f1 f2 f3 f4 f5 l1 l2 l3 hpc hok hpl q0 q1 q4 q5
    have hlr := lit_reads (w1 := w4) (cs := [.int .i64 3, .int .i64 2]) (e := [3, 2]) (n := 2) rfl rfl (by omega) rfl
    have hal : Reads (w4.alloc (.cells #[.int .i64 3, .int .i64 2] 3)) w4.heap.size (.slice A4 2 c4) (ints .i64 [3, 2]) := HR4.out.alloc (Nat.le_refl _) _
    have HLR := Lib.hid hlr
    have HAL := Lib.hid hal
    clear hlr hal
    go_wp2_with fail
    refine (sameints_any [3, 2] [3, 2] _ _ _ _ _ HAL.out HLR.out).mono ?_
    rintro en w6 ⟨rfl, m, rfl⟩
    dsimp only
    go_wp2
    go_ret
    exact ⟨rfl, below_drewN (HB4.out.alloc HB4.out.size _) _⟩
end Go.Proofs.Ytkileiikffomlaa
