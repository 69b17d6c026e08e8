/- The walk of CheckClasses. -/
import Derived.Test.YtkileiikffomlaaNetAwake
import Derived.Test.YtkileiikffomlaaOpenM
namespace Go.Proofs.Ytkileiikffomlaa
open Go.RowKit
set_option linter.unusedVariables false

theorem walkI_ok {flag : Bool} {a b c : Int} {ls : List LayV} {cl bt : Int} (h : (walkI flag a b c ls cl bt).2.2 = 0) : (shapesM a b c ls).2.2 = 0 ∧ boundsI cl bt = true ∧ lastI (shapesM a b c ls).1 = [cl] := by
  unfold walkI at h
  by_cases h1 : (shapesM a b c ls).2.2 = 0
  · rw [if_neg (by omega)] at h
    by_cases h2 : boundsI cl bt = false
    · rw [if_pos h2] at h
      simp at h
    · rw [if_neg h2] at h
      by_cases h3 : lastI (shapesM a b c ls).1 = [cl]
      · exact ⟨h1, by simpa using h2, h3⟩
      · rw [if_pos h3] at h
        simp at h
  · rw [if_pos h1] at h
    exact absurd h h1

set_option maxHeartbeats 1600000 in
set_option maxRecDepth 100000 in
theorem checkClasses_walk (v0 : Value) (a0 : NetV) (a1 a2 a3 : Int) (w : World) (o0 : NetOf w v0 a0) (w1 : (Lit.int .i64 a1).wf = true) (w2 : (Lit.int .i64 a2).wf = true) (w3 : (Lit.int .i64 a3).wf = true) :
    Calls Try.prog 7 #[v0, .int .i64 a1, .int .i64 a2, .int .i64 a3] w fun en w' => en = .returned (.bool true) ∧ Below w.heap.size w w' := by
  obtain ⟨a, b, c, lv, ls⟩ := a0
  obtain ⟨rfl, wa, wb, wc, hl⟩ := o0
  simp only at hl wa wb wc ⊢
  obtain ⟨A, cc, rfl⟩ := hl.form
  have hb0 := net_one w (.cells #[.int .i64 a, .int .i64 b, .int .i64 c, .slice A ls.length cc] 25)
  have hsz : w.heap.size < (w.alloc (.cells #[.int .i64 a, .int .i64 b, .int .i64 c, .slice A ls.length cc] 25)).heap.size := by simp
  have KB := Lib.hid (Blk.fresh w 25 [.int .i64 a, .int .i64 b, .int .i64 c, .slice A ls.length cc])
  obtain ⟨q, hq⟩ : ∃ q, (walkI false a b c ls a1 a3).2 = q := ⟨_, rfl⟩
  obtain ⟨q', hq'⟩ : ∃ q, (walkI false a b c ls a2 a3).2 = q := ⟨_, rfl⟩
  have HC := Lib.hid (net_any a b c _ ls a1 a3 (w.alloc (.cells #[.int .i64 a, .int .i64 b, .int .i64 c, .slice A ls.length cc] 25)) w.heap.size (by omega) (hl.below hb0) (wf_int w1) (wf_int w3) q hq)
  have HC2 : Hid (∀ W : World, Below w.heap.size w W → Calls Try.prog 15 #[.agg #[.int .i64 a, .int .i64 b, .int .i64 c, .slice A ls.length cc], .int .i64 a2, .int .i64 a3] W (Duo W q')) :=
    Lib.hid (fun W hW => net_any a b c _ ls a2 a3 W w.heap.size hW.size (hl.below hW) (wf_int w2) (wf_int w3) q' hq')
  have hor : q.2 ≠ 0 ∨ (q.2 = 0 ∧ q'.2 ≠ 0) ∨ (q.2 = 0 ∧ q'.2 = 0 ∧ a1 = a2) := by
    by_cases h1 : q.2 = 0
    · by_cases h2 : q'.2 = 0
      · refine .inr (.inr ⟨h1, h2, ?_⟩)
        have e1 := walkI_ok (flag := false) (a := a) (b := b) (c := c) (ls := ls) (cl := a1) (bt := a3) (by rw [hq]; exact h1)
        have e2 := walkI_ok (flag := false) (a := a) (b := b) (c := c) (ls := ls) (cl := a2) (bt := a3) (by rw [hq']; exact h2)
        have := e1.2.2.symm.trans e2.2.2
        injection this
      · exact .inr (.inl ⟨h1, h2⟩)
    · exact .inl h1
  have HB0 := Lib.hid hb0
  obtain ⟨q1, q2⟩ := q
  obtain ⟨r1, r2⟩ := q'
  dsimp only at hor
  clear hl hb0 wa wb wc w1 w2 w3 hq hq'
  rcases hor with h1 | ⟨h1, h2⟩ | ⟨h1, h2, h3⟩
  · have t1 : (q2 != 0) = true := by simpa using h1
    clear h1
    go_enter Try.func7, Try.ntmps7
    go_wp2_with fail
    refine HC.out.mono ?_
    rintro en wb ⟨rfl, hb2⟩
    have K2 := KB.out.below hb2 hsz
    have HB2 := Lib.hid (HB0.out.trans (hb2.mono (by omega)))
    have k0 := K2.cell 0
    have k1 := K2.cell 1
    have k2 := K2.cell 2
    have k3 := K2.cell 3
    simp only [List.getElem?_cons_zero, List.getElem?_cons_succ] at k0 k1 k2 k3
    clear hb2 K2
    dsimp only
    go_wp2_with fail
    refine (HC2.out _ HB2.out).mono ?_
    rintro en wc ⟨rfl, hb3⟩
    have HB3 := Lib.hid (HB2.out.trans (hb3.mono HB2.out.size))
    clear hb3
    dsimp only
    go_wp2_with (go_at_call 11; refine (awake16_any _).mono ?_; rintro en wd ⟨rfl, hb4⟩)
    go_ret
    exact ⟨rfl, HB3.out.trans (hb4.mono HB3.out.size)⟩
  · subst h1
    have t1 : (r2 != 0) = true := by simpa using h2
    clear h2
    go_enter Try.func7, Try.ntmps7
    go_wp2_with fail
    refine HC.out.mono ?_
    rintro en wb ⟨rfl, hb2⟩
    have K2 := KB.out.below hb2 hsz
    have HB2 := Lib.hid (HB0.out.trans (hb2.mono (by omega)))
    have k0 := K2.cell 0
    have k1 := K2.cell 1
    have k2 := K2.cell 2
    have k3 := K2.cell 3
    simp only [List.getElem?_cons_zero, List.getElem?_cons_succ] at k0 k1 k2 k3
    clear hb2 K2
    dsimp only
    go_wp2_with fail
    refine (HC2.out _ HB2.out).mono ?_
    rintro en wc ⟨rfl, hb3⟩
    have HB3 := Lib.hid (HB2.out.trans (hb3.mono HB2.out.size))
    clear hb3
    dsimp only
    go_wp2_with (go_at_call 11; refine (awake16_any _).mono ?_; rintro en wd ⟨rfl, hb4⟩)
    go_ret
    exact ⟨rfl, HB3.out.trans (hb4.mono HB3.out.size)⟩
  · subst h1 h2 h3
    have t1 : (a1 == a1) = true := by simp
    go_enter Try.func7, Try.ntmps7
    go_wp2_with fail
    refine HC.out.mono ?_
    rintro en wb ⟨rfl, hb2⟩
    have K2 := KB.out.below hb2 hsz
    have HB2 := Lib.hid (HB0.out.trans (hb2.mono (by omega)))
    have k0 := K2.cell 0
    have k1 := K2.cell 1
    have k2 := K2.cell 2
    have k3 := K2.cell 3
    simp only [List.getElem?_cons_zero, List.getElem?_cons_succ] at k0 k1 k2 k3
    clear hb2 K2
    dsimp only
    go_wp2_with fail
    refine (HC2.out _ HB2.out).mono ?_
    rintro en wc ⟨rfl, hb3⟩
    have HB3 := Lib.hid (HB2.out.trans (hb3.mono HB2.out.size))
    clear hb3
    dsimp only
    go_wp2_with (go_at_call 11; refine (awake16_any _).mono ?_; rintro en wd ⟨rfl, hb4⟩)
    go_ret
    exact ⟨rfl, HB3.out.trans (hb4.mono HB3.out.size)⟩
end Go.Proofs.Ytkileiikffomlaa
