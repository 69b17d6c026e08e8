/- Contracts of codec.zero, moves, may, May, Same. -/
import Derived.Test.YtcjpibdgnjncmaaParSame
import Derived.Test.YtcjpibdgnjncmaaCodGreat
namespace Go.Proofs.Ytcjpibdgnjncmaa
open Go.RowKit
set_option linter.unusedVariables false
set_option linter.unusedSimpArgs false

def zeroP (p : ParC) : Bool := decide (lenP p = 0) && ((p.we == 0) && (p.be == 0))
theorem zeroP_eq {p : ParC} : zeroP p = true ↔ p = zeroC := by
  obtain ⟨a, b, c, d, e, f, g⟩ := p
  unfold zeroP lenP zeroC
  simp only [Bool.and_eq_true, decide_eq_true_eq, beq_iff_eq, ParC.mk.injEq]
  constructor
  · rintro ⟨h1, h2, h3⟩
    exact ⟨List.eq_nil_of_length_eq_zero (by omega), h2, List.eq_nil_of_length_eq_zero (by omega), List.eq_nil_of_length_eq_zero (by omega), List.eq_nil_of_length_eq_zero (by omega), h3, List.eq_nil_of_length_eq_zero (by omega)⟩
  · rintro ⟨rfl, rfl, rfl, rfl, rfl, rfl, rfl⟩
    simp
theorem zeroP_same (p : ParC) : sameCs [p] [zeroC] = zeroP p := by
  rw [Bool.eq_iff_iff, sameCs_eq, zeroP_eq]
  simp
theorem pars_one_ {w : World} {g : Nat} {p : ParV} (hk : Blk w g 43 p.cells) (hp : p.Ok w w.heap.size) : ParsOf w w.heap.size (.slice (some ⟨g, 0, none⟩) 1 1) [p] :=
  ⟨by simpa using hk.readsN (sz := 7) (n := 1) rfl (by decide), Lib.hid (fun q hq => by rw [List.mem_singleton.1 hq]; exact hp), ⟨_, _, rfl⟩, by simp⟩
set_option maxHeartbeats 1600000 in
set_option maxRecDepth 100000 in
theorem czero_any (p : ParV) (w : World) (B : Nat) (hB : B ≤ w.heap.size) (h : p.Ok w B) (r : Bool) (hr : zeroP p.c = r) :
    Calls Try.prog 41 #[.agg #[p.wd, .int .i64 p.c.we, p.wx, p.mv, p.bd, .int .i64 p.c.be, p.bx]] w fun en w' => en = .returned (.bool r) ∧ Below w.heap.size w w' := by
  obtain ⟨pwd, pwx, pmv, pbd, pbx, pc⟩ := p
  obtain ⟨A1, c1, A2, c2, f1, f2⟩ := h.t.form
  obtain ⟨A3, c3, f3, _, _⟩ := h.m.form
  obtain ⟨A4, c4, A5, c5, f4, f5⟩ := h.b.form
  rw [length_ints] at f3
  dsimp only at f1 f2 f3 f4 f5
  subst f1 f2 f3 f4 f5
  have K0 := Lib.hid (Blk.fresh w 43 [.slice A1 pc.wd.length c1, .int .i64 pc.we, .slice A2 pc.wx.length c2, .slice A3 pc.m.length c3, .slice A4 pc.bd.length c4, .int .i64 pc.be, .slice A5 pc.bx.length c5])
  have hs0 : w.heap.size < (w.alloc (.cells #[.slice A1 pc.wd.length c1, .int .i64 pc.we, .slice A2 pc.wx.length c2, .slice A3 pc.m.length c3, .slice A4 pc.bd.length c4, .int .i64 pc.be, .slice A5 pc.bx.length c5] 43)).heap.size := by simp
  have hb0 := (Below.refl w.heap.size w).alloc (Nat.le_refl _) (.cells #[.slice A1 pc.wd.length c1, .int .i64 pc.we, .slice A2 pc.wx.length c2, .slice A3 pc.m.length c3, .slice A4 pc.bd.length c4, .int .i64 pc.be, .slice A5 pc.bx.length c5] 43)
  have k1 := Blk.fresh (w.alloc (.cells #[.slice A1 pc.wd.length c1, .int .i64 pc.we, .slice A2 pc.wx.length c2, .slice A3 pc.m.length c3, .slice A4 pc.bd.length c4, .int .i64 pc.be, .slice A5 pc.bx.length c5] 43)) 43 [.slice A1 pc.wd.length c1, .int .i64 pc.we, .slice A2 pc.wx.length c2, .slice A3 pc.m.length c3, .slice A4 pc.bd.length c4, .int .i64 pc.be, .slice A5 pc.bx.length c5]
  have k2 := Blk.fresh ((w.alloc (.cells #[.slice A1 pc.wd.length c1, .int .i64 pc.we, .slice A2 pc.wx.length c2, .slice A3 pc.m.length c3, .slice A4 pc.bd.length c4, .int .i64 pc.be, .slice A5 pc.bx.length c5] 43)).alloc (.cells #[.slice A1 pc.wd.length c1, .int .i64 pc.we, .slice A2 pc.wx.length c2, .slice A3 pc.m.length c3, .slice A4 pc.bd.length c4, .int .i64 pc.be, .slice A5 pc.bx.length c5] 43)) 43 [.slice none 0 0, .int .i64 0, .slice none 0 0, .slice none 0 0, .slice none 0 0, .int .i64 0, .slice none 0 0]
  have k1' := k1.alloc (.cells #[.slice none 0 0, .int .i64 0, .slice none 0 0, .slice none 0 0, .slice none 0 0, .int .i64 0, .slice none 0 0] 43)
  have hbb := (hb0.alloc (by omega) (.cells #[.slice A1 pc.wd.length c1, .int .i64 pc.we, .slice A2 pc.wx.length c2, .slice A3 pc.m.length c3, .slice A4 pc.bd.length c4, .int .i64 pc.be, .slice A5 pc.bx.length c5] 43)).alloc (by simp only [World.size_alloc]; omega) (.cells #[.slice none 0 0, .int .i64 0, .slice none 0 0, .slice none 0 0, .slice none 0 0, .int .i64 0, .slice none 0 0] 43)
  simp only [World.size_alloc] at k1' k2
  have h1 := pars_one_ (p := ⟨.slice A1 pc.wd.length c1, .slice A2 pc.wx.length c2, .slice A3 pc.m.length c3, .slice A4 pc.bd.length c4, .slice A5 pc.bx.length c5, pc⟩) k1' ((h.below (hbb.mono hB)).more (by simp only [World.size_alloc]; omega))
  have h2 := pars_one_ (p := zeroV) k2 (zeroV_in (fun _ => True) _).ok
  have HC := Lib.hid (psame_any _ _ _ _ _ _ (Nat.le_refl _) h1 h2 r (by rw [← hr]; exact zeroP_same pc))
  have HB := Lib.hid hbb
  have m0 := K0.out.cell 0
  have m1 := K0.out.cell 1
  have m2 := K0.out.cell 2
  have m3 := K0.out.cell 3
  have m4 := K0.out.cell 4
  have m5 := K0.out.cell 5
  have m6 := K0.out.cell 6
  simp only [List.getElem?_cons_zero, List.getElem?_cons_succ] at m0 m1 m2 m3 m4 m5 m6
  clear k1 k2 k1' hbb h1 h2 hr h
  go_enter Try.func41, Try.ntmps41
  go_wp2_with fail
  refine HC.out.mono ?_
  rintro en w2 ⟨rfl, hb2⟩
  have HB2 := Lib.hid (HB.out.trans (hb2.mono (by simp only [World.size_alloc]; omega)))
  clear hb2 HC m0 m1 m2 m3 m4 m5 m6
  dsimp only
  go_wp2
  go_ret
  exact ⟨rfl, HB2.out⟩
def movesB (p : ParC) : Bool := decide (p.m.length = p.wx.length) && p.m.all inM
set_option maxHeartbeats 1600000 in
set_option maxRecDepth 100000 in
theorem moves_any (p : ParV) (w : World) (B : Nat) (hB : B ≤ w.heap.size) (h : p.Ok w B) (r : Bool) (hr : movesB p.c = r) :
    Calls Try.prog 59 #[.agg #[p.wd, .int .i64 p.c.we, p.wx, p.mv, p.bd, .int .i64 p.c.be, p.bx]] w fun en w' => en = .returned (.bool r) ∧ Below w.heap.size w w' := by
  obtain ⟨pwd, pwx, pmv, pbd, pbx, pc⟩ := p
  obtain ⟨A1, c1, A2, c2, f1, f2⟩ := h.t.form
  obtain ⟨A3, c3, f3, _, _⟩ := h.m.form
  obtain ⟨A4, c4, A5, c5, f4, f5⟩ := h.b.form
  rw [length_ints] at f3
  dsimp only at f1 f2 f3 f4 f5
  subst f1 f2 f3 f4 f5
  have K0 := Lib.hid (Blk.fresh w 43 [.slice A1 pc.wd.length c1, .int .i64 pc.we, .slice A2 pc.wx.length c2, .slice A3 pc.m.length c3, .slice A4 pc.bd.length c4, .int .i64 pc.be, .slice A5 pc.bx.length c5])
  have hs0 : w.heap.size < (w.alloc (.cells #[.slice A1 pc.wd.length c1, .int .i64 pc.we, .slice A2 pc.wx.length c2, .slice A3 pc.m.length c3, .slice A4 pc.bd.length c4, .int .i64 pc.be, .slice A5 pc.bx.length c5] 43)).heap.size := by simp
  have hb0 := (Below.refl w.heap.size w).alloc (Nat.le_refl _) (.cells #[.slice A1 pc.wd.length c1, .int .i64 pc.we, .slice A2 pc.wx.length c2, .slice A3 pc.m.length c3, .slice A4 pc.bd.length c4, .int .i64 pc.be, .slice A5 pc.bx.length c5] 43)
  subst hr
  have HM : Hid (∀ n, Calls Try.prog 75 #[.slice A3 pc.m.length c3, .func (.func 76) #[] #[]] ((w.alloc (.cells #[.slice A1 pc.wd.length c1, .int .i64 pc.we, .slice A2 pc.wx.length c2, .slice A3 pc.m.length c3, .slice A4 pc.bd.length c4, .int .i64 pc.be, .slice A5 pc.bx.length c5] 43)).drewN n) fun en w' => en = .returned (.bool (!pc.m.all inM)) ∧ ((w.alloc (.cells #[.slice A1 pc.wd.length c1, .int .i64 pc.we, .slice A2 pc.wx.length c2, .slice A3 pc.m.length c3, .slice A4 pc.bd.length c4, .int .i64 pc.be, .slice A5 pc.bx.length c5] 43)).drewN n) = w') := Lib.hid (fun n => conm_any pc.m _ _ B _ rfl ((h.m.below (hb0.mono hB)).drewN n))
  have HB := Lib.hid hb0
  have m0 := K0.out.cell 0
  have m1 := K0.out.cell 1
  have m2 := K0.out.cell 2
  have m3 := K0.out.cell 3
  have m4 := K0.out.cell 4
  have m5 := K0.out.cell 5
  have m6 := K0.out.cell 6
  simp only [List.getElem?_cons_zero, List.getElem?_cons_succ] at m0 m1 m2 m3 m4 m5 m6
  unfold movesB
  dsimp only
  by_cases hl : pc.m.length = pc.wx.length
  · have t1 : ((pc.m.length : Int) == (pc.wx.length : Int)) = true := by simp [hl]
    have HL := Lib.hid hl
    clear hl h hb0
    go_enter Try.func59, Try.ntmps59
    go_wp2_with fail
    refine (HM.out 0).mono ?_
    rintro en w2 ⟨rfl, rfl⟩
    go_wp2
    go_ret
    exact ⟨by rw [decide_eq_true HL.out]; simp, HB.out⟩
  · have t1 : ((pc.m.length : Int) == (pc.wx.length : Int)) = false := by rw [beq_eq_false_iff_ne]; omega
    have HL := Lib.hid hl
    clear hl h hb0
    go_enter Try.func59, Try.ntmps59
    go_wp2_with fail
    go_ret
    exact ⟨by rw [decide_eq_false HL.out]; simp, HB.out⟩
def mayC (p : ParC) : Bool := zeroP p || (mayB p.wd p.we p.wx && (movesB p && (mayB p.bd p.be p.bx && decide (p.bd.length = 1))))
set_option maxHeartbeats 3200000 in
set_option maxRecDepth 100000 in
theorem cmay1_any (p : ParV) (w : World) (B : Nat) (hB : B ≤ w.heap.size) (h : p.Ok w B) (r : Bool) (hr : mayC p.c = r) :
    Calls Try.prog 48 #[.agg #[p.wd, .int .i64 p.c.we, p.wx, p.mv, p.bd, .int .i64 p.c.be, p.bx]] w fun en w' => en = .returned (.bool r) ∧ Below w.heap.size w w' := by
  obtain ⟨pwd, pwx, pmv, pbd, pbx, pc⟩ := p
  obtain ⟨A1, c1, A2, c2, f1, f2⟩ := h.t.form
  obtain ⟨A3, c3, f3, _, _⟩ := h.m.form
  obtain ⟨A4, c4, A5, c5, f4, f5⟩ := h.b.form
  rw [length_ints] at f3
  dsimp only at f1 f2 f3 f4 f5
  subst f1 f2 f3 f4 f5
  have K0 := Lib.hid (Blk.fresh w 43 [.slice A1 pc.wd.length c1, .int .i64 pc.we, .slice A2 pc.wx.length c2, .slice A3 pc.m.length c3, .slice A4 pc.bd.length c4, .int .i64 pc.be, .slice A5 pc.bx.length c5])
  have hs0 : w.heap.size < (w.alloc (.cells #[.slice A1 pc.wd.length c1, .int .i64 pc.we, .slice A2 pc.wx.length c2, .slice A3 pc.m.length c3, .slice A4 pc.bd.length c4, .int .i64 pc.be, .slice A5 pc.bx.length c5] 43)).heap.size := by simp
  have hb0 := (Below.refl w.heap.size w).alloc (Nat.le_refl _) (.cells #[.slice A1 pc.wd.length c1, .int .i64 pc.we, .slice A2 pc.wx.length c2, .slice A3 pc.m.length c3, .slice A4 pc.bd.length c4, .int .i64 pc.be, .slice A5 pc.bx.length c5] 43)
  have HR := Lib.hid hr
  have HZ := Lib.hid (czero_any ⟨.slice A1 pc.wd.length c1, .slice A2 pc.wx.length c2, .slice A3 pc.m.length c3, .slice A4 pc.bd.length c4, .slice A5 pc.bx.length c5, pc⟩ _ B (by simp only [World.size_alloc]; omega) (h.below (hb0.mono hB)) _ rfl)
  have HB := Lib.hid hb0
  have HH := Lib.hid h
  have m0 := K0.out.cell 0
  have m1 := K0.out.cell 1
  have m2 := K0.out.cell 2
  have m3 := K0.out.cell 3
  have m4 := K0.out.cell 4
  have m5 := K0.out.cell 5
  have m6 := K0.out.cell 6
  simp only [List.getElem?_cons_zero, List.getElem?_cons_succ] at m0 m1 m2 m3 m4 m5 m6
  obtain ⟨r1, h1⟩ : ∃ r1, zeroP pc = r1 := ⟨_, rfl⟩
  dsimp only at HZ HR
  unfold mayC at HR
  rw [h1] at HZ HR
  clear h hb0 h1 hr
  go_enter Try.func48, Try.ntmps48
  go_wp2_with fail
  refine HZ.out.mono ?_
  clear HZ
  rintro en w2 ⟨rfl, hb2⟩
  have hbw := HB.out.trans (hb2.mono (by simp only [World.size_alloc]; omega))
  have HB2 := Lib.hid hbw
  have K2 := Lib.hid (K0.out.below hb2 (by simp))
  have l2 := K2.out.lt
  clear hb2 m0 m1 m2 m3 m4 m5 m6 K0 HB hbw
  have m0 := K2.out.cell 0
  have m1 := K2.out.cell 1
  have m2 := K2.out.cell 2
  have m3 := K2.out.cell 3
  have m4 := K2.out.cell 4
  have m5 := K2.out.cell 5
  have m6 := K2.out.cell 6
  simp only [List.getElem?_cons_zero, List.getElem?_cons_succ] at m0 m1 m2 m3 m4 m5 m6
  have s2 := HB2.out.size
  dsimp only
  cases r1 with
  | true =>
    go_wp2_with fail
    go_ret
    exact ⟨by rw [← HR.out]; rfl, HB2.out⟩
  | false =>
    have HT := Lib.hid (tmay_any _ _ _ _ _ w2 B (by omega) (HH.out.below (HB2.out.mono hB)).t)
    dsimp only at HT
    obtain ⟨r2, h2⟩ : ∃ r2, mayB pc.wd pc.we pc.wx = r2 := ⟨_, rfl⟩
    rw [h2] at HT HR
    clear h2
    go_wp2_with fail
    refine HT.out.mono ?_
    clear HT
    rintro en w3 ⟨rfl, hb3⟩
    have HB3 := Lib.hid (HB2.out.trans (hb3.mono (by omega)))
    have K3 := Lib.hid (K2.out.below hb3 l2)
    have l3 := K3.out.lt
    clear hb3 m0 m1 m2 m3 m4 m5 m6 K2 HB2
    have m0 := K3.out.cell 0
    have m1 := K3.out.cell 1
    have m2 := K3.out.cell 2
    have m3 := K3.out.cell 3
    have m4 := K3.out.cell 4
    have m5 := K3.out.cell 5
    have m6 := K3.out.cell 6
    simp only [List.getElem?_cons_zero, List.getElem?_cons_succ] at m0 m1 m2 m3 m4 m5 m6
    have s3 := HB3.out.size
    dsimp only
    cases r2 with
    | false =>
      go_wp2_with fail
      go_ret
      exact ⟨by rw [← HR.out]; rfl, HB3.out⟩
    | true =>
      have HM := Lib.hid (moves_any _ w3 B (by omega) (HH.out.below (HB3.out.mono hB)) _ rfl)
      obtain ⟨r3, h3⟩ : ∃ r3, movesB pc = r3 := ⟨_, rfl⟩
      dsimp only at HM
      rw [h3] at HM HR
      clear h3
      go_wp2_with fail
      refine HM.out.mono ?_
      clear HM
      rintro en w4 ⟨rfl, hb4⟩
      have HB4 := Lib.hid (HB3.out.trans (hb4.mono (by omega)))
      have K4 := Lib.hid (K3.out.below hb4 l3)
      have l4 := K4.out.lt
      clear hb4 m0 m1 m2 m3 m4 m5 m6 K3 HB3
      have m0 := K4.out.cell 0
      have m1 := K4.out.cell 1
      have m2 := K4.out.cell 2
      have m3 := K4.out.cell 3
      have m4 := K4.out.cell 4
      have m5 := K4.out.cell 5
      have m6 := K4.out.cell 6
      simp only [List.getElem?_cons_zero, List.getElem?_cons_succ] at m0 m1 m2 m3 m4 m5 m6
      have s4 := HB4.out.size
      dsimp only
      cases r3 with
      | false =>
        go_wp2_with fail
        go_ret
        exact ⟨by rw [← HR.out]; rfl, HB4.out⟩
      | true =>
        have HT := Lib.hid (tmay_any _ _ _ _ _ w4 B (by omega) (HH.out.below (HB4.out.mono hB)).b)
        dsimp only at HT
        obtain ⟨r5, h5⟩ : ∃ r5, mayB pc.bd pc.be pc.bx = r5 := ⟨_, rfl⟩
        rw [h5] at HT HR
        clear h5
        go_wp2_with fail
        refine HT.out.mono ?_
        clear HT
        rintro en w5 ⟨rfl, hb5⟩
        have HB5 := Lib.hid (HB4.out.trans (hb5.mono (by omega)))
        have K5 := Lib.hid (K4.out.below hb5 l4)
        have l5 := K5.out.lt
        clear hb5 m0 m1 m2 m3 m4 m5 m6 K4 HB4
        have m0 := K5.out.cell 0
        have m1 := K5.out.cell 1
        have m2 := K5.out.cell 2
        have m3 := K5.out.cell 3
        have m4 := K5.out.cell 4
        have m5 := K5.out.cell 5
        have m6 := K5.out.cell 6
        simp only [List.getElem?_cons_zero, List.getElem?_cons_succ] at m0 m1 m2 m3 m4 m5 m6
        dsimp only
        cases r5 with
        | false =>
          go_wp2_with fail
          go_ret
          exact ⟨by rw [← HR.out]; rfl, HB5.out⟩
        | true =>
          by_cases hl : pc.bd.length = 1
          · have t1 : ((pc.bd.length : Int) == 1) = true := by simp; omega
            have HL := Lib.hid (decide_eq_true hl)
            clear hl
            go_wp2_with fail
            go_ret
            exact ⟨by rw [← HR.out, HL.out]; rfl, HB5.out⟩
          · have t1 : ((pc.bd.length : Int) == 1) = false := by rw [beq_eq_false_iff_ne]; omega
            have HL := Lib.hid (decide_eq_false hl)
            clear hl
            go_wp2_with fail
            go_ret
            exact ⟨by rw [← HR.out, HL.out]; rfl, HB5.out⟩
set_option maxRecDepth 100000 in
theorem cmayF_any (p : ParV) (w : World) (B : Nat) (hB : B ≤ w.heap.size) (h : p.Ok w B) (r : Bool) (hr : mayC p.c = r) :
    Calls Try.prog 47 #[.agg #[p.wd, .int .i64 p.c.we, p.wx, p.mv, p.bd, .int .i64 p.c.be, p.bx]] w fun en w' => en = .returned (.bool (!r)) ∧ Below w.heap.size w w' := by
  obtain ⟨pwd, pwx, pmv, pbd, pbx, pc⟩ := p
  obtain ⟨A1, c1, A2, c2, f1, f2⟩ := h.t.form
  obtain ⟨A3, c3, f3, _, _⟩ := h.m.form
  obtain ⟨A4, c4, A5, c5, f4, f5⟩ := h.b.form
  rw [length_ints] at f3
  dsimp only at f1 f2 f3 f4 f5
  subst f1 f2 f3 f4 f5
  have K0 := Lib.hid (Blk.fresh w 43 [.slice A1 pc.wd.length c1, .int .i64 pc.we, .slice A2 pc.wx.length c2, .slice A3 pc.m.length c3, .slice A4 pc.bd.length c4, .int .i64 pc.be, .slice A5 pc.bx.length c5])
  have hs0 : w.heap.size < (w.alloc (.cells #[.slice A1 pc.wd.length c1, .int .i64 pc.we, .slice A2 pc.wx.length c2, .slice A3 pc.m.length c3, .slice A4 pc.bd.length c4, .int .i64 pc.be, .slice A5 pc.bx.length c5] 43)).heap.size := by simp
  have hb0 := (Below.refl w.heap.size w).alloc (Nat.le_refl _) (.cells #[.slice A1 pc.wd.length c1, .int .i64 pc.we, .slice A2 pc.wx.length c2, .slice A3 pc.m.length c3, .slice A4 pc.bd.length c4, .int .i64 pc.be, .slice A5 pc.bx.length c5] 43)
  have HZ := Lib.hid (cmay1_any ⟨.slice A1 pc.wd.length c1, .slice A2 pc.wx.length c2, .slice A3 pc.m.length c3, .slice A4 pc.bd.length c4, .slice A5 pc.bx.length c5, pc⟩ _ B (by simp only [World.size_alloc]; omega) (h.below (hb0.mono hB)) r hr)
  have HB := Lib.hid hb0
  have m0 := K0.out.cell 0
  have m1 := K0.out.cell 1
  have m2 := K0.out.cell 2
  have m3 := K0.out.cell 3
  have m4 := K0.out.cell 4
  have m5 := K0.out.cell 5
  have m6 := K0.out.cell 6
  simp only [List.getElem?_cons_zero, List.getElem?_cons_succ] at m0 m1 m2 m3 m4 m5 m6
  clear h hb0 hr
  go_enter Try.func47, Try.ntmps47
  go_wp2_with fail
  refine HZ.out.mono ?_
  rintro en w2 ⟨rfl, hb2⟩
  have HB2 := Lib.hid (HB.out.trans (hb2.mono (by simp only [World.size_alloc]; omega)))
  clear hb2 HZ
  dsimp only
  go_wp2
  go_ret
  exact ⟨rfl, HB2.out⟩
def IdxP (ps : List ParV) (w : World) (e : Ending) (w' : World) : Prop := ∃ i : Int, e = .returned (.int .i64 i) ∧ decide (0 ≤ i) = !(ps.map (·.c)).all mayC ∧ Below w.heap.size w w'
theorem allp_next {ps : List ParV} {k : Nat} {u : ParV} (h : ((ps.take k).map (·.c)).all mayC = true) (hk : ps[k]? = some u) (hu : mayC u.c = true) : ((ps.take (k + 1)).map (·.c)).all mayC = true := by
  rw [List.take_add_one, hk]
  simp only [Option.toList_some, List.map_append, List.all_append, List.map_cons, List.map_nil, List.all_cons, List.all_nil, Bool.and_true, h, hu]
theorem allp_not {ps : List ParV} {k : Nat} {u : ParV} (hk : ps[k]? = some u) (hu : mayC u.c = false) : (ps.map (·.c)).all mayC = false := by
  rw [List.all_eq_false]
  exact ⟨u.c, List.mem_map.2 ⟨u, List.mem_of_getElem? hk, rfl⟩, by simp [hu]⟩
set_option maxHeartbeats 1600000 in
set_option maxRecDepth 100000 in
theorem idxp_any (ps : List ParV) (v : Value) (w : World) (B : Nat) (hB : B ≤ w.heap.size) (h : ParsOf w B v ps) :
    Calls Try.prog 68 #[v, .func (.func 47) #[] #[]] w (IdxP ps w) := by
  have hlen := h.len
  obtain ⟨A, c, rfl⟩ := h.form
  have HP := Lib.hid h
  clear h
  go_enter Try.func68, Try.ntmps68
  go_wp2
  go_loopw [8] (fun i wr => ∃ k : Nat, k ≤ ps.length ∧ i = .int .i64 k ∧ ((ps.take k).map (·.c)).all mayC = true ∧ Hid (Below w.heap.size w wr)) (fun i _ => ps.length - (intOf i).toNat)
  case atStart => exact ⟨0, by omega, rfl, by simp, Lib.hid (Below.refl _ _)⟩
  case round =>
    obtain ⟨k, hk, rfl, htk, HBR⟩ := hrel
    by_cases hlt : k < ps.length
    · obtain ⟨gp, op, cp, u, e1, hu, hok, hgp, q0, q1, q2, q3, q4, q5, q6⟩ := (HP.out.below (HBR.out.mono hB)).at_ hlt
      injection e1 with e1 _ e3
      subst e1 e3
      obtain ⟨b, hb⟩ : ∃ b, mayC u.c = b := ⟨_, rfl⟩
      have s0 := HBR.out.size
      have HM := Lib.hid (cmayF_any u wr B (by omega) hok b hb)
      have i1 : (0 : Int) ≤ (k : Int) := by omega
      have i2 : (k : Int) < (ps.length : Int) := by omega
      have HU := Lib.hid hu
      have HT := Lib.hid htk
      have HBB := Lib.hid hb
      obtain ⟨A1, c1, A2, c2, f1, f2⟩ := hok.t.form
      obtain ⟨A3, c3, f3, _, _⟩ := hok.m.form
      obtain ⟨A4, c4, A5, c5, f4, f5⟩ := hok.b.form
      rw [length_ints] at f3
      rw [f1] at q0 HM
      rw [f2] at q2 HM
      rw [f3] at q3 HM
      rw [f4] at q4 HM
      rw [f5] at q6 HM
      have hgr : gp < wr.heap.size := by omega
      clear hu htk hb hok f1 f2 f3 f4 f5
      go_wp2_with fail
      refine HM.out.mono ?_
      rintro en w' ⟨rfl, hb2⟩
      have HB2 := Lib.hid (HBR.out.trans (hb2.mono s0))
      clear hb2 HM q0 q1 q2 q3 q4 q5 q6
      dsimp only
      cases b with
      | false =>
        have HQ := Lib.hid (allp_not HU.out HBB.out)
        go_wp2
        go_ret
        exact ⟨_, rfl, by rw [HQ.out]; simp, HB2.out⟩
      | true =>
        go_wp2
        go_roundw
        case rel => exact ⟨k + 1, by omega, by go_num, allp_next HT.out HU.out HBB.out, HB2⟩
        case measure => simp [intOf]; omega
    · rw [List.take_of_length_le (by omega)] at htk
      have HT := Lib.hid htk
      clear htk
      go_wp2
      go_ret
      exact ⟨_, rfl, by rw [HT.out]; rfl, HBR.out⟩
set_option maxRecDepth 100000 in
theorem conp_any (ps : List ParV) (v : Value) (w : World) (B : Nat) (b : Bool) (hb : (ps.map (·.c)).all mayC = b) (hB : B ≤ w.heap.size) (h : ParsOf w B v ps) :
    Calls Try.prog 46 #[v, .func (.func 47) #[] #[]] w fun en w' => en = .returned (.bool (!b)) ∧ Below w.heap.size w w' := by
  have H := Lib.hid (idxp_any ps v w B hB h)
  obtain ⟨A, c, rfl⟩ := h.form
  have HBB := Lib.hid hb
  clear h hb
  go_enter Try.func46, Try.ntmps46
  go_wp2_with fail
  refine H.out.mono ?_
  rintro en w' ⟨i, rfl, hi, hb2⟩
  rw [HBB.out] at hi
  have HI := Lib.hid hi
  have HB2 := Lib.hid hb2
  clear hi hb2
  go_wp2
  go_ret
  exact ⟨by rw [← HI.out]; rfl, HB2.out⟩
/-- a state -/
structure StV where
  seed : Int
  step : Int
  lv : Value
  ps : List ParV
structure StOf (w : World) (B : Nat) (v : Value) (s : StV) : Prop where
  form : v = .agg #[.int .u64 s.seed, .int .i64 s.step, s.lv]
  seed : 0 ≤ s.seed ∧ s.seed < 18446744073709551616
  step : -9223372036854775808 ≤ s.step ∧ s.step ≤ 9223372036854775807
  ps : ParsOf w B s.lv s.ps
theorem StOf.below {w w' : World} {B : Nat} {v : Value} {s : StV} (h : StOf w B v s) (hb : Below B w w') : StOf w' B v s := ⟨h.form, h.seed, h.step, h.ps.below hb⟩
theorem StOf.more {w : World} {B B' : Nat} {v : Value} {s : StV} (h : StOf w B v s) (hB : B ≤ B') : StOf w B' v s := ⟨h.form, h.seed, h.step, h.ps.more hB⟩
def mayS (s : StV) : Bool := decide (0 ≤ s.step) && (decide (s.step ≤ 1000000) && (decide (s.ps.length ≤ 12) && (s.ps.map (·.c)).all mayC))
def sameS (s t : StV) : Bool := (s.seed == t.seed) && ((s.step == t.step) && sameCs (s.ps.map (·.c)) (t.ps.map (·.c)))
theorem mayS_of {s : StV} (h : mayS s = true) : (0 ≤ s.step ∧ s.step ≤ 1000000) ∧ s.ps.length ≤ 12 ∧ ∀ p ∈ s.ps, mayC p.c = true := by
  unfold mayS at h
  simp only [Bool.and_eq_true, decide_eq_true_eq, List.all_eq_true, List.mem_map] at h
  exact ⟨⟨h.1, h.2.1⟩, h.2.2.1, fun p hp => h.2.2.2 _ ⟨p, hp, rfl⟩⟩
set_option maxHeartbeats 1600000 in
set_option maxRecDepth 100000 in
theorem cmay_any (v : Value) (s : StV) (w : World) (B : Nat) (hB : B ≤ w.heap.size) (h : StOf w B v s) (r : Bool) (hr : mayS s = r) :
    Calls Try.prog 16 #[v] w fun en w' => en = .returned (.bool r) ∧ Below w.heap.size w w' := by
  obtain ⟨seed, step, lv, ps⟩ := s
  obtain ⟨rfl, _, _, hp⟩ := h
  dsimp only at hp ⊢
  obtain ⟨A, c, rfl⟩ := hp.form
  have hlen := hp.len
  subst hr
  unfold mayS
  dsimp only
  have hb0 := (Below.refl w.heap.size w).alloc (Nat.le_refl _) (.cells #[.int .u64 seed, .int .i64 step, .slice A ps.length c] 25)
  have K0 := Lib.hid (Blk.fresh w 25 [.int .u64 seed, .int .i64 step, .slice A ps.length c])
  have HC := Lib.hid (conp_any ps _ _ B _ rfl (by simp only [World.size_alloc]; omega) (hp.below (hb0.mono hB)))
  have HB := Lib.hid hb0
  have hs0 : w.heap.size < (w.alloc (.cells #[.int .u64 seed, .int .i64 step, .slice A ps.length c] 25)).heap.size := by simp
  have m0 := K0.out.cell 0
  have m1 := K0.out.cell 1
  have m2 := K0.out.cell 2
  simp only [List.getElem?_cons_zero, List.getElem?_cons_succ] at m0 m1 m2
  clear hp hb0
  by_cases h1 : 0 ≤ step
  · have t1 : decide (0 ≤ step) = true := decide_eq_true h1
    have T1 := Lib.hid t1
    clear h1
    by_cases h2 : step ≤ 1000000
    · have t2 : decide (step ≤ 1000000) = true := decide_eq_true h2
      have T2 := Lib.hid t2
      clear h2
      by_cases h3 : ps.length ≤ 12
      · have t3 : decide ((ps.length : Int) ≤ 12) = true := decide_eq_true (by omega)
        have T3 := Lib.hid (decide_eq_true h3)
        clear h3
        go_enter Try.func16, Try.ntmps16
        go_wp2_with fail
        refine HC.out.mono ?_
        rintro en w2 ⟨rfl, hb2⟩
        have HB2 := Lib.hid (HB.out.trans (hb2.mono (by simp only [World.size_alloc]; omega)))
        clear hb2 HC m0 m1 m2
        dsimp only
        go_wp2
        go_ret
        exact ⟨by simp [T1.out, T2.out, T3.out], HB2.out⟩
      · have t3 : decide ((ps.length : Int) ≤ 12) = false := decide_eq_false (by omega)
        have T3 := Lib.hid (decide_eq_false h3)
        clear h3
        go_enter Try.func16, Try.ntmps16
        go_wp2_with fail
        go_ret
        exact ⟨by simp [T1.out, T2.out, T3.out], HB.out⟩
    · have t2 : decide (step ≤ 1000000) = false := decide_eq_false h2
      have T2 := Lib.hid t2
      clear h2
      go_enter Try.func16, Try.ntmps16
      go_wp2_with fail
      go_ret
      exact ⟨by simp [T1.out, T2.out], HB.out⟩
  · have t1 : decide (0 ≤ step) = false := decide_eq_false h1
    have T1 := Lib.hid t1
    clear h1
    go_enter Try.func16, Try.ntmps16
    go_wp2_with fail
    go_ret
    exact ⟨by simp [T1.out], HB.out⟩
set_option maxHeartbeats 1600000 in
set_option maxRecDepth 100000 in
theorem csame_any (v v' : Value) (s t : StV) (w : World) (B : Nat) (hB : B ≤ w.heap.size) (h : StOf w B v s) (h' : StOf w B v' t) (r : Bool) (hr : sameS s t = r) :
    Calls Try.prog 18 #[v, v'] w fun en w' => en = .returned (.bool r) ∧ Below w.heap.size w w' := by
  obtain ⟨seed, step, lv, ps⟩ := s
  obtain ⟨seed', step', lv', qs⟩ := t
  obtain ⟨rfl, _, _, hp⟩ := h
  obtain ⟨rfl, _, _, hq⟩ := h'
  dsimp only at hp hq ⊢
  obtain ⟨A, c, rfl⟩ := hp.form
  obtain ⟨A', c', rfl⟩ := hq.form
  subst hr
  unfold sameS
  dsimp only
  have hb0 := ((Below.refl w.heap.size w).alloc (Nat.le_refl _) (.cells #[.int .u64 seed, .int .i64 step, .slice A ps.length c] 25)).alloc (by simp) (.cells #[.int .u64 seed', .int .i64 step', .slice A' qs.length c'] 25)
  have K0 := Lib.hid ((Blk.fresh w 25 [.int .u64 seed, .int .i64 step, .slice A ps.length c]).alloc (.cells #[.int .u64 seed', .int .i64 step', .slice A' qs.length c'] 25))
  have k1 := Blk.fresh (w.alloc (.cells #[.int .u64 seed, .int .i64 step, .slice A ps.length c] 25)) 25 [.int .u64 seed', .int .i64 step', .slice A' qs.length c']
  rw [World.size_alloc] at k1
  have K1 := Lib.hid k1
  have HC := Lib.hid (psame_any ps qs _ _ B _ (by simp only [World.size_alloc]; omega) (hp.below (hb0.mono hB)) (hq.below (hb0.mono hB)) _ rfl)
  have HB := Lib.hid hb0
  have m0 := K0.out.cell 0
  have m1 := K0.out.cell 1
  have m2 := K0.out.cell 2
  simp only [List.getElem?_cons_zero, List.getElem?_cons_succ] at m0 m1 m2
  have n0 := K1.out.cell 0
  have n1 := K1.out.cell 1
  have n2 := K1.out.cell 2
  simp only [List.getElem?_cons_zero, List.getElem?_cons_succ] at n0 n1 n2
  clear hp hq hb0 k1
  cases t1 : (seed == seed') with
  | false =>
    go_enter Try.func18, Try.ntmps18
    go_wp2_with fail
    go_ret
    exact ⟨by simp, HB.out⟩
  | true =>
    have T1 := Lib.hid t1
    cases t2 : (step == step') with
    | false =>
      go_enter Try.func18, Try.ntmps18
      go_wp2_with fail
      go_ret
      exact ⟨by simp, HB.out⟩
    | true =>
      go_enter Try.func18, Try.ntmps18
      go_wp2_with fail
      refine HC.out.mono ?_
      rintro en w2 ⟨rfl, hb2⟩
      have HB2 := Lib.hid (HB.out.trans (hb2.mono (by simp only [World.size_alloc]; omega)))
      clear hb2 HC m0 m1 m2 n0 n1 n2
      dsimp only
      go_wp2
      go_ret
      exact ⟨by simp, HB2.out⟩
end Go.Proofs.Ytcjpibdgnjncmaa
