/- Contracts of tensor.Same, params.same, params.Same and what stands under them. -/
import Derived.Test.YtcjpibdgnjncmaaParMem
import Derived.Outline
namespace Go.Proofs.Ytcjpibdgnjncmaa
open Go.RowKit
set_option linter.unusedVariables false
set_option linter.unusedSimpArgs false

theorem equal_i32_len (xs ys : List Int) (va vb : Value) (w : World) (B B' : Nat) (ha : Reads w B va (ints .i32 xs)) (hb : Reads w B' vb (ints .i32 ys)) (hne : xs.length ≠ ys.length) :
    Calls Try.prog 80 #[va, vb] w (Quiet w (.bool false)) := by
  obtain ⟨A, n, c, rfl, hl, hc, hm, ha⟩ := ha
  obtain ⟨A', n', c', rfl, hl', hc', hm', hb⟩ := hb
  rw [length_ints] at hl hl'
  have e1 : ((n : Int) != (n' : Int)) = true := by simp; omega
  have hN : ¬ n = n' := by omega
  go_enter Try.func80, Try.ntmps80
  go_wp2
  go_ret
  exact Quiet.mk' 0

set_option maxRecDepth 100000 in
theorem equal_i32_any (xs ys : List Int) (va vb : Value) (w : World) (B B' : Nat) (ha : Reads w B va (ints .i32 xs)) (hb : Reads w B' vb (ints .i32 ys)) :
    Calls Try.prog 80 #[va, vb] w (Quiet w (.bool (xs == ys))) := by
  by_cases hne : xs.length ≠ ys.length
  · have : (xs == ys) = false := by
      rw [beq_eq_false_iff_ne]
      rintro rfl
      exact hne rfl
    rw [this]
    exact equal_i32_len xs ys va vb w B B' ha hb hne
  · obtain ⟨A, n, c, rfl, hl, hc, hm, ha⟩ := ha
    obtain ⟨A', n', c', rfl, hl', hc', hm', hb⟩ := hb
    rw [length_ints] at hl hl'
    obtain rfl : n = n' := by omega
    have e1 : ((n : Int) != (n : Int)) = false := by simp
    unfold maxLen at hm hm'
    have HL := Lib.hid hl
    have HL' := Lib.hid hl'
    have HN : n ≤ 9223372036854775807 := by omega
    clear hl hl' hne
    go_enter Try.func80, Try.ntmps80
    go_wp2
    go_loopw [13] (fun i wr => ∃ k : Nat, k ≤ n ∧ i = .int .i64 k ∧ xs.take k = ys.take k ∧ ∃ m, wr = w.drewN m) (fun i _ => n - (intOf i).toNat)
    case atStart => exact ⟨0, by omega, rfl, by simp, 0, rfl⟩
    case round =>
      obtain ⟨k, hk, rfl, htk, m, rfl⟩ := hrel
      by_cases hlt : k < n
      · obtain ⟨g, o, rfl, hg, hx⟩ := ha.out (by omega)
        obtain ⟨g', o', rfl, hg', hy⟩ := hb.out (by omega)
        have hl := HL.out
        have hl' := HL'.out
        have c1 := hx k (.int .i32 xs[k]) (ints_at _ _ _ (by omega))
        have c2 := hy k (.int .i32 ys[k]) (ints_at _ _ _ (by omega))
        obtain ⟨x, hx0⟩ : ∃ x, xs[k] = x := ⟨_, rfl⟩
        obtain ⟨y, hy0⟩ : ∃ y, ys[k] = y := ⟨_, rfl⟩
        rw [hx0] at c1
        rw [hy0] at c2
        have hxe : xs[k]? = some x := by rw [List.getElem?_eq_getElem (by omega), hx0]
        have hye : ys[k]? = some y := by rw [List.getElem?_eq_getElem (by omega), hy0]
        have HX := Lib.hid hxe
        have HY := Lib.hid hye
        have HT := Lib.hid htk
        clear ha hb hx hy hl hl' hx0 hy0 hxe hye htk
        have i1 : (0 : Int) ≤ (k : Int) := by omega
        have i2 : (k : Int) < (n : Int) := by omega
        by_cases hxy : x = y
        · have e2 : (x != y) = false := by simpa using hxy
          have HXY := Lib.hid hxy
          clear hxy
          go_wp2
          go_quiet (fail)
          go_wp2
          go_roundw
          case rel => exact ⟨k + 1, by omega, by go_num, take_extG HT.out (by rw [HX.out, HY.out, HXY.out]), _, rfl⟩
          case measure => simp [intOf]; omega
        · have e2 : (x != y) = true := by simpa using hxy
          have hq : (xs == ys) = false := by
            rw [beq_eq_false_iff_ne]
            rintro rfl
            have := HX.out.symm.trans HY.out
            injection this with this
            exact hxy this
          have HQ := Lib.hid hq
          clear hxy hq
          go_wp2
          go_quiet (fail)
          go_wp2
          go_ret
          rw [HQ.out]
          exact Quiet.mk2 _ _
      · have hq : (xs == ys) = true := by
          rw [beq_iff_eq]
          rw [List.take_of_length_le (by have := HL.out; omega), List.take_of_length_le (by have := HL'.out; omega)] at htk
          exact htk
        have HQ := Lib.hid hq
        clear hq htk
        go_wp2
        go_ret
        rw [HQ.out]
        exact Quiet.mk' _
theorem ssame_any (d e : List Int) (v v' : Value) (w : World) (B B' : Nat) (h : Reads w B v (ints .i64 d)) (h' : Reads w B' v' (ints .i64 e)) :
    Calls Try.prog 83 #[v, v'] w fun en w' => en = .returned (.bool (d == e)) ∧ ∃ m, w' = w.drewN m := by
  have HS := Lib.hid (equal_int_any d e v v' w B B' h h')
  obtain ⟨A, c, rfl, _, _⟩ := h.form
  obtain ⟨A', c', rfl, _, _⟩ := h'.form
  clear h h'
  go_enter Try.func83, Try.ntmps83
  go_wp2_with fail
  refine HS.out.mono ?_
  rintro en w' hq
  obtain ⟨rfl, m, rfl⟩ := hq
  go_wp2
  go_ret
  exact ⟨rfl, m, rfl⟩
def sameT (d : List Int) (e : Int) (x : List Int) (d' : List Int) (e' : Int) (x' : List Int) : Bool := (d == d') && ((e == e') && (x == x'))
theorem pair_alloc (w : World) (o o' : Obj) : Below w.heap.size w ((w.alloc o).alloc o') := ((Below.refl _ _).alloc (Nat.le_refl _) _).alloc (by simp) _
set_option maxHeartbeats 1600000 in
set_option maxRecDepth 100000 in
theorem tsame_any (d : List Int) (e : Int) (x : List Int) (d' : List Int) (e' : Int) (x' : List Int) (dv xv dv' xv' : Value) (w : World) (B : Nat) (hB : B ≤ w.heap.size) (h : IsT w B dv xv d e x) (h' : IsT w B dv' xv' d' e' x') (r : Bool) (hr : sameT d e x d' e' x' = r) :
    Calls Try.prog 79 #[.agg #[dv, .int .i64 e, xv], .agg #[dv', .int .i64 e', xv']] w fun en w' => en = .returned (.bool r) ∧ Below w.heap.size w w' := by
  subst hr
  have hb0 := pair_alloc w (.cells #[dv, .int .i64 e, xv] 40) (.cells #[dv', .int .i64 e', xv'] 40)
  have HB := Lib.hid hb0
  have HI := Lib.hid (h.below (hb0.mono hB))
  have HJ := Lib.hid (h'.below (hb0.mono hB))
  obtain ⟨A, c, rfl, _, _⟩ := h.d.form
  obtain ⟨A1, c1, rfl, _, _⟩ := h.x.form
  obtain ⟨A', c', rfl, _, _⟩ := h'.d.form
  obtain ⟨A1', c1', rfl, _, _⟩ := h'.x.form
  simp only [length_ints] at *
  have hk0 := (Blk.fresh w 40 [.slice A d.length c, .int .i64 e, .slice A1 x.length c1]).alloc (.cells #[.slice A' d'.length c', .int .i64 e', .slice A1' x'.length c1'] 40)
  have hk1 := Blk.fresh (w.alloc (.cells #[.slice A d.length c, .int .i64 e, .slice A1 x.length c1] 40)) 40 [.slice A' d'.length c', .int .i64 e', .slice A1' x'.length c1']
  rw [World.size_alloc] at hk1
  have HK0 := Lib.hid hk0
  have HK1 := Lib.hid hk1
  have m0 := HK0.out.cell 0
  have m1 := HK0.out.cell 1
  have m2 := HK0.out.cell 2
  simp only [List.getElem?_cons_zero, List.getElem?_cons_succ] at m0 m1 m2
  have n0 := HK1.out.cell 0
  have n1 := HK1.out.cell 1
  have n2 := HK1.out.cell 2
  simp only [List.getElem?_cons_zero, List.getElem?_cons_succ] at n0 n1 n2
  clear hb0 h h' hk0 hk1
  unfold sameT
  go_enter Try.func79, Try.ntmps79
  cases h1 : (d == d') with
  | false =>
    have H1 := Lib.hid h1
    clear h1
    go_wp2_with fail
    refine (ssame_any d d' _ _ _ _ _ HI.out.d HJ.out.d).mono ?_
    rintro en w' ⟨rfl, k, rfl⟩
    rw [H1.out]
    dsimp only
    go_wp2
    go_ret
    exact ⟨rfl, below_drewN HB.out _⟩
  | true =>
    have H1 := Lib.hid h1
    clear h1
    cases h2 : (e == e') with
    | false =>
      go_wp2_with fail
      refine (ssame_any d d' _ _ _ _ _ HI.out.d HJ.out.d).mono ?_
      rintro en w' ⟨rfl, k, rfl⟩
      rw [H1.out]
      dsimp only
      go_wp2
      go_ret
      exact ⟨rfl, below_drewN HB.out _⟩
    | true =>
      go_wp2_with fail
      refine (ssame_any d d' _ _ _ _ _ HI.out.d HJ.out.d).mono ?_
      rintro en w' ⟨rfl, k, rfl⟩
      rw [H1.out]
      dsimp only
      go_wp2_with fail
      refine (equal_i8_any x x' _ _ _ _ _ (HI.out.x.drewN k) (HJ.out.x.drewN k)).mono ?_
      rintro en w' ⟨rfl, k2, rfl⟩
      dsimp only
      go_wp2
      go_ret
      exact ⟨rfl, below_drewN HB.out _⟩
/-- two params alike -/
def sameC (p q : ParC) : Bool := sameT p.wd p.we p.wx q.wd q.we q.wx && ((p.m == q.m) && sameT p.bd p.be p.bx q.bd q.be q.bx)
theorem sameT_refl (d : List Int) (e : Int) (x : List Int) : sameT d e x d e x = true := by unfold sameT; simp
theorem sameC_refl (p : ParC) : sameC p p = true := by unfold sameC; rw [sameT_refl, sameT_refl]; simp
theorem sameT_eq {d : List Int} {e : Int} {x : List Int} {d' : List Int} {e' : Int} {x' : List Int} : sameT d e x d' e' x' = true ↔ d = d' ∧ e = e' ∧ x = x' := by unfold sameT; simp [Bool.and_eq_true]
theorem sameC_eq {p q : ParC} : sameC p q = true ↔ p = q := by
  obtain ⟨a, b, c, d, e, f, g⟩ := p
  obtain ⟨a', b', c', d', e', f', g'⟩ := q
  unfold sameC
  simp only [Bool.and_eq_true, sameT_eq, beq_iff_eq, ParC.mk.injEq]
  constructor
  · rintro ⟨⟨h1, h2, h3⟩, h4, h5, h6, h7⟩
    exact ⟨h1, h2, h3, h4, h5, h6, h7⟩
  · rintro ⟨h1, h2, h3, h4, h5, h6, h7⟩
    exact ⟨⟨h1, h2, h3⟩, h4, h5, h6, h7⟩
set_option maxHeartbeats 1600000 in
set_option maxRecDepth 100000 in
theorem psame1_any (p q : ParV) (w : World) (B : Nat) (hB : B ≤ w.heap.size) (h : p.Ok w B) (h' : q.Ok w B) (r : Bool) (hr : sameC p.c q.c = r) :
    Calls Try.prog 73 #[.agg #[p.wd, .int .i64 p.c.we, p.wx, p.mv, p.bd, .int .i64 p.c.be, p.bx], .agg #[q.wd, .int .i64 q.c.we, q.wx, q.mv, q.bd, .int .i64 q.c.be, q.bx]] w fun en w' => en = .returned (.bool r) ∧ Below w.heap.size w w' := by
  subst hr
  obtain ⟨A1, c1, A2, c2, e1, e2⟩ := h.t.form
  obtain ⟨A3, c3, e3, _, _⟩ := h.m.form
  obtain ⟨A4, c4, A5, c5, e4, e5⟩ := h.b.form
  obtain ⟨B1, d1, B2, d2, f1, f2⟩ := h'.t.form
  obtain ⟨B3, d3, f3, _, _⟩ := h'.m.form
  obtain ⟨B4, d4, B5, d5, f4, f5⟩ := h'.b.form
  rw [length_ints] at e3 f3
  have ht := h.t
  have hm := h.m
  have hb := h.b
  have gt := h'.t
  have gm := h'.m
  have gb := h'.b
  rw [e1, e2] at ht
  rw [e3] at hm
  rw [e4, e5] at hb
  rw [f1, f2] at gt
  rw [f3] at gm
  rw [f4, f5] at gb
  rw [e1, e2, e3, e4, e5, f1, f2, f3, f4, f5]
  have hb0 := pair_alloc w (.cells #[.slice A1 p.c.wd.length c1, .int .i64 p.c.we, .slice A2 p.c.wx.length c2, .slice A3 p.c.m.length c3, .slice A4 p.c.bd.length c4, .int .i64 p.c.be, .slice A5 p.c.bx.length c5] 43) (.cells #[.slice B1 q.c.wd.length d1, .int .i64 q.c.we, .slice B2 q.c.wx.length d2, .slice B3 q.c.m.length d3, .slice B4 q.c.bd.length d4, .int .i64 q.c.be, .slice B5 q.c.bx.length d5] 43)
  have HB := Lib.hid hb0
  have hk0 := (Blk.fresh w 43 [.slice A1 p.c.wd.length c1, .int .i64 p.c.we, .slice A2 p.c.wx.length c2, .slice A3 p.c.m.length c3, .slice A4 p.c.bd.length c4, .int .i64 p.c.be, .slice A5 p.c.bx.length c5]).alloc (.cells #[.slice B1 q.c.wd.length d1, .int .i64 q.c.we, .slice B2 q.c.wx.length d2, .slice B3 q.c.m.length d3, .slice B4 q.c.bd.length d4, .int .i64 q.c.be, .slice B5 q.c.bx.length d5] 43)
  have hk1 := Blk.fresh (w.alloc (.cells #[.slice A1 p.c.wd.length c1, .int .i64 p.c.we, .slice A2 p.c.wx.length c2, .slice A3 p.c.m.length c3, .slice A4 p.c.bd.length c4, .int .i64 p.c.be, .slice A5 p.c.bx.length c5] 43)) 43 [.slice B1 q.c.wd.length d1, .int .i64 q.c.we, .slice B2 q.c.wx.length d2, .slice B3 q.c.m.length d3, .slice B4 q.c.bd.length d4, .int .i64 q.c.be, .slice B5 q.c.bx.length d5]
  rw [World.size_alloc] at hk1
  have HK0 := Lib.hid hk0
  have HK1 := Lib.hid hk1
  have HT := Lib.hid (ht.below (hb0.mono hB))
  have HM := Lib.hid (hm.below (hb0.mono hB))
  have HBB := Lib.hid (hb.below (hb0.mono hB))
  have GT := Lib.hid (gt.below (hb0.mono hB))
  have GM := Lib.hid (gm.below (hb0.mono hB))
  have GB := Lib.hid (gb.below (hb0.mono hB))
  have hsz := hb0.size
  have hsl : w.heap.size + 1 < ((w.alloc (.cells #[.slice A1 p.c.wd.length c1, .int .i64 p.c.we, .slice A2 p.c.wx.length c2, .slice A3 p.c.m.length c3, .slice A4 p.c.bd.length c4, .int .i64 p.c.be, .slice A5 p.c.bx.length c5] 43)).alloc (.cells #[.slice B1 q.c.wd.length d1, .int .i64 q.c.we, .slice B2 q.c.wx.length d2, .slice B3 q.c.m.length d3, .slice B4 q.c.bd.length d4, .int .i64 q.c.be, .slice B5 q.c.bx.length d5] 43)).heap.size := by simp
  clear h h' ht hm hb gt gm gb e1 e2 e3 e4 e5 f1 f2 f3 f4 f5 hb0 hk0 hk1
  have m0 := HK0.out.cell 0
  have m1 := HK0.out.cell 1
  have m2 := HK0.out.cell 2
  simp only [List.getElem?_cons_zero, List.getElem?_cons_succ] at m0 m1 m2
  have n0 := HK1.out.cell 0
  have n1 := HK1.out.cell 1
  have n2 := HK1.out.cell 2
  simp only [List.getElem?_cons_zero, List.getElem?_cons_succ] at n0 n1 n2
  go_enter Try.func73, Try.ntmps73
  unfold sameC
  go_wp2_with fail
  clear m0 m1 m2 n0 n1 n2
  generalize ((w.alloc (.cells #[.slice A1 p.c.wd.length c1, .int .i64 p.c.we, .slice A2 p.c.wx.length c2, .slice A3 p.c.m.length c3, .slice A4 p.c.bd.length c4, .int .i64 p.c.be, .slice A5 p.c.bx.length c5] 43)).alloc (.cells #[.slice B1 q.c.wd.length d1, .int .i64 q.c.we, .slice B2 q.c.wx.length d2, .slice B3 q.c.m.length d3, .slice B4 q.c.bd.length d4, .int .i64 q.c.be, .slice B5 q.c.bx.length d5] 43)) = w2 at HB HK0 HK1 HT HM HBB GT GM GB hsz hsl ⊢
  refine (tsame_any p.c.wd p.c.we p.c.wx q.c.wd q.c.we q.c.wx _ _ _ _ w2 B (by omega) HT.out GT.out _ rfl).mono ?_
  rintro en w3 ⟨rfl, hb3⟩
  have HK30 := Lib.hid (HK0.out.below hb3 (by omega))
  have HK31 := Lib.hid (HK1.out.below hb3 (by omega))
  have HB3 := Lib.hid (HB.out.trans (hb3.mono hsz))
  have HM3 := Lib.hid (HM.out.below (hb3.mono (by omega)))
  have GM3 := Lib.hid (GM.out.below (hb3.mono (by omega)))
  have HBB3 := Lib.hid (HBB.out.below (hb3.mono (by omega)))
  have GB3 := Lib.hid (GB.out.below (hb3.mono (by omega)))
  have hs3 := hb3.size
  have hsl3 : w.heap.size + 1 < w3.heap.size := by omega
  clear hb3 HK0 HK1 HB HT HM HBB GT GM GB
  cases h1 : sameT p.c.wd p.c.we p.c.wx q.c.wd q.c.we q.c.wx with
  | false =>
    have H1 := Lib.hid h1
    clear h1
    dsimp only
    go_wp2
    go_ret
    exact ⟨by rw [H1.out]; rfl, HB3.out⟩
  | true =>
    have H1 := Lib.hid h1
    clear h1
    have m3 := HK30.out.cell 3
    have m4 := HK30.out.cell 4
    have m5 := HK30.out.cell 5
    have m6 := HK30.out.cell 6
    simp only [List.getElem?_cons_zero, List.getElem?_cons_succ] at m3 m4 m5 m6
    have n3 := HK31.out.cell 3
    have n4 := HK31.out.cell 4
    have n5 := HK31.out.cell 5
    have n6 := HK31.out.cell 6
    simp only [List.getElem?_cons_zero, List.getElem?_cons_succ] at n3 n4 n5 n6
    dsimp only
    go_wp2_with fail
    refine (equal_i32_any p.c.m q.c.m _ _ _ _ _ HM3.out GM3.out).mono ?_
    rintro en w4 ⟨rfl, k, rfl⟩
    cases h2 : (p.c.m == q.c.m) with
    | false =>
      have H2 := Lib.hid h2
      clear h2
      dsimp only
      go_wp2
      go_ret
      exact ⟨by rw [H1.out, H2.out]; rfl, below_drewN HB3.out _⟩
    | true =>
      have H2 := Lib.hid h2
      clear h2
      dsimp only
      go_wp2_with fail
      refine (tsame_any p.c.bd p.c.be p.c.bx q.c.bd q.c.be q.c.bx _ _ _ _ (w3.drewN k) B (by show B ≤ w3.heap.size; omega) (HBB3.out.below (below_drewN (Below.refl _ _) k)) (GB3.out.below (below_drewN (Below.refl _ _) k)) _ rfl).mono ?_
      rintro en w5 ⟨rfl, hb5⟩
      have HB5 := Lib.hid (HB3.out.trans (((below_drewN (Below.refl w3.heap.size w3) k).trans hb5).mono HB3.out.size))
      clear hb5
      dsimp only
      go_wp2
      go_ret
      exact ⟨by rw [H1.out, H2.out]; rfl, HB5.out⟩
/-- two rows of params alike -/
def sameCs : List ParC → List ParC → Bool
  | [], [] => true
  | p :: ps, q :: qs => sameC p q && sameCs ps qs
  | _, _ => false
theorem sameCs_eq : ∀ {ps qs : List ParC}, sameCs ps qs = true ↔ ps = qs
  | [], [] => by simp [sameCs]
  | [], q :: qs => by simp [sameCs]
  | p :: ps, [] => by simp [sameCs]
  | p :: ps, q :: qs => by simp only [sameCs, Bool.and_eq_true, sameC_eq, sameCs_eq, List.cons.injEq]
theorem sameCs_refl (ps : List ParC) : sameCs ps ps = true := sameCs_eq.2 rfl
theorem sameCs_len {ps qs : List ParC} (h : ps.length ≠ qs.length) : sameCs ps qs = false := by
  rw [Bool.eq_false_iff]
  intro h2
  exact h (by rw [sameCs_eq.1 h2])
theorem sameCs_false {ps qs : List ParC} {k : Nat} {p q : ParC} (h1 : ps[k]? = some p) (h2 : qs[k]? = some q) (h : sameC p q = false) : sameCs ps qs = false := by
  rw [Bool.eq_false_iff]
  intro h3
  have := sameCs_eq.1 h3
  subst this
  rw [h1] at h2
  injection h2 with h2
  subst h2
  rw [sameC_refl] at h
  cases h
set_option maxHeartbeats 1600000 in
set_option maxRecDepth 100000 in
theorem pequalf_any (ps qs : List ParV) (v u : Value) (B : Nat) (w : World) (hB : B ≤ w.heap.size) (h : ParsOf w B v ps) (hu : ParsOf w B u qs) :
    Calls Try.prog 72 #[v, u, .func (.func 73) #[] #[]] w fun en w' => en = .returned (.bool (sameCs (ps.map (·.c)) (qs.map (·.c)))) ∧ Below w.heap.size w w' := by
  obtain ⟨A, c, rfl⟩ := h.form
  obtain ⟨A', c', rfl⟩ := hu.form
  have hlen := h.len
  have hlen' := hu.len
  have HE := Lib.hid h
  have HU := Lib.hid hu
  clear h hu
  by_cases hl : ps.length = qs.length
  · have e1 : ((ps.length : Int) != (qs.length : Int)) = false := by simp; omega
    have HL := Lib.hid hl
    clear hl
    go_enter Try.func72, Try.ntmps72
    go_wp2
    go_loopw [17] (fun i wr => ∃ k : Nat, k ≤ ps.length ∧ i = .int .i64 k ∧ Hid ((ps.map (·.c)).take k = (qs.map (·.c)).take k) ∧ Hid (Below w.heap.size w wr)) (fun i _ => ps.length - (intOf i).toNat)
    case atStart => exact ⟨0, by omega, rfl, Lib.hid (by simp), Lib.hid (Below.refl _ _)⟩
    case round =>
      obtain ⟨k, hk, rfl, htk, hbel⟩ := hrel
      by_cases hlt : k < ps.length
      · obtain ⟨g, o, c2, x, e2, hlk, hok, hg, q0, q1, q2, q3, q4, q5, q6⟩ := (HE.out.below (hbel.out.mono hB)).at_ hlt
        injection e2 with e2 _ e3
        subst e2 e3
        obtain ⟨g', o', c3, y, e4, hlk', hok', hg', p0, p1, p2, p3, p4, p5, p6⟩ := (HU.out.below (hbel.out.mono hB)).at_ (k := k) (by have := HL.out; omega)
        injection e4 with e4 _ e5
        subst e4 e5
        obtain ⟨X1, x1, X2, x2, f1, f2⟩ := hok.t.form
        obtain ⟨X3, x3, f3, _, _⟩ := hok.m.form
        obtain ⟨X4, x4, X5, x5, f4, f5⟩ := hok.b.form
        obtain ⟨Y1, y1, Y2, y2, g1, g2⟩ := hok'.t.form
        obtain ⟨Y3, y3, g3, _, _⟩ := hok'.m.form
        obtain ⟨Y4, y4, Y5, y5, g4, g5⟩ := hok'.b.form
        rw [length_ints] at f3 g3
        rw [f1] at q0
        rw [f2] at q2
        rw [f3] at q3
        rw [f4] at q4
        rw [f5] at q6
        rw [g1] at p0
        rw [g2] at p2
        rw [g3] at p3
        rw [g4] at p4
        rw [g5] at p6
        have HLK := Lib.hid (show (ps.map (·.c))[k]? = some x.c by rw [List.getElem?_map, hlk]; rfl)
        have HLK' := Lib.hid (show (qs.map (·.c))[k]? = some y.c by rw [List.getElem?_map, hlk']; rfl)
        have hbz := hbel.out.size
        have a1 : g < wr.heap.size := by omega
        have a2 : g' < wr.heap.size := by omega
        have i1 : (0 : Int) ≤ (k : Int) := by omega
        have i2 : (k : Int) < (ps.length : Int) := by omega
        have i3 : (k : Int) < (qs.length : Int) := by have := HL.out; omega
        obtain ⟨r, hr⟩ : ∃ r, sameC x.c y.c = r := ⟨_, rfl⟩
        have HR := Lib.hid hr
        have hps := psame1_any x y ((wr.alloc (.cells #[.slice X1 x.c.wd.length x1, .int .i64 x.c.we, .slice X2 x.c.wx.length x2, .slice X3 x.c.m.length x3, .slice X4 x.c.bd.length x4, .int .i64 x.c.be, .slice X5 x.c.bx.length x5] 43)).alloc (.cells #[.slice Y1 y.c.wd.length y1, .int .i64 y.c.we, .slice Y2 y.c.wx.length y2, .slice Y3 y.c.m.length y3, .slice Y4 y.c.bd.length y4, .int .i64 y.c.be, .slice Y5 y.c.bx.length y5] 43)) B (by simp; omega) (hok.below ((pair_alloc wr _ _).mono (by omega))) (hok'.below ((pair_alloc wr _ _).mono (by omega))) r hr
        rw [f1, f2, f3, f4, f5, g1, g2, g3, g4, g5] at hps
        have HPS := Lib.hid hps
        have HBP := Lib.hid (hbel.out.trans ((pair_alloc wr (.cells #[.slice X1 x.c.wd.length x1, .int .i64 x.c.we, .slice X2 x.c.wx.length x2, .slice X3 x.c.m.length x3, .slice X4 x.c.bd.length x4, .int .i64 x.c.be, .slice X5 x.c.bx.length x5] 43) (.cells #[.slice Y1 y.c.wd.length y1, .int .i64 y.c.we, .slice Y2 y.c.wx.length y2, .slice Y3 y.c.m.length y3, .slice Y4 y.c.bd.length y4, .int .i64 y.c.be, .slice Y5 y.c.bx.length y5] 43)).mono hbz))
        have w2p : ∀ o : Obj, (wr.alloc o).cell? ⟨g', o' + k * 7, none⟩ = some (.slice Y1 y.c.wd.length y1) := fun o => ((Below.refl wr.heap.size wr).alloc (Nat.le_refl _) o |>.cell (p := ⟨g', o' + k * 7, none⟩) a2).trans p0
        clear hlk hok hlk' hok' f1 f2 f3 f4 f5 g1 g2 g3 g4 g5 hr hps e1 w2p
        cases r with
        | false =>
          have HF := Lib.hid (sameCs_false HLK.out HLK'.out HR.out)
          go_wp2_with fail
          refine HPS.out.mono ?_
          rintro en w3 ⟨rfl, hb3⟩
          have HB3 := Lib.hid (HBP.out.trans (hb3.mono HBP.out.size))
          clear hb3
          dsimp only
          go_wp2
          go_ret
          exact ⟨by rw [HF.out]; rfl, HB3.out⟩
        | true =>
          go_wp2_with fail
          refine HPS.out.mono ?_
          rintro en w3 ⟨rfl, hb3⟩
          have HB3 := Lib.hid (HBP.out.trans (hb3.mono HBP.out.size))
          have HTK2 := Lib.hid (show (ps.map (·.c)).take (k + 1) = (qs.map (·.c)).take (k + 1) by rw [List.take_add_one, List.take_add_one, htk.out, HLK.out, HLK'.out, sameC_eq.1 HR.out])
          clear hb3
          dsimp only
          go_wp2
          go_roundw
          case rel => exact ⟨k + 1, by omega, by go_num, HTK2, HB3⟩
          case measure => simp [intOf]; omega
      · have HF : Hid (sameCs (ps.map (·.c)) (qs.map (·.c)) = true) := Lib.hid (by
          have h1 := htk.out
          rw [List.take_of_length_le (by simp; omega), List.take_of_length_le (by have := HL.out; simp; omega)] at h1
          exact sameCs_eq.2 h1)
        go_wp2
        go_ret
        exact ⟨by rw [HF.out]; rfl, hbel.out⟩
  · have e1 : ((ps.length : Int) != (qs.length : Int)) = true := by simp; omega
    have e2 := sameCs_len (ps := ps.map (·.c)) (qs := qs.map (·.c)) (by simpa using hl)
    have E2 := Lib.hid e2
    clear e2
    go_enter Try.func72, Try.ntmps72
    go_wp2
    go_ret
    exact ⟨by rw [E2.out]; rfl, Below.refl _ _⟩
theorem psame_any (ps qs : List ParV) (v u : Value) (B : Nat) (w : World) (hB : B ≤ w.heap.size) (h : ParsOf w B v ps) (hu : ParsOf w B u qs) (r : Bool) (hr : sameCs (ps.map (·.c)) (qs.map (·.c)) = r) :
    Calls Try.prog 52 #[v, u] w fun en w' => en = .returned (.bool r) ∧ Below w.heap.size w w' := by
  subst hr
  have HC := Lib.hid (pequalf_any ps qs v u B w hB h hu)
  obtain ⟨A, c, rfl⟩ := h.form
  obtain ⟨A', c', rfl⟩ := hu.form
  clear h hu
  go_enter Try.func52, Try.ntmps52
  go_wp2_with fail
  refine HC.out.mono ?_
  rintro en w2 ⟨rfl, hb2⟩
  have HB2 := Lib.hid hb2
  clear hb2
  dsimp only
  go_wp2
  go_ret
  exact ⟨rfl, HB2.out⟩
end Go.Proofs.Ytcjpibdgnjncmaa
