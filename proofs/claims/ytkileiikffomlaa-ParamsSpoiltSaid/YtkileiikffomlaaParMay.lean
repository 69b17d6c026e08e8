/- Contracts of params.zero, params.May. -/
import Derived.Test.YtkileiikffomlaaParDims
import Derived.Test.YtkileiikffomlaaParSame
import Derived.Test.YtkileiikffomlaaParGreat
namespace Go.Proofs.Ytkileiikffomlaa
open Go.RowKit
set_option linter.unusedVariables false
set_option linter.unusedSimpArgs false

def zeroP (p : ParC) : Bool := decide (lenP p = 0) && ((p.we == 0) && (p.be == 0))
theorem zeroP_eq {p : ParC} : zeroP p = true ↔ p = zeroC := by
  obtain ⟨a, b, c, d, e, f, g⟩ := p
  unfold zeroP lenP zeroC
  simp only [Bool.and_eq_true, decide_eq_true_eq, beq_iff_eq, ParC.mk.injEq]
  constructor
  · rintro ⟨h1, h2, h3⟩
    exact ⟨List.eq_nil_of_length_eq_zero (by omega), h2, List.eq_nil_of_length_eq_zero (by omega), List.eq_nil_of_length_eq_zero (by omega), List.eq_nil_of_length_eq_zero (by omega), h3, List.eq_nil_of_length_eq_zero (by omega)⟩
  · rintro ⟨rfl, rfl, rfl, rfl, rfl, rfl, rfl⟩
    simp
set_option maxHeartbeats 1600000 in
set_option maxRecDepth 100000 in
theorem pzero_any (p : ParV) (w : World) (B : Nat) (h : p.Ok w B) (r : Bool) (hr : zeroP p.c = r) :
    Calls Try.prog 47 #[.agg #[p.wd, .int .i64 p.c.we, p.wx, p.mv, p.bd, .int .i64 p.c.be, p.bx]] w fun en w' => en = .returned (.bool r) ∧ Below w.heap.size w w' := by
  obtain ⟨A1, c1, e1, z1, y1⟩ := h.t.d.form
  obtain ⟨A2, c2, e2, z2, y2⟩ := h.t.x.form
  obtain ⟨A3, c3, e3, z3, y3⟩ := h.m.form
  obtain ⟨A4, c4, e4, z4, y4⟩ := h.b.d.form
  obtain ⟨A5, c5, e5, z5, y5⟩ := h.b.x.form
  rw [length_ints] at e1 e2 e3 e4 e5 z1 z2 z3 z4 z5
  unfold maxLen at y1 y2 y3 y4 y5
  rw [e1, e2, e3, e4, e5]
  have HB := Lib.hid ((Below.refl w.heap.size w).alloc (Nat.le_refl _) (.cells #[.slice A1 p.c.wd.length c1, .int .i64 p.c.we, .slice A2 p.c.wx.length c2, .slice A3 p.c.m.length c3, .slice A4 p.c.bd.length c4, .int .i64 p.c.be, .slice A5 p.c.bx.length c5] 60))
  have HK := Lib.hid (Blk.fresh w 60 [.slice A1 p.c.wd.length c1, .int .i64 p.c.we, .slice A2 p.c.wx.length c2, .slice A3 p.c.m.length c3, .slice A4 p.c.bd.length c4, .int .i64 p.c.be, .slice A5 p.c.bx.length c5])
  have m0 := HK.out.cell 0
  have m1 := HK.out.cell 1
  have m2 := HK.out.cell 2
  have m3 := HK.out.cell 3
  have m4 := HK.out.cell 4
  have m5 := HK.out.cell 5
  have m6 := HK.out.cell 6
  simp only [List.getElem?_cons_zero, List.getElem?_cons_succ] at m0 m1 m2 m3 m4 m5 m6
  have hln := h.ln
  unfold lenP at hln
  have HR := Lib.hid hr
  clear h e1 e2 e3 e4 e5 z1 z2 z3 z4 z5 y1 y2 y3 y4 y5 hr
  by_cases hl : lenP p.c = 0
  · have t1 : (((p.c.wd.length : Int) + (p.c.wx.length : Int) + (p.c.m.length : Int) + (p.c.bd.length : Int) + (p.c.bx.length : Int)) == 0) = true := by unfold lenP at hl; simp only [beq_iff_eq]; omega
    have HL := Lib.hid hl
    clear hl
    cases h2 : (p.c.we == 0) with
    | true =>
      cases h3 : (p.c.be == 0) with
      | true =>
        have HF : Hid (r = true) := Lib.hid (by rw [← HR.out]; unfold zeroP; rw [HL.out, h2, h3]; rfl)
        go_enter Try.func47, Try.ntmps47
        go_wp2
        go_ret
        exact ⟨by rw [HF.out]; rfl, HB.out⟩
      | false =>
        have HF : Hid (r = false) := Lib.hid (by rw [← HR.out]; unfold zeroP; rw [HL.out, h2, h3]; rfl)
        go_enter Try.func47, Try.ntmps47
        go_wp2
        go_ret
        exact ⟨by rw [HF.out]; rfl, HB.out⟩
    | false =>
      have HF : Hid (r = false) := Lib.hid (by rw [← HR.out]; unfold zeroP; rw [HL.out, h2]; rfl)
      go_enter Try.func47, Try.ntmps47
      go_wp2
      go_ret
      exact ⟨by rw [HF.out]; rfl, HB.out⟩
  · have t1 : (((p.c.wd.length : Int) + (p.c.wx.length : Int) + (p.c.m.length : Int) + (p.c.bd.length : Int) + (p.c.bx.length : Int)) == 0) = false := by unfold lenP at hl; rw [beq_eq_false_iff_ne]; omega
    have HF : Hid (r = false) := Lib.hid (by rw [← HR.out]; unfold zeroP; rw [decide_eq_false hl]; rfl)
    clear hl
    go_enter Try.func47, Try.ntmps47
    go_wp2
    go_ret
    exact ⟨by rw [HF.out]; rfl, HB.out⟩
/-- may a layer's weights be, of these lengths -/
def mayP1 (q : List Int × Int) (kind : Int) (p : ParC) : Bool :=
  if q.1 = [] then zeroP p && ((kind != 1) && (kind != 2))
  else mayB p.wd p.we p.wx && (mayB p.bd p.be p.bx && ((p.wd == q.1) && ((p.bd == [q.2]) && (decide (p.m.length = p.wx.length) && p.m.all inM))))
def mayAt (a b c : Int) (ls : List LayV) (cs : List ParC) (k : Nat) : Bool := mayP1 (pdimsI a b c ls ((k : Int) + 1)) (ls.getD k ⟨0, 0, 0, 0, 0, 0, false⟩).kind (cs.getD k zeroC)
def mayPs (a b c : Int) (ls : List LayV) (cs : List ParC) : Bool :=
  decide ((shapesM a b c ls).2.2 = 0) && (decide (cs.length = ls.length) && (List.range cs.length).all (fun k => mayAt a b c ls cs k))
theorem mayAt_at {a b c : Int} {ls : List LayV} {ps : List ParV} {k : Nat} {l : LayV} {p : ParV} (hl : ls[k]? = some l) (hp : ps[k]? = some p) : mayAt a b c ls (ps.map (·.c)) k = mayP1 (pdimsI a b c ls ((k : Int) + 1)) l.kind p.c := by
  unfold mayAt
  have h2 : (ps.map (·.c))[k]? = some p.c := by rw [List.getElem?_map, hp]; rfl
  simp only [List.getD_eq_getElem?_getD, hl, h2, Option.getD_some]
theorem mayPs_false {a b c : Int} {ls : List LayV} {cs : List ParC} {k : Nat} (hk : k < cs.length) (h : mayAt a b c ls cs k = false) : mayPs a b c ls cs = false := by
  unfold mayPs
  rw [Bool.and_eq_false_iff]
  right
  rw [Bool.and_eq_false_iff]
  right
  rw [List.all_eq_false]
  exact ⟨k, List.mem_range.2 hk, by rw [h]; simp⟩
theorem mayPs_true {a b c : Int} {ls : List LayV} {cs : List ParC} (h1 : (shapesM a b c ls).2.2 = 0) (h2 : cs.length = ls.length) (h : ∀ k, k < cs.length → mayAt a b c ls cs k = true) : mayPs a b c ls cs = true := by
  unfold mayPs
  rw [Bool.and_eq_true, Bool.and_eq_true]
  refine ⟨decide_eq_true h1, decide_eq_true h2, ?_⟩
  rw [List.all_eq_true]
  intro k hk
  exact h k (List.mem_range.1 hk)
theorem mayPs_parts {a b c : Int} {ls : List LayV} {cs : List ParC} (h : mayPs a b c ls cs = true) : (shapesM a b c ls).2.2 = 0 ∧ cs.length = ls.length ∧ ∀ k, k < cs.length → mayAt a b c ls cs k = true := by
  unfold mayPs at h
  rw [Bool.and_eq_true, Bool.and_eq_true] at h
  obtain ⟨h1, h2, h3⟩ := h
  refine ⟨by simpa using h1, by simpa using h2, fun k hk => ?_⟩
  rw [List.all_eq_true] at h3
  exact h3 k (List.mem_range.2 hk)
set_option maxHeartbeats 3200000 in
set_option maxRecDepth 100000 in
theorem pmay_any (a b c : Int) (v lv : Value) (ls : List LayV) (ps : List ParV) (w : World) (B : Nat) (hB : B ≤ w.heap.size) (h : LaysOf w B v ls) (hp : ParsOf w B lv ps) (r : Bool) (hr : mayPs a b c ls (ps.map (·.c)) = r) :
    Calls Try.prog 26 #[.agg #[.int .i64 a, .int .i64 b, .int .i64 c, v], lv] w fun en w' => en = .returned (.bool r) ∧ Below w.heap.size w w' := by
  subst hr
  obtain ⟨A, cc, rfl⟩ := h.form
  obtain ⟨D, dd, rfl⟩ := hp.form
  have hlen := h.len
  have hplen := hp.len
  have HL := Lib.hid h
  have HP := Lib.hid hp
  have hb0 := net_one w (.cells #[.int .i64 a, .int .i64 b, .int .i64 c, .slice A ls.length cc] 25)
  have HB0 := Lib.hid hb0
  have hsz : w.heap.size < (w.alloc (.cells #[.int .i64 a, .int .i64 b, .int .i64 c, .slice A ls.length cc] 25)).heap.size := by simp
  have KB := Lib.hid (Blk.fresh w 25 [.int .i64 a, .int .i64 b, .int .i64 c, .slice A ls.length cc])
  have HSH : Hid (∀ res, shapesM a b c ls = res → Calls Try.prog 12 #[.agg #[.int .i64 a, .int .i64 b, .int .i64 c, .slice A ls.length cc]] (w.alloc (.cells #[.int .i64 a, .int .i64 b, .int .i64 c, .slice A ls.length cc] 25)) (Shaped (w.alloc (.cells #[.int .i64 a, .int .i64 b, .int .i64 c, .slice A ls.length cc] 25)) res)) :=
    Lib.hid (fun res hres => shapes_any a b c _ ls _ B (by omega) (HL.out.below (HB0.out.mono hB)) res hres)
  clear h hp hb0
  rcases shapesM_cases a b c ls with ⟨hs, hm⟩ | ⟨n, hs, hn1, hn2, hm⟩ | ⟨all, hs, hok⟩
  · have HC := Lib.hid (HSH.out _ hs)
    have HF : Hid (mayPs a b c ls (ps.map (·.c)) = false) := Lib.hid (by unfold mayPs; rw [hs]; rfl)
    clear hs hm
    go_enter Try.func26, Try.ntmps26
    go_wp2_with fail
    refine HC.out.mono ?_
    rintro en w2 ⟨A2, c2, rfl, hrows, hb2⟩
    have HB2 := Lib.hid (HB0.out.trans (hb2.mono (by omega)))
    clear hb2 hrows
    dsimp only
    go_wp2
    go_ret
    exact ⟨by rw [HF.out]; rfl, HB2.out⟩
  · have HC := Lib.hid (HSH.out _ hs)
    have HF : Hid (mayPs a b c ls (ps.map (·.c)) = false) := Lib.hid (by unfold mayPs; rw [hs]; rfl)
    clear hs hm
    go_enter Try.func26, Try.ntmps26
    go_wp2_with fail
    refine HC.out.mono ?_
    rintro en w2 ⟨A2, c2, rfl, hrows, hb2⟩
    have HB2 := Lib.hid (HB0.out.trans (hb2.mono (by omega)))
    clear hb2 hrows
    dsimp only
    go_wp2
    go_ret
    exact ⟨by rw [HF.out]; rfl, HB2.out⟩
  · have HC := Lib.hid (HSH.out _ hs)
    have h12 := (mayM_parts hok.may).2.1.2
    have HSZ : Hid ((shapesM a b c ls).2.2 = 0) := Lib.hid (by rw [hs])
    clear hs hok
    by_cases hpl : ps.length = ls.length
    · have HPL := Lib.hid hpl
      have t0 : ((ps.length : Int) != (ls.length : Int)) = false := by simp; omega
      have hp12 : ps.length ≤ 12 := by omega
      clear hpl
      go_enter Try.func26, Try.ntmps26
      go_wp2_with fail
      refine HC.out.mono ?_
      rintro en w2 ⟨A2, c2, rfl, hrows, hb2⟩
      have HB2 := Lib.hid (HB0.out.trans (hb2.mono (by omega)))
      have K2 := Lib.hid (KB.out.below hb2 hsz)
      have hw2 := K2.out.lt
      have k3 := K2.out.cell 3
      simp only [List.getElem?_cons_zero, List.getElem?_cons_succ] at k3
      clear hb2 hrows HC HB0 KB
      dsimp only
      go_wp2_with fail
      clear k3
      go_loopw [31] (fun i wr => ∃ k : Nat, k ≤ ps.length ∧ i = .int .i64 k ∧ Hid (∀ j, j < k → mayAt a b c ls (ps.map (·.c)) j = true) ∧ Hid (Below w2.heap.size w2 wr)) (fun i _ => ps.length - (intOf i).toNat)
      case atStart => exact ⟨0, by omega, rfl, Lib.hid (by omega), Lib.hid (Below.refl _ _)⟩
      case round =>
        obtain ⟨k, hk, rfl, HST, HBR⟩ := hrel
        by_cases hlt : k < ps.length
        · have HBW := Lib.hid (HB2.out.trans (HBR.out.mono HB2.out.size))
          have hpl := HPL.out
          obtain ⟨gp, op, cp, p, e1, hpk, hok, hgp, q0, q1, q2, q3, q4, q5, q6⟩ := (HP.out.below (HBW.out.mono hB)).at_ hlt
          injection e1 with e1 _ e3
          subst e1 e3
          obtain ⟨gl, ol, cl, l, e2, hll, hlok, hgl, l0, _⟩ := (HL.out.below (HBW.out.mono hB)).at_ (k := k) (by omega)
          injection e2 with e2 _ e4
          subst e2 e4
          have HAT : Hid (mayAt a b c ls (ps.map (·.c)) k = mayP1 (pdimsI a b c ls ((k : Int) + 1)) l.kind p.c) := Lib.hid (mayAt_at hll hpk)
          have HFK : Hid (mayP1 (pdimsI a b c ls ((k : Int) + 1)) l.kind p.c = false → mayPs a b c ls (ps.map (·.c)) = false) := Lib.hid (fun hh => mayPs_false (k := k) (by rw [List.length_map]; exact hlt) (by rw [HAT.out]; exact hh))
          obtain ⟨kd, hkd⟩ : ∃ kd, l.kind = kd := ⟨_, rfl⟩
          rw [hkd] at l0 HAT HFK
          obtain ⟨A1, c1, A2, c2, f1, f2⟩ := hok.t.form
          obtain ⟨A3, c3, f3, _, _⟩ := hok.m.form
          obtain ⟨A4, c4, A5, c5, f4, f5⟩ := hok.b.form
          rw [length_ints] at f3
          have HOK := Lib.hid hok
          have HT := hok.t
          have HM := hok.m
          have HBB := hok.b
          rw [f1, f2] at HT
          rw [f3] at HM
          rw [f4, f5] at HBB
          have HT := Lib.hid HT
          have HM := Lib.hid HM
          have HBB := Lib.hid HBB
          have HZ : Hid (∀ (W : World) (z : Bool), Below wr.heap.size wr W → zeroP p.c = z → Calls Try.prog 47 #[.agg #[.slice A1 p.c.wd.length c1, .int .i64 p.c.we, .slice A2 p.c.wx.length c2, .slice A3 p.c.m.length c3, .slice A4 p.c.bd.length c4, .int .i64 p.c.be, .slice A5 p.c.bx.length c5]] W fun en w' => en = .returned (.bool z) ∧ Below W.heap.size W w') := Lib.hid (fun W z hW hz => by
            have hx := pzero_any p W B (hok.below (hW.mono (by have := HBW.out.size; omega))) z hz
            rw [f1, f2, f3, f4, f5] at hx
            exact hx)
          rw [f1] at q0
          rw [f2] at q2
          rw [f3] at q3
          rw [f4] at q4
          rw [f5] at q6
          have hsr := HBW.out.size
          have i0 : 0 ≤ (k : Int) := by omega
          have i1 : (k : Int) < (ps.length : Int) := by omega
          have i2 : (k : Int) < (ls.length : Int) := by omega
          obtain ⟨q, hq⟩ : ∃ q, pdimsI a b c ls ((k : Int) + 1) = q := ⟨_, rfl⟩
          rw [hq] at HAT HFK
          have hba := (Below.refl wr.heap.size wr).alloc (Nat.le_refl _) (.cells #[.slice A1 p.c.wd.length c1, .int .i64 p.c.we, .slice A2 p.c.wx.length c2, .slice A3 p.c.m.length c3, .slice A4 p.c.bd.length c4, .int .i64 p.c.be, .slice A5 p.c.bx.length c5] 60)
          have HC := Lib.hid (pdims_any a b c _ ls ((k : Int) + 1) (wr.alloc (.cells #[.slice A1 p.c.wd.length c1, .int .i64 p.c.we, .slice A2 p.c.wx.length c2, .slice A3 p.c.m.length c3, .slice A4 p.c.bd.length c4, .int .i64 p.c.be, .slice A5 p.c.bx.length c5] 60)) B (by simp; omega) ((HL.out.below (HBW.out.mono hB)).below (hba.mono (by omega))) q hq)
          have HKP := Lib.hid (Blk.fresh wr 60 [.slice A1 p.c.wd.length c1, .int .i64 p.c.we, .slice A2 p.c.wx.length c2, .slice A3 p.c.m.length c3, .slice A4 p.c.bd.length c4, .int .i64 p.c.be, .slice A5 p.c.bx.length c5])
          have hk2 := K2.out.below HBR.out hw2
          have HKM := Lib.hid (hk2.alloc (.cells #[.slice A1 p.c.wd.length c1, .int .i64 p.c.we, .slice A2 p.c.wx.length c2, .slice A3 p.c.m.length c3, .slice A4 p.c.bd.length c4, .int .i64 p.c.be, .slice A5 p.c.bx.length c5] 60))
          have hsa : (wr.alloc (.cells #[.slice A1 p.c.wd.length c1, .int .i64 p.c.we, .slice A2 p.c.wx.length c2, .slice A3 p.c.m.length c3, .slice A4 p.c.bd.length c4, .int .i64 p.c.be, .slice A5 p.c.bx.length c5] 60)).heap.size = wr.heap.size + 1 := by simp
          have k0 := HKM.out.cell 0
          have k1 := HKM.out.cell 1
          have k2 := HKM.out.cell 2
          have k3 := HKM.out.cell 3
          simp only [List.getElem?_cons_zero, List.getElem?_cons_succ] at k0 k1 k2 k3
          have HL0 := Lib.hid ((hba.cell (p := ⟨gl, ol + k * 7, none⟩) (by show gl < wr.heap.size; omega)).trans l0)
          have HBA := Lib.hid hba
          have r0 := hk2.cell 0
          have r1 := hk2.cell 1
          have r2 := hk2.cell 2
          have r3 := hk2.cell 3
          simp only [List.getElem?_cons_zero, List.getElem?_cons_succ] at r0 r1 r2 r3
          obtain ⟨qd, qn⟩ := q
          clear hpl hpk hok hll hlok l0 hkd f1 f2 f3 f4 f5 hq hba hk2
          go_wp2_with fail
          clear q0 q1 q2 q3 q4 q5 q6 k0 k1 k2 k3 r0 r1 r2 r3
          generalize (wr.alloc (.cells #[.slice A1 p.c.wd.length c1, .int .i64 p.c.we, .slice A2 p.c.wx.length c2, .slice A3 p.c.m.length c3, .slice A4 p.c.bd.length c4, .int .i64 p.c.be, .slice A5 p.c.bx.length c5] 60)) = w3 at HC HKP HKM hsa HL0 HBA ⊢
          refine HC.out.mono ?_
          rintro en w5 ⟨A6, c6, rfl, hr5, hb5, hnil⟩
          have HB5 := Lib.hid (HBR.out.trans ((HBA.out.trans (hb5.mono (by omega))).mono HBR.out.size))
          have HBW5 := Lib.hid (HBA.out.trans (hb5.mono (by omega)))
          have HKP5 := Lib.hid (HKP.out.below hb5 (by omega))
          have HKM5 := Lib.hid (HKM.out.below hb5 (by omega))
          have HR5 := Lib.hid hr5
          have hL0 := (hb5.cell (p := ⟨gl, ol + k * 7, none⟩) (by show gl < w3.heap.size; omega)).trans HL0.out
          have hs5 := hb5.size
          clear hr5 hb5 HC HKP HKM HL0 HBA HBR
          dsimp only
          have qT : ∀ (w : World) (a : Option Addr) (n c n' c' : Nat), (binOp .eql 32 (.slice a n c) (.slice none n' c')).run Try.prog w = .ok (.bool a.isNone) w := fun w a n c n' c' => Lib.run_eql_slice_nil w _ _ a n c n' c' Try.underlying32
          by_cases hqd : qd = []
          · subst hqd
            obtain ⟨rfl, rfl⟩ := hnil rfl
            have m0 := HKP5.out.cell 0
            have m1 := HKP5.out.cell 1
            have m2 := HKP5.out.cell 2
            have m3 := HKP5.out.cell 3
            have m4 := HKP5.out.cell 4
            have m5 := HKP5.out.cell 5
            have m6 := HKP5.out.cell 6
            simp only [List.getElem?_cons_zero, List.getElem?_cons_succ] at m0 m1 m2 m3 m4 m5 m6
            have n3 := HKM5.out.cell 3
            simp only [List.getElem?_cons_zero, List.getElem?_cons_succ] at n3
            have hz := HZ.out w5
            cases hzz : zeroP p.c with
            | false =>
              have HF := Lib.hid (HFK.out (by unfold mayP1; rw [if_pos rfl, hzz]; rfl))
              have HCZ := Lib.hid (hz false HBW5.out hzz)
              clear hz hzz HZ
              go_wp2_with fail
              refine HCZ.out.mono ?_
              rintro en w6 ⟨rfl, hb6⟩
              have HB6 := Lib.hid (HB5.out.trans (hb6.mono HB5.out.size))
              clear hb6
              (try dsimp only)
              go_wp2
              go_ret
              exact ⟨by rw [HF.out]; rfl, HB2.out.trans (HB6.out.mono HB2.out.size)⟩
            | true =>
              have HCZ := Lib.hid (hz true HBW5.out hzz)
              have HZZ := Lib.hid hzz
              clear hz hzz HZ
              cases h1 : (kd == 1) with
              | true =>
                have HF := Lib.hid (HFK.out (by unfold mayP1; rw [if_pos rfl, HZZ.out, show (kd != 1) = !(kd == 1) from rfl, h1]; rfl))
                go_wp2_with fail
                refine HCZ.out.mono ?_
                rintro en w6 ⟨rfl, hb6⟩
                have HB6 := Lib.hid (HB5.out.trans (hb6.mono HB5.out.size))
                clear hb6
                (try dsimp only)
                go_wp2
                go_ret
                exact ⟨by rw [HF.out]; rfl, HB2.out.trans (HB6.out.mono HB2.out.size)⟩
              | false =>
                cases h2 : (kd == 2) with
                | true =>
                  have HF := Lib.hid (HFK.out (by unfold mayP1; rw [if_pos rfl, HZZ.out, show (kd != 2) = !(kd == 2) from rfl, h2, show (kd != 1) = !(kd == 1) from rfl, h1]; rfl))
                  go_wp2_with fail
                  refine HCZ.out.mono ?_
                  rintro en w6 ⟨rfl, hb6⟩
                  have HB6 := Lib.hid (HB5.out.trans (hb6.mono HB5.out.size))
                  clear hb6
                  (try dsimp only)
                  go_wp2
                  go_ret
                  exact ⟨by rw [HF.out]; rfl, HB2.out.trans (HB6.out.mono HB2.out.size)⟩
                | false =>
                  have HTT : Hid (mayP1 ([], qn) kd p.c = true) := Lib.hid (by unfold mayP1; rw [if_pos rfl, HZZ.out, show (kd != 2) = !(kd == 2) from rfl, h2, show (kd != 1) = !(kd == 1) from rfl, h1]; rfl)
                  go_wp2_with fail
                  refine HCZ.out.mono ?_
                  rintro en w6 ⟨rfl, hb6⟩
                  have HB6 := Lib.hid (HB5.out.trans (hb6.mono HB5.out.size))
                  clear hb6
                  have HST2 : Hid (∀ j, j < k + 1 → mayAt a b c ls (ps.map (·.c)) j = true) := Lib.hid (fun j hj => by
                    rcases Nat.lt_or_ge j k with h1 | h1
                    · exact HST.out j h1
                    · obtain rfl : j = k := by omega
                      rw [HAT.out]
                      exact HTT.out)
                  (try dsimp only)
                  go_wp2_with fail
                  go_roundw
                  case rel => exact ⟨k + 1, by omega, by go_num, HST2, HB6⟩
                  case measure => simp [intOf]; omega
          · have HQD := Lib.hid hqd
            obtain ⟨g6, o6, rfl, _⟩ : ∃ g o, A6 = some ⟨g, o, none⟩ ∧ True := by
              obtain ⟨A', n', c', e, hl, _, _, ha⟩ := HR5.out
              injection e with e1 e2 e3
              subst e1 e2
              obtain ⟨g, o, e, _⟩ := ha.out (by have := List.length_pos_iff.2 hqd; rw [length_ints] at hl; omega)
              exact ⟨g, o, e, trivial⟩
            have HMP : Hid (mayP1 (qd, qn) kd p.c = (mayB p.c.wd p.c.we p.c.wx && (mayB p.c.bd p.c.be p.c.bx && ((p.c.wd == qd) && ((p.c.bd == [qn]) && (decide (p.c.m.length = p.c.wx.length) && p.c.m.all inM)))))) := Lib.hid (by unfold mayP1; rw [if_neg hqd])
            have m0 := HKP5.out.cell 0
            have m1 := HKP5.out.cell 1
            have m2 := HKP5.out.cell 2
            simp only [List.getElem?_cons_zero, List.getElem?_cons_succ] at m0 m1 m2
            have HT5 := Lib.hid (HT.out.below (HBW5.out.mono (by omega)))
            have HM5 := Lib.hid (HM.out.below (HBW5.out.mono (by omega)))
            have HBB5 := Lib.hid (HBB.out.below (HBW5.out.mono (by omega)))
            have hsB : B ≤ w5.heap.size := by omega
            clear hnil hqd hL0 HZ HT HM HBB HBW5 HKM5 HOK
            cases h1 : mayB p.c.wd p.c.we p.c.wx with
            | false =>
              have HF := Lib.hid (HFK.out (by rw [HMP.out, h1]; rfl))
              have H1 := Lib.hid h1
              clear h1
              go_wp2_with fail
              refine (tmay_any p.c.wd p.c.we p.c.wx _ _ w5 B hsB HT5.out).mono ?_
              rintro en w6 ⟨rfl, hb6⟩
              have HB6 := Lib.hid (HB5.out.trans (hb6.mono HB5.out.size))
              have HKP6 := Lib.hid (HKP5.out.below hb6 (by omega))
              have HM6 := Lib.hid (HM5.out.below (hb6.mono hsB))
              have HBB6 := Lib.hid (HBB5.out.below (hb6.mono hsB))
              have HT6 := Lib.hid (HT5.out.below (hb6.mono hsB))
              have HR6 := Lib.hid (HR5.out.below hb6)
              have hs6 := hb6.size
              clear hb6 m0 m1 m2
              rw [H1.out]
              dsimp only
              (try dsimp only)
              go_wp2
              go_ret
              exact ⟨by rw [HF.out]; rfl, HB2.out.trans (HB6.out.mono HB2.out.size)⟩
            | true =>
              have H1 := Lib.hid h1
              clear h1
              go_wp2_with fail
              refine (tmay_any p.c.wd p.c.we p.c.wx _ _ w5 B hsB HT5.out).mono ?_
              rintro en w6 ⟨rfl, hb6⟩
              have HB6 := Lib.hid (HB5.out.trans (hb6.mono HB5.out.size))
              have HKP6 := Lib.hid (HKP5.out.below hb6 (by omega))
              have HM6 := Lib.hid (HM5.out.below (hb6.mono hsB))
              have HBB6 := Lib.hid (HBB5.out.below (hb6.mono hsB))
              have HT6 := Lib.hid (HT5.out.below (hb6.mono hsB))
              have HR6 := Lib.hid (HR5.out.below hb6)
              have hs6 := hb6.size
              clear hb6 m0 m1 m2
              rw [H1.out]
              dsimp only
              have m4 := HKP6.out.cell 4
              have m5 := HKP6.out.cell 5
              have m6 := HKP6.out.cell 6
              simp only [List.getElem?_cons_zero, List.getElem?_cons_succ] at m4 m5 m6
              cases h2 : mayB p.c.bd p.c.be p.c.bx with
              | false =>
                have HF := Lib.hid (HFK.out (by rw [HMP.out, H1.out, h2]; rfl))
                have H2 := Lib.hid h2
                clear h2
                go_wp2_with fail
                refine (tmay_any p.c.bd p.c.be p.c.bx _ _ w6 B (by omega) HBB6.out).mono ?_
                rintro en w7 ⟨rfl, hb7⟩
                have HB7 := Lib.hid (HB6.out.trans (hb7.mono HB6.out.size))
                have HKP7 := Lib.hid (HKP6.out.below hb7 (by omega))
                have HM7 := Lib.hid (HM6.out.below (hb7.mono (by omega)))
                have HBB7 := Lib.hid (HBB6.out.below (hb7.mono (by omega)))
                have HT7 := Lib.hid (HT6.out.below (hb7.mono (by omega)))
                have HR7 := Lib.hid (HR6.out.below (hb7.mono hs6))
                have hs7 := hb7.size
                clear hb7 m4 m5 m6
                rw [H2.out]
                dsimp only
                (try dsimp only)
                go_wp2
                go_ret
                exact ⟨by rw [HF.out]; rfl, HB2.out.trans (HB7.out.mono HB2.out.size)⟩
              | true =>
                have H2 := Lib.hid h2
                clear h2
                go_wp2_with fail
                refine (tmay_any p.c.bd p.c.be p.c.bx _ _ w6 B (by omega) HBB6.out).mono ?_
                rintro en w7 ⟨rfl, hb7⟩
                have HB7 := Lib.hid (HB6.out.trans (hb7.mono HB6.out.size))
                have HKP7 := Lib.hid (HKP6.out.below hb7 (by omega))
                have HM7 := Lib.hid (HM6.out.below (hb7.mono (by omega)))
                have HBB7 := Lib.hid (HBB6.out.below (hb7.mono (by omega)))
                have HT7 := Lib.hid (HT6.out.below (hb7.mono (by omega)))
                have HR7 := Lib.hid (HR6.out.below (hb7.mono hs6))
                have hs7 := hb7.size
                clear hb7 m4 m5 m6
                rw [H2.out]
                dsimp only
                have m0 := HKP7.out.cell 0
                have m2 := HKP7.out.cell 2
                have m3 := HKP7.out.cell 3
                have m4 := HKP7.out.cell 4
                simp only [List.getElem?_cons_zero, List.getElem?_cons_succ] at m0 m2 m3 m4
                cases h3 : (p.c.wd == qd) with
                | false =>
                  have HF := Lib.hid (HFK.out (by rw [HMP.out, H1.out, H2.out, h3]; rfl))
                  have H3 := Lib.hid h3
                  have HB8 : Hid (∀ n, Below w2.heap.size w2 (w7.drewN n)) := Lib.hid (fun n => below_drewN HB7.out n)
                  clear h3
                  go_wp2_with fail
                  refine (ssame_any p.c.wd qd _ _ w7 _ _ HT7.out.d HR7.out).mono ?_
                  rintro en w8 ⟨rfl, d8, rfl⟩
                  rw [H3.out]
                  dsimp only
                  go_wp2
                  go_ret
                  exact ⟨by rw [HF.out]; rfl, HB2.out.trans ((HB8.out d8).mono HB2.out.size)⟩
                | true =>
                  have H3 := Lib.hid h3
                  clear h3
                  go_wp2_with fail
                  refine (ssame_any p.c.wd qd _ _ w7 _ _ HT7.out.d HR7.out).mono ?_
                  rintro en w8 ⟨rfl, d8, rfl⟩
                  rw [H3.out]
                  dsimp only
                  have HKP8 := Lib.hid (HKP7.out.drewN d8)
                  have HM8 := Lib.hid (HM7.out.drewN d8)
                  have HBB8 := Lib.hid (HBB7.out.below (below_drewN (Below.refl B w7) d8))
                  have HB8 := Lib.hid (below_drewN HB7.out d8)
                  have hs8 : w7.heap.size ≤ (w7.drewN d8).heap.size := Nat.le_refl _
                  clear m0 m2 m3 m4
                  generalize w7.drewN d8 = w8 at HKP8 HM8 HBB8 HB8 hs8 ⊢
                  have HBL := Lib.hid ((Below.refl w8.heap.size w8).alloc (Nat.le_refl _) (.cells #[.int .i64 qn] 3))
                  have HLI := Lib.hid (lit_reads (w1 := w8) (cs := [.int .i64 qn]) (e := [qn]) (n := 1) rfl rfl (by omega) rfl)
                  have HKP9 := Lib.hid (HKP8.out.alloc (.cells #[.int .i64 qn] 3))
                  have HM9 := Lib.hid (HM8.out.below (HBL.out.mono (by omega)))
                  have HBB9 := Lib.hid (HBB8.out.below (HBL.out.mono (by omega)))
                  have m4 := HKP8.out.cell 4
                  simp only [List.getElem?_cons_zero, List.getElem?_cons_succ] at m4
                  have n2 := HKP9.out.cell 2
                  have n3 := HKP9.out.cell 3
                  have n4 := HKP9.out.cell 4
                  simp only [List.getElem?_cons_zero, List.getElem?_cons_succ] at n2 n3 n4
                  cases h4 : (p.c.bd == [qn]) with
                  | false =>
                    have HF := Lib.hid (HFK.out (by rw [HMP.out, H1.out, H2.out, H3.out, h4]; rfl))
                    have H4 := Lib.hid h4
                    clear h4
                    go_wp2_with fail
                    refine (ssame_any p.c.bd [qn] _ _ _ _ _ HBB9.out.d HLI.out).mono ?_
                    rintro en w9 ⟨rfl, d9, rfl⟩
                    rw [H4.out]
                    dsimp only
                    have HB9 := Lib.hid (below_drewN (HB8.out.alloc (by have := HB8.out.size; omega) (.cells #[.int .i64 qn] 3)) d9)
                    (try dsimp only)
                    go_wp2
                    go_ret
                    exact ⟨by rw [HF.out]; rfl, HB2.out.trans (HB9.out.mono HB2.out.size)⟩
                  | true =>
                    have H4 := Lib.hid h4
                    clear h4
                    by_cases h5 : p.c.m.length = p.c.wx.length
                    · have t5 : ((p.c.m.length : Int) != (p.c.wx.length : Int)) = false := by simp; omega
                      have H5 := Lib.hid h5
                      clear h5
                      cases h6 : p.c.m.all inM with
                      | false =>
                          have HF := Lib.hid (HFK.out (by rw [HMP.out, H1.out, H2.out, H3.out, H4.out, H5.out, h6]; simp))
                          go_wp2_with fail
                          refine (ssame_any p.c.bd [qn] _ _ _ _ _ HBB9.out.d HLI.out).mono ?_
                          rintro en w9 ⟨rfl, d9, rfl⟩
                          rw [H4.out]
                          dsimp only
                          have HB9 := Lib.hid (below_drewN (HB8.out.alloc (by have := HB8.out.size; omega) (.cells #[.int .i64 qn] 3)) d9)
                          have n2' := (HKP9.out.drewN d9).cell 2
                          have n3' := (HKP9.out.drewN d9).cell 3
                          simp only [List.getElem?_cons_zero, List.getElem?_cons_succ] at n2' n3'
                          go_wp2_with fail
                          refine (conm_any p.c.m _ _ _ _ h6 (HM9.out.drewN d9)).mono ?_
                          rintro en w10 ⟨rfl, rfl⟩
                          (try dsimp only)
                          go_wp2
                          go_ret
                          exact ⟨by rw [HF.out]; rfl, HB2.out.trans (HB9.out.mono HB2.out.size)⟩
                        | true =>
                          have HTT : Hid (mayP1 (qd, qn) kd p.c = true) := Lib.hid (by rw [HMP.out, H1.out, H2.out, H3.out, H4.out, H5.out, h6]; simp)
                          go_wp2_with fail
                          refine (ssame_any p.c.bd [qn] _ _ _ _ _ HBB9.out.d HLI.out).mono ?_
                          rintro en w9 ⟨rfl, d9, rfl⟩
                          rw [H4.out]
                          dsimp only
                          have HB9 := Lib.hid (below_drewN (HB8.out.alloc (by have := HB8.out.size; omega) (.cells #[.int .i64 qn] 3)) d9)
                          have n2' := (HKP9.out.drewN d9).cell 2
                          have n3' := (HKP9.out.drewN d9).cell 3
                          simp only [List.getElem?_cons_zero, List.getElem?_cons_succ] at n2' n3'
                          go_wp2_with fail
                          refine (conm_any p.c.m _ _ _ _ h6 (HM9.out.drewN d9)).mono ?_
                          rintro en w10 ⟨rfl, rfl⟩
                          have HST2 : Hid (∀ j, j < k + 1 → mayAt a b c ls (ps.map (·.c)) j = true) := Lib.hid (fun j hj => by
                            rcases Nat.lt_or_ge j k with h1 | h1
                            · exact HST.out j h1
                            · obtain rfl : j = k := by omega
                              rw [HAT.out]
                              exact HTT.out)
                          (try dsimp only)
                          go_wp2_with fail
                          go_roundw
                          case rel => exact ⟨k + 1, by omega, by go_num, HST2, HB9⟩
                          case measure => simp [intOf]; omega
                    · have t5 : ((p.c.m.length : Int) != (p.c.wx.length : Int)) = true := by simp; omega
                      have HF := Lib.hid (HFK.out (by rw [HMP.out, H1.out, H2.out, H3.out, H4.out, decide_eq_false h5]; rfl))
                      clear h5
                      go_wp2_with fail
                      refine (ssame_any p.c.bd [qn] _ _ _ _ _ HBB9.out.d HLI.out).mono ?_
                      rintro en w9 ⟨rfl, d9, rfl⟩
                      rw [H4.out]
                      dsimp only
                      have HB9 := Lib.hid (below_drewN (HB8.out.alloc (by have := HB8.out.size; omega) (.cells #[.int .i64 qn] 3)) d9)
                      have n2' := (HKP9.out.drewN d9).cell 2
                      have n3' := (HKP9.out.drewN d9).cell 3
                      simp only [List.getElem?_cons_zero, List.getElem?_cons_succ] at n2' n3'
                      go_wp2
                      go_ret
                      exact ⟨by rw [HF.out]; rfl, HB2.out.trans (HB9.out.mono HB2.out.size)⟩
        · obtain rfl : k = ps.length := by omega
          have HF : Hid (mayPs a b c ls (ps.map (·.c)) = true) := Lib.hid (mayPs_true HSZ.out (by rw [List.length_map]; exact HPL.out) (fun j hj => HST.out j (by rw [List.length_map] at hj; exact hj)))
          go_wp2
          go_ret
          exact ⟨by rw [HF.out]; rfl, HB2.out.trans (HBR.out.mono HB2.out.size)⟩
    · have t0 : ((ps.length : Int) != (ls.length : Int)) = true := by simp; omega
      have HF : Hid (mayPs a b c ls (ps.map (·.c)) = false) := Lib.hid (by unfold mayPs; rw [List.length_map, decide_eq_false hpl]; simp)
      clear hpl
      go_enter Try.func26, Try.ntmps26
      go_wp2_with fail
      refine HC.out.mono ?_
      rintro en w2 ⟨A2, c2, rfl, hrows, hb2⟩
      have HB2 := Lib.hid (HB0.out.trans (hb2.mono (by omega)))
      have K2 := Lib.hid (KB.out.below hb2 hsz)
      have k3 := K2.out.cell 3
      simp only [List.getElem?_cons_zero, List.getElem?_cons_succ] at k3
      clear hb2 hrows
      dsimp only
      go_wp2
      go_ret
      exact ⟨by rw [HF.out]; rfl, HB2.out⟩
end Go.Proofs.Ytkileiikffomlaa
