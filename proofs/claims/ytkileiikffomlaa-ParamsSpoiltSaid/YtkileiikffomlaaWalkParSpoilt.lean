/- The walk of ParamsSpoilt. -/
import Derived.Test.YtkileiikffomlaaParAwake
import Derived.Test.YtkileiikffomlaaParFew
import Derived.Test.YtkileiikffomlaaParSpP
import Derived.Test.YtkileiikffomlaaOpenM
import Derived.Deep.CutBlock
import Derived.Deep.DeepCutAuto
namespace Go.Proofs.Ytkileiikffomlaa
open Go.RowKit
set_option linter.unusedVariables false
set_option linter.unusedSimpArgs false

theorem Reads.othersP {w : World} {B g o n c k : Nat} {xs : List Value} (h : Reads w B (.slice (some ⟨g, o, none⟩) n c) xs) (hk : k ≤ n) (o' : Nat) (ho : k < c → o' = o + k) : Reads w B (.slice (some ⟨g, o', none⟩) (n - k) (c - k)) (xs.drop k) := by
  obtain ⟨A, n', c', e, hl, hc, hm, hat⟩ := h
  injection e with e1 e2 e3
  subst e1 e2 e3
  refine ⟨_, _, _, rfl, by rw [List.length_drop]; omega, by omega, by omega, fun hn => ?_⟩
  obtain ⟨g', o2, e, hg, hx⟩ := hat.out (by omega)
  injection e with e
  injection e with e1 e2
  subst e1 e2
  refine ⟨_, _, rfl, hg, fun j u hu => ?_⟩
  rw [ho (by omega)]
  rw [List.getElem?_drop] at hu
  have := hx (k + j) u hu
  rw [← Nat.add_assoc] at this
  exact this
theorem ParsOf.takeP {w : World} {B n c k : Nat} {A : Option Addr} {ps : List ParV} (h : ParsOf w B (.slice A n c) ps) (hk : k ≤ ps.length) : ParsOf w B (.slice A k c) (ps.take k) := by
  obtain ⟨_, _, e⟩ := h.form
  injection e with _ e2 _
  refine ⟨?_, Lib.hid (fun p hp => h.ok.out p (List.mem_of_mem_take hp)), ⟨_, _, by rw [List.length_take, Nat.min_eq_left hk]⟩, by rw [List.length_take]; have := h.len; omega⟩
  have h2 := h.rd.take (k := k) (by omega)
  have e3 : (ps.take k).flatMap ParV.cells = (ps.flatMap ParV.cells).take (k * 7) := by
    have h3 := flat_takeD ParV.cells 7 ps (fun p _ => rfl) k hk
    conv => rhs; rw [← List.take_append_drop k ps, List.flatMap_append]
    rw [List.take_left' h3]
  rw [e3]
  exact h2
theorem u64wQ {n : Int} (h : (Lit.int .u64 n).wf = true) : 0 ≤ n ∧ n < 18446744073709551616 := by
  have hb : 0 ≤ n ∧ n ≤ 18446744073709551615 := by simpa [Lit.wf, IntKind.min, IntKind.max, IntKind.signed, IntKind.bits] using h
  omega
set_option maxHeartbeats 6400000 in
set_option maxRecDepth 100000 in
theorem paramsSpoilt_walk (v0 : Value) (a0 : NetV) (a1 a2 a3 : Int) (w : World) (o0 : NetOf w v0 a0) (w1 : (Lit.int .u64 a1).wf = true) (w2 : (Lit.int .i64 a2).wf = true) (w3 : (Lit.int .i64 a3).wf = true) :
    Calls Try.prog 10 #[v0, .int .u64 a1, .int .i64 a2, .int .i64 a3] w fun en w' => en = .returned (.bool true) ∧ Below w.heap.size w w' := by
  obtain ⟨a, b, c, lv, ls⟩ := a0
  obtain ⟨rfl, wa, wb, wc, hl⟩ := o0
  simp only at hl wa wb wc ⊢
  obtain ⟨A, cc, rfl⟩ := hl.form
  have hlen := hl.len
  obtain ⟨s0, s1⟩ := u64wQ w1
  have hb0 := net_one w (.cells #[.int .i64 a, .int .i64 b, .int .i64 c, .slice A ls.length cc] 25)
  have hsz : w.heap.size < (w.alloc (.cells #[.int .i64 a, .int .i64 b, .int .i64 c, .slice A ls.length cc] 25)).heap.size := by simp
  have KB := Lib.hid (Blk.fresh w 25 [.int .i64 a, .int .i64 b, .int .i64 c, .slice A ls.length cc])
  have HFEW := Lib.hid (few_any a b c _ ls (w.alloc (.cells #[.int .i64 a, .int .i64 b, .int .i64 c, .slice A ls.length cc] 25)) w.heap.size (by omega) (hl.below hb0))
  have HB0 := Lib.hid hb0
  have HL := Lib.hid hl
  clear hl hb0 wa wb wc w1 w2 w3
  go_enter Try.func10, Try.ntmps10
  go_wp2_with fail
  refine HFEW.out.mono ?_
  rintro en w2 ⟨⟨r, rfl⟩, hb2⟩
  have HB2 := Lib.hid (HB0.out.trans (hb2.mono (by omega)))
  have K2 := Lib.hid (KB.out.below hb2 hsz)
  have hw2 := K2.out.lt
  clear hb2 HB0 KB HFEW hsz
  dsimp only
  cases r with
  | false =>
    go_wp2_with fail
    refine (awake17_any _).mono ?_
    rintro en wd ⟨rfl, hb4⟩
    have HB4 := Lib.hid (HB2.out.trans (hb4.mono HB2.out.size))
    clear hb4
    dsimp only
    go_wp2
    go_ret
    exact ⟨rfl, HB4.out⟩
  | true =>
    have HI1 := Lib.hid (init_any a b c _ ls a1 w2 w.heap.size HB2.out.size (HL.out.below HB2.out) s0 s1)
    have k0 := K2.out.cell 0
    have k1 := K2.out.cell 1
    have k2 := K2.out.cell 2
    have k3 := K2.out.cell 3
    simp only [List.getElem?_cons_zero, List.getElem?_cons_succ] at k0 k1 k2 k3
    go_wp2_with fail
    refine HI1.out.mono ?_
    clear HI1 k0 k1 k2 k3
    rintro en w3 ⟨hb3, ⟨hne, rfl⟩ | ⟨he, ps, Ap, cp, rfl, hm, hps, hpl, h12⟩⟩
    · have HB3 := Lib.hid (HB2.out.trans (hb3.mono HB2.out.size))
      have HNE := Lib.hid hne
      clear hb3 hne
      have t1 : (initE a b c ls a1 == 0) = false := by simpa using HNE.out
      have t1' : (initE a b c ls a1 != 0) = true := by simpa using HNE.out
      generalize initE a b c ls a1 = e at t1 t1' HNE ⊢
      dsimp only
      go_wp2_with fail
      refine (awake17_any _).mono ?_
      rintro en wd ⟨rfl, hb5⟩
      have HB5 := Lib.hid (HB3.out.trans (hb5.mono HB3.out.size))
      clear hb5
      dsimp only
      go_wp2
      go_ret
      exact ⟨rfl, HB5.out⟩
    · have HB3 := Lib.hid (HB2.out.trans (hb3.mono HB2.out.size))
      have K3 := Lib.hid (K2.out.below hb3 hw2)
      have hw3 := K3.out.lt
      have hp1 : 1 ≤ ps.length := by have := (shapes_pos (initE_zero he).1).1; omega
      have hp12 : ps.length ≤ 12 := by omega
      have HMP : Hid (mayPs a b c ls (ps.map (·.c)) = true) := Lib.hid (by rw [hm]; exact init_may he)
      have HPS := Lib.hid hps
      have HPL := Lib.hid hpl
      have HMY := Lib.hid (pmay_any a b c _ _ ls ps w3 w3.heap.size (Nat.le_refl _) ((HL.out.below HB3.out).more HB3.out.size) hps true HMP.out)
      have tp : ((ps.length : Int) == 0) = false := by rw [beq_eq_false_iff_ne]; omega
      have k0 := K3.out.cell 0
      have k1 := K3.out.cell 1
      have k2 := K3.out.cell 2
      have k3 := K3.out.cell 3
      simp only [List.getElem?_cons_zero, List.getElem?_cons_succ] at k0 k1 k2 k3
      clear hb3 he hm hps hpl
      dsimp only
      go_wp2_with fail
      refine HMY.out.mono ?_
      clear HMY k0 k1 k2 k3
      rintro en w4 ⟨rfl, hb4⟩
      have HB4 := Lib.hid (HB3.out.trans (hb4.mono HB3.out.size))
      have K4 := Lib.hid (K3.out.below hb4 hw3)
      have hw4 := K4.out.lt
      have HP4 := Lib.hid ((HPS.out.below hb4).more hb4.size)
      obtain ⟨j, hj, hjn⟩ := mod_ltP a2 (ps.length : Int) (by omega) (by omega)
      have u1 : (IntKind.u64.wrap (ps.length : Int)) = (ps.length : Int) := by rw [IntKind.wrap_u64]; omega
      have L4 : Hid ((ps.flatMap ParV.cells).length = ps.length * 7) := Lib.hid (flat_length ParV.cells 7 ps (fun p _ => rfl))
      have O4 := Lib.hid (pars_one HP4.out)
      clear hb4 K3 HPS HB3 HB2 K2
      dsimp only
      go_upto_region 7 with fail
      rw [hj]
      clear hj tp
      go_upto_region 8 with (at_builtin; refine wpList_extendN elem_par _ rfl (.tmp 49) (.tmp 50) rfl w4.heap.size 0 _ [] rfl (own_emptyP _ _ _ 7 _ rfl (Nat.le_refl _)) w4.heap.size ps.length _ (ps.flatMap ParV.cells) rfl (HP4.out.rd.alloc (Nat.le_refl _) _) L4.out O4.out (by unfold maxLen; omega) (by omega) (by rw [World.size_alloc]; omega) ?_; intro A5 c5 w5 hown5 hg5 hf5; simp only [Nat.zero_add, List.nil_append] at hown5 ⊢)
      have hb5 : Below w4.heap.size w4 w5 := ((Below.refl _ w4).alloc (Nat.le_refl _) _).grown hg5 (by rw [World.size_alloc]; omega) (fun k hk => by have hk2 := Option.some.inj hk; dsimp only at hk2; omega)
      have HB5 := Lib.hid (HB4.out.trans (hb5.mono HB4.out.size))
      have K5 := Lib.hid (K4.out.below hb5 hw4)
      have HP5 := Lib.hid (HP4.out.below hb5)
      obtain ⟨g, c9, _, e9, hg, _⟩ := own_blkN hown5 (by omega)
      injection e9 with e9 _ e10
      subst e9 e10
      have OW := Lib.hid hown5
      have hs5 := hb5.size
      clear hb5 hown5 hg5 hf5 K4 HP4 L4 O4
      obtain ⟨x, hx⟩ : ∃ x, ps[j]? = some x := ⟨ps[j]'(by omega), List.getElem?_eq_getElem (by omega)⟩
      obtain ⟨l, hll⟩ : ∃ l, ls[j]? = some l := ⟨ls[j]'(by have := HPL.out; omega), List.getElem?_eq_getElem (by have := HPL.out; omega)⟩
      obtain ⟨rc, rf, lg, _, gc⟩ := row_atP OW.out rfl hx
      have q0 := rc 0 (by omega)
      have q1 := rc 1 (by omega)
      have q2 := rc 2 (by omega)
      have q3 := rc 3 (by omega)
      have q4 := rc 4 (by omega)
      have q5 := rc 5 (by omega)
      have q6 := rc 6 (by omega)
      have HX := Lib.hid hx
      have HLL := Lib.hid hll
      have oX := HP5.out.ok.out x (List.mem_of_getElem? hx)
      have H1 : Hid (mayP1 (pdimsI a b c ls ((j : Int) + 1)) l.kind x.c = true) := Lib.hid (by
        have h := (mayPs_parts HMP.out).2.2 j (by rw [List.length_map]; omega)
        rw [mayAt_at hll hx] at h
        exact h)
      obtain ⟨qq, hqq⟩ : ∃ qq, pdimsI a b c ls ((j : Int) + 1) = qq := ⟨_, rfl⟩
      have HQQ := Lib.hid hqq
      rw [hqq] at H1
      obtain ⟨pwd, pwx, pmv, pbd, pbx, pc⟩ := x
      obtain ⟨A1, c1, A2, c2, f1, f2⟩ := oX.t.form
      obtain ⟨A3, c3, f3, _, _⟩ := oX.m.form
      obtain ⟨A4, c4, Ab, cb, f4, f5⟩ := oX.b.form
      rw [length_ints] at f3
      dsimp only at f1 f2 f3 f4 f5 H1
      subst f1 f2 f3 f4 f5
      have OX := Lib.hid oX
      simp only [ParV.cells, List.getElem?_cons_zero, List.getElem?_cons_succ, Nat.add_zero] at q0 q1 q2 q3 q4 q5 q6
      have i1 : (0 : Int) ≤ (j : Int) := by omega
      clear hx hll hqq oX rc rf
      go_upto_if 60 with fail
      clear q0 q1 q2 q3 q4 q5 q6
      obtain ⟨h, hh⟩ : ∃ h, (IntKind.u64.wrap a3).tmod 5 = h := ⟨_, rfl⟩
      obtain ⟨b1, b2, b3, b4, b5⟩ := may_small H1.out
      have hbX := (Below.refl w5.heap.size w5).alloc (Nat.le_refl _) (.cells #[.slice A1 pc.wd.length c1, .int .i64 pc.we, .slice A2 pc.wx.length c2, .slice A3 pc.m.length c3, .slice A4 pc.bd.length c4, .int .i64 pc.be, .slice Ab pc.bx.length cb] 60)
      have XI : Hid (∀ W, Below w5.heap.size w5 W → ParV.In (fun i => i ≠ g) W ⟨.slice A1 pc.wd.length c1, .slice A2 pc.wx.length c2, .slice A3 pc.m.length c3, .slice A4 pc.bd.length c4, .slice Ab pc.bx.length cb, pc⟩) := Lib.hid (fun W hW => (OX.out.below (hW.mono (by omega))).ins (by have := hW.size; omega) (fun i hi => by omega))
      go_cut [60] (fun s wx => TurnedP qq l.kind w5 g w5.heap.size wx)
      case first =>
        have R3 := OX.out.m
        have R0 := OX.out.t.d
        have R2 := OX.out.t.x
        dsimp only at R3 R0 R2
        have R3 := Lib.hid R3
        have R0 := Lib.hid R0
        have R2 := Lib.hid R2
        have HKX := Lib.hid (Blk.fresh w5 60 [.slice A1 pc.wd.length c1, .int .i64 pc.we, .slice A2 pc.wx.length c2, .slice A3 pc.m.length c3, .slice A4 pc.bd.length c4, .int .i64 pc.be, .slice Ab pc.bx.length cb])
        have hs6 : w5.heap.size < (w5.alloc (.cells #[.slice A1 pc.wd.length c1, .int .i64 pc.we, .slice A2 pc.wx.length c2, .slice A3 pc.m.length c3, .slice A4 pc.bd.length c4, .int .i64 pc.be, .slice Ab pc.bx.length cb] 60)).heap.size := by simp
        have HBX := Lib.hid hbX
        have m0 := HKX.out.cell 0
        have m1 := HKX.out.cell 1
        have m2 := HKX.out.cell 2
        have m3 := HKX.out.cell 3
        have m4 := HKX.out.cell 4
        have m5 := HKX.out.cell 5
        have m6 := HKX.out.cell 6
        simp only [List.getElem?_cons_zero, List.getElem?_cons_succ] at m0 m1 m2 m3 m4 m5 m6
        have f0 := HKX.out.free 0
        have f1 := HKX.out.free 1
        have f2 := HKX.out.free 2
        have f3 := HKX.out.free 3
        have f4 := HKX.out.free 4
        have f5 := HKX.out.free 5
        have f6 := HKX.out.free 6
        have R36 := Lib.hid (R3.out.below (hbX.mono (by omega)))
        have R06 := Lib.hid (R0.out.below (hbX.mono (by omega)))
        have R26 := Lib.hid (R2.out.below (hbX.mono (by omega)))
        clear hbX R3 R0 R2
        generalize (w5.alloc (.cells #[.slice A1 pc.wd.length c1, .int .i64 pc.we, .slice A2 pc.wx.length c2, .slice A3 pc.m.length c3, .slice A4 pc.bd.length c4, .int .i64 pc.be, .slice Ab pc.bx.length cb] 60)) = w6 at HKX HBX hs6 m0 m1 m2 m3 m4 m5 m6 f0 f1 f2 f3 f4 f5 f6 R36 R06 R26 ⊢
        by_cases hw : pc.wx.length = 0
        · obtain ⟨hz, hbad⟩ := spoil_zero H1.out hw
          have HZ := Lib.hid hz
          have HBAD := Lib.hid hbad
          have tw : ((pc.wx.length : Int) == 0) = true := by rw [beq_iff_eq]; omega
          have HW := Lib.hid hw
          clear hz hbad hw
          go_wp2_with fail
          have hk := (HKX.out.put 3 (.slice (some ⟨w6.heap.size, 0, none⟩) 1 1)).alloc (.cells #[.int .i32 0] 21)
          have hW : Below w5.heap.size w5 ((w6.setCell ⟨w5.heap.size, 3, none⟩ (.slice (some ⟨w6.heap.size, 0, none⟩) 1 1)).alloc (.cells #[.int .i32 0] 21)) := (HBX.out.setCell (p := ⟨w5.heap.size, 3, none⟩) (Nat.le_refl _) _).alloc (by simp; omega) _
          have hr := Blk.fresh (w6.setCell ⟨w5.heap.size, 3, none⟩ (.slice (some ⟨w6.heap.size, 0, none⟩) 1 1)) 21 [.int .i32 0]
          have hsz6 : (w6.setCell ⟨w5.heap.size, 3, none⟩ (.slice (some ⟨w6.heap.size, 0, none⟩) 1 1)).heap.size = w6.heap.size := by simp
          rw [hsz6] at hr
          clear hsz6
          simp only [List.set_cons_succ, List.set_cons_zero] at hk
          have HI := Lib.hid ((XI.out _ hW).setM (RowS.of_blk (n := 1) hr rfl (by unfold maxLen; omega) (by omega)) (m := [0]) (by intro x hx; simp at hx; omega) (by unfold lenP; simp only [List.length_cons, List.length_nil]; omega))
          go_meet
          case rel => exact ⟨hW, A1, c1, A2, c2, _, 1, A4, c4, Ab, cb, { pc with m := [0] }, hk, by rw [HZ.out]; exact HBAD.out, HI.out⟩
        · have tw : ((pc.wx.length : Int) == 0) = false := by rw [beq_eq_false_iff_ne]; omega
          have HW := Lib.hid hw
          go_upto_region 13 with fail
          (try rw [hh])
          clear tw hh
          by_cases h0 : h = 0
          · subst h0
            have HBAD := Lib.hid (spoil_m H1.out hw)
            clear hw
            go_wp2_with (first
              | (at_builtin; refine wpList_extend elem_i32z _ rfl (.tmp 69) (.tmp 71) rfl w6.heap.size 0 _ [] rfl (own_emptyP _ _ _ 1 _ rfl (Nat.le_refl _)) w4.heap.size _ (ints .i32 pc.m) rfl (R36.out.alloc (by omega) _) (ints_one _ _) (by rw [length_ints]; unfold maxLen; omega) (by rw [length_ints]; omega) (by rw [World.size_alloc]; omega) ?_; intro A8 c8 w8 hown8 hg8 hf8; simp only [length_ints, Nat.zero_add, List.nil_append] at hown8 ⊢; have hk8 := (HKX.out.alloc (.cells #[] 21)).grown hg8 (by intro he; have := Option.some.inj he; dsimp only at this; omega))
              | (at_builtin; refine wpList_extend elem_i32z _ rfl (.tmp 72) (.tmp 73) rfl w6.heap.size pc.m.length _ _ rfl (hown8.alloc _) _ _ [.int .i32 0] rfl (Reads.one_ w8 _ _) (by simp [Value.oneCell']) (by simp only [List.length_cons, List.length_nil, maxLen]; omega) (by simp only [List.length_cons, List.length_nil]; omega) (by have := hg8.size; rw [World.size_alloc] at this; rw [World.size_alloc]; omega) ?_; intro A9 c9 w9 hown9 hg9 hf9; simp only [List.length_cons, List.length_nil, Nat.zero_add] at hown9 ⊢; have hk9 := (hk8.alloc (.cells #[.int .i32 0] 21)).grown hg9 (by intro he; have := (hown8.lt _ he.symm).1; omega); have q9 := hk9.cell 3; have f9 := hk9.free 3; have l9 := hk9.lt; simp only [List.getElem?_cons_zero, List.getElem?_cons_succ] at q9))
            have hl9 := fun k hk => (hown8.lt k hk).1
            have e9 : ints .i32 pc.m ++ [.int .i32 0] = ints .i32 (pc.m ++ [0]) := by rw [← ints_append]; rfl
            rw [e9] at hown9
            have hb8 := (HBX.out.alloc (by omega) (.cells #[] 21)).grown hg8 (by rw [World.size_alloc]; omega) (fun k hk => by have hk2 := Option.some.inj hk; dsimp only at hk2; omega)
            have hW := ((hb8.alloc hb8.size (.cells #[.int .i32 0] 21)).grown hg9 (by rw [World.size_alloc]; have := hb8.size; omega) (fun k hk => by have := hl9 k hk; omega)).setCell (p := ⟨w5.heap.size, 3, none⟩) (Nat.le_refl _) (.slice A9 (pc.m.length + 1) c9)
            have hk := hk9.put 3 (.slice A9 (pc.m.length + 1) c9)
            have ow9 := own_off hown9 ((Off.refl (fun i => i = w5.heap.size) w9).setCell (p := ⟨w5.heap.size, 3, none⟩) (.inl rfl) (.slice A9 (pc.m.length + 1) c9)) (fun k hk => by have := (hown9.lt k hk).1; omega)
            simp only [List.set_cons_succ, List.set_cons_zero] at hk
            have e8 : (pc.m ++ [(0 : Int)]).length = pc.m.length + 1 := by simp
            have HI := Lib.hid ((XI.out _ hW).setM (m := pc.m ++ [0]) (RowS.of_own ow9 (fun k hk => by have := (ow9.lt k hk).1; omega)) (by intro x hx; rcases List.mem_append.1 hx with hx | hx; exact OX.out.mb.out x hx; simp at hx; omega) (by unfold lenP; simp only [e8]; omega))
            go_meet
            case rel => exact ⟨hW, A1, c1, A2, c2, A9, c9, A4, c4, Ab, cb, { pc with m := pc.m ++ [0] }, by simp only [e8]; exact hk, HBAD.out, by simp only [e8]; exact HI.out⟩
          · have t0 : (h == 0) = false := by simpa using h0
            clear h0
            by_cases h1 : h = 1
            · subst h1
              have HBAD := Lib.hid (spoil_wd H1.out hw)
              clear hw t0
              go_wp2_with (at_builtin; refine wpList_extend elem_int _ rfl (.tmp 78) (.tmp 81) rfl w6.heap.size 1 _ [.int .i64 1] rfl (own_oneP _ _ _ _ _ rfl (Nat.le_refl _)) w4.heap.size _ (ints .i64 pc.wd) rfl (R06.out.alloc (by omega) _) (ints_one _ _) (by rw [length_ints]; unfold maxLen; omega) (by rw [length_ints]; omega) (by rw [World.size_alloc]; omega) ?_; intro A8 c8 w8 hown8 hg8 hf8; simp only [length_ints] at hown8 ⊢; have hk8 := (HKX.out.alloc (.cells #[.int .i64 1] 3)).grown hg8 (by intro he; have := Option.some.inj he; dsimp only at this; omega); have q9 := hk8.cell 0; have f9 := hk8.free 0; have l9 := hk8.lt; simp only [List.getElem?_cons_zero, List.getElem?_cons_succ] at q9)
              have e9 : [Value.int .i64 1] ++ ints .i64 pc.wd = ints .i64 (1 :: pc.wd) := rfl
              rw [e9] at hown8
              have hW := ((HBX.out.alloc (by omega) (.cells #[.int .i64 1] 3)).grown hg8 (by rw [World.size_alloc]; omega) (fun k hk => by have hk2 := Option.some.inj hk; dsimp only at hk2; omega)).setCell (p := ⟨w5.heap.size, 0, none⟩) (Nat.le_refl _) (.slice A8 (1 + pc.wd.length) c8)
              have hk := hk8.put 0 (.slice A8 (1 + pc.wd.length) c8)
              have ow9 := own_off hown8 ((Off.refl (fun i => i = w5.heap.size) w8).setCell (p := ⟨w5.heap.size, 0, none⟩) (.inl rfl) (.slice A8 (1 + pc.wd.length) c8)) (fun k hk => by have := (hown8.lt k hk).1; omega)
              simp only [List.set_cons_succ, List.set_cons_zero] at hk
              have e8 : (1 :: pc.wd : List Int).length = 1 + pc.wd.length := by rw [List.length_cons]; omega
              have HI := Lib.hid ((XI.out _ hW).setD (m := 1 :: pc.wd) (RowS.of_own ow9 (fun k hk => by have := (ow9.lt k hk).1; omega)) (by intro x hx; rcases List.mem_cons.1 hx with rfl | hx; omega; exact OX.out.t.db.out x hx) (by unfold lenP; simp only [e8]; omega))
              go_meet
              case rel => exact ⟨hW, A8, c8, A2, c2, A3, c3, A4, c4, Ab, cb, { pc with wd := 1 :: pc.wd }, by simp only [e8]; exact hk, HBAD.out, by simp only [e8]; exact HI.out⟩
            · have t1 : (h == 1) = false := by simpa using h1
              clear h1
              by_cases h2 : h = 2
              · subst h2
                have HBAD := Lib.hid (spoil_wx H1.out hw)
                have hl3 : 0 < pc.wx.length := by omega
                clear hw t0 t1
                have hR := R26.out
                obtain ⟨_, _, _, eA, hR1, hR2, _, hat⟩ := hR
                injection eA with eA1 eA2 eA3
                subst eA1 eA2 eA3
                obtain ⟨ga, oa, rfl, hga, _⟩ := hat.out hl3
                clear hat
                have RT : Hid (∀ o', (1 < c2 → o' = oa + 1) → Reads w6 w4.heap.size (.slice (some ⟨ga, o', none⟩) (pc.wx.length - 1) (c2 - 1)) (ints .i8 (pc.wx.drop 1))) := Lib.hid (fun o' ho => by
                  have := Reads.othersP R26.out (k := 1) hl3 o' ho
                  unfold ints at this ⊢
                  rwa [List.map_drop])
                have hcl := hR2
                by_cases hc1 : c2 = 1
                · obtain rfl : c2 = 1 := hc1
                  have hz : pc.wx.length - 1 = 0 := by omega
                  have hz1 : pc.wx.length = 1 := by omega
                  have RT0 := RT.out oa (fun ho => by omega)
                  rw [hz] at RT0
                  have HZ := Lib.hid hz
                  have HZ1 := Lib.hid hz1
                  have RT1 := Lib.hid RT0
                  clear hz hz1 RT0
                  go_wp2_with (at_builtin; refine wpList_extend elem_i8z _ rfl (.tmp 87) (.tmp 91) rfl w6.heap.size 1 _ [.int .i8 (-128)] rfl (own_oneP _ _ _ _ _ rfl (Nat.le_refl _)) w4.heap.size _ (ints .i8 (pc.wx.drop 1)) rfl (RT1.out.alloc (by omega) _) (ints_one _ _) (by rw [length_ints, List.length_drop]; unfold maxLen; omega) (by rw [length_ints, List.length_drop]; omega) (by rw [World.size_alloc]; omega) ?_; intro A8 c8 w8 hown8 hg8 hf8; simp only [length_ints, List.length_drop, HZ.out, Nat.add_zero] at hown8 ⊢; have hk8 := (HKX.out.alloc (.cells #[.int .i8 (-128)] 61)).grown hg8 (by intro he; have := Option.some.inj he; dsimp only at this; omega); have q9 := hk8.cell 2; have f9 := hk8.free 2; have l9 := hk8.lt; simp only [List.getElem?_cons_zero, List.getElem?_cons_succ] at q9)
                  have e9 : [Value.int .i8 (-128)] ++ ints .i8 (pc.wx.drop 1) = ints .i8 (-128 :: pc.wx.drop 1) := rfl
                  rw [e9] at hown8
                  have hW := ((HBX.out.alloc (by omega) (.cells #[.int .i8 (-128)] 61)).grown hg8 (by rw [World.size_alloc]; omega) (fun k hk => by have hk2 := Option.some.inj hk; dsimp only at hk2; omega)).setCell (p := ⟨w5.heap.size, 2, none⟩) (Nat.le_refl _) (.slice A8 1 c8)
                  have hk := hk8.put 2 (.slice A8 1 c8)
                  have ow9 := own_off hown8 ((Off.refl (fun i => i = w5.heap.size) w8).setCell (p := ⟨w5.heap.size, 2, none⟩) (.inl rfl) (.slice A8 1 c8)) (fun k hk => by have := (hown8.lt k hk).1; omega)
                  simp only [List.set_cons_succ, List.set_cons_zero] at hk
                  have e8 : (-128 :: pc.wx.drop 1 : List Int).length = 1 := by rw [List.length_cons, List.length_drop, HZ.out]
                  have HI := Lib.hid ((XI.out _ hW).setX (m := -128 :: pc.wx.drop 1) (RowS.of_own ow9 (fun k hk => by have := (ow9.lt k hk).1; omega)) (by intro x hx; rcases List.mem_cons.1 hx with rfl | hx; omega; exact OX.out.t.xb.out x (List.mem_of_mem_drop hx)) (by unfold lenP; simp only [e8]; omega))
                  go_meet
                  case rel => exact ⟨hW, A1, c1, A8, c8, A3, c3, A4, c4, Ab, cb, { pc with wx := -128 :: pc.wx.drop 1 }, by simp only [e8]; exact hk, HBAD.out, by simp only [e8]; exact HI.out⟩
                · go_wp2_with (at_builtin; refine wpList_extend elem_i8z _ rfl (.tmp 87) (.tmp 91) rfl w6.heap.size 1 _ [.int .i8 (-128)] rfl (own_oneP _ _ _ _ _ rfl (Nat.le_refl _)) w4.heap.size _ (ints .i8 (pc.wx.drop 1)) rfl ((RT.out (oa + 1) (fun _ => rfl)).alloc (by omega) _) (ints_one _ _) (by rw [length_ints, List.length_drop]; unfold maxLen; omega) (by rw [length_ints, List.length_drop]; omega) (by rw [World.size_alloc]; omega) ?_; intro A8 c8 w8 hown8 hg8 hf8; simp only [length_ints, List.length_drop] at hown8 ⊢; have hk8 := (HKX.out.alloc (.cells #[.int .i8 (-128)] 61)).grown hg8 (by intro he; have := Option.some.inj he; dsimp only at this; omega); have q9 := hk8.cell 2; have f9 := hk8.free 2; have l9 := hk8.lt; simp only [List.getElem?_cons_zero, List.getElem?_cons_succ] at q9)
                  have e9 : [Value.int .i8 (-128)] ++ ints .i8 (pc.wx.drop 1) = ints .i8 (-128 :: pc.wx.drop 1) := rfl
                  rw [e9] at hown8
                  have hW := ((HBX.out.alloc (by omega) (.cells #[.int .i8 (-128)] 61)).grown hg8 (by rw [World.size_alloc]; omega) (fun k hk => by have hk2 := Option.some.inj hk; dsimp only at hk2; omega)).setCell (p := ⟨w5.heap.size, 2, none⟩) (Nat.le_refl _) (.slice A8 (1 + (pc.wx.length - 1)) c8)
                  have hk := hk8.put 2 (.slice A8 (1 + (pc.wx.length - 1)) c8)
                  have ow9 := own_off hown8 ((Off.refl (fun i => i = w5.heap.size) w8).setCell (p := ⟨w5.heap.size, 2, none⟩) (.inl rfl) (.slice A8 (1 + (pc.wx.length - 1)) c8)) (fun k hk => by have := (hown8.lt k hk).1; omega)
                  simp only [List.set_cons_succ, List.set_cons_zero] at hk
                  have e8 : (-128 :: pc.wx.drop 1 : List Int).length = (1 + (pc.wx.length - 1)) := by rw [List.length_cons, List.length_drop]; omega
                  have HI := Lib.hid ((XI.out _ hW).setX (m := -128 :: pc.wx.drop 1) (RowS.of_own ow9 (fun k hk => by have := (ow9.lt k hk).1; omega)) (by intro x hx; rcases List.mem_cons.1 hx with rfl | hx; omega; exact OX.out.t.xb.out x (List.mem_of_mem_drop hx)) (by unfold lenP; simp only [e8]; omega))
                  go_meet
                  case rel => exact ⟨hW, A1, c1, A8, c8, A3, c3, A4, c4, Ab, cb, { pc with wx := -128 :: pc.wx.drop 1 }, by simp only [e8]; exact hk, HBAD.out, by simp only [e8]; exact HI.out⟩
              · have t2 : (h == 2) = false := by simpa using h2
                clear h2
                by_cases h3 : h = 3
                · subst h3
                  obtain ⟨nb, hnb⟩ : ∃ nb, nb = pc.bx.length + 1 := ⟨_, rfl⟩
                  have enb : (pc.bx.length : Int) + 1 = (nb : Int) := by omega
                  have HBAD : Hid (mayP1 qq l.kind { pc with bd := [(nb : Int)], be := 0, bx := List.replicate nb 0 } = false) := Lib.hid (by rw [← enb]; exact spoil_b H1.out hw 0 _)
                  clear hw
                  have e20 : IntKind.i64.wrap ((pc.bx.length : Int) + 1) = (nb : Int) := by rw [IntWalk.i64_in _ (by omega)]; exact enb
                  have n0 : (0 : Int) ≤ (nb : Int) := by omega
                  have nx : nb ≤ 8193 := by omega
                  have HNB := Lib.hid hnb
                  clear hnb enb
                  have hmk : ∀ W : World, (Instr.makeSlice 55 (.int .i64 (nb : Int)) (.int .i64 (nb : Int))).run Try.prog W = .ok (.slice (some ⟨W.heap.size, 0, none⟩) nb nb) (W.alloc (.cells (zerosA (.int .i8 0) nb) 61)) := by
                    intro W
                    obtain ⟨i, hi, hz, hs, hb2⟩ := info_parts elem_i8z.info
                    exact run_make1 55 61 i _ elem_i8z.und hi hz hs rfl .i64 .i64 nb (by rw [hb2]; omega) (by omega) W
                  go_upto_region 20 with fail
                  refine wp_region_held_drew (S := (fun _ => True)) (by kernel_rfl) (trivial) (fun hHeld => ?_)
                  refine' wpAnyH_take (i := 0) (v := _) rfl (by kernel_rfl) (by kernel_rfl) (by kernel_rfl) (fun _ _ _ h => h) (Or.inl ⟨by rfl, ?taq1⟩) (by assumption) ?tbq1
                  case taq1 =>
                    intro wS hSw
                    (try dsimp only at hSw)
                    go_simp
                    (try (with_reducible rfl))
                  (try simp only [List.getElem_toArray, List.getElem_cons_zero, List.getElem_cons_succ, Act.put, List.setIfInBounds_toArray, List.set_cons_zero, List.set_cons_succ])
                  refine' wpAnyH_take (i := 1) (v := _) rfl (by kernel_rfl) (by kernel_rfl) (by kernel_rfl) (fun _ _ _ h => h) (Or.inl ⟨by rfl, ?taq2⟩) (by assumption) ?tbq2
                  case taq2 =>
                    intro wS hSw
                    (try dsimp only at hSw)
                    go_simp
                    (try (with_reducible rfl))
                  (try simp only [List.getElem_toArray, List.getElem_cons_zero, List.getElem_cons_succ, Act.put, List.setIfInBounds_toArray, List.set_cons_zero, List.set_cons_succ])
                  refine' wpAnyH_take (i := 6) (v := _) rfl (by kernel_rfl) (by kernel_rfl) (by kernel_rfl) (fun _ _ _ h => h) (Or.inl ⟨by rfl, ?taq3⟩) (by assumption) ?tbq3
                  case taq3 =>
                    intro wS hSw
                    (try dsimp only at hSw)
                    go_simp
                    (try (with_reducible rfl))
                  (try simp only [List.getElem_toArray, List.getElem_cons_zero, List.getElem_cons_succ, Act.put, List.setIfInBounds_toArray, List.set_cons_zero, List.set_cons_succ])
                  refine' wpAnyH_take (i := 7) (v := _) rfl (by kernel_rfl) (by kernel_rfl) (by kernel_rfl) (fun _ _ _ h => h) (Or.inl ⟨by rfl, ?taq4⟩) (by assumption) ?tbq4
                  case taq4 =>
                    intro wS hSw
                    (try dsimp only at hSw)
                    go_simp
                    (try (with_reducible rfl))
                  (try simp only [List.getElem_toArray, List.getElem_cons_zero, List.getElem_cons_succ, Act.put, List.setIfInBounds_toArray, List.set_cons_zero, List.set_cons_succ])
                  refine wpAnyH_ready (rs := [2, 8]) (by kernel_rfl) (by simp) ?_
                  refine AllReadyH.cons rfl (fun K9 hK9 => ?_) (AllReadyH.cons rfl (fun K9 hK9 => ?_) AllReadyH.nil)
                  ·
                    (try simp only [List.getElem_toArray, List.getElem_cons_zero, List.getElem_cons_succ])
                    go_simp
                    refine hK9.out _ _ (trivial) (fun hHeld9 => ?_)
                    clear hK9 K9
                    (try simp only [List.getElem_toArray, List.getElem_cons_zero, List.getElem_cons_succ, Act.put, List.setIfInBounds_toArray, List.set_cons_zero, List.set_cons_succ])
                    refine' wpAnyH_take (i := 3) (v := _) rfl (by kernel_rfl) (by kernel_rfl) (by kernel_rfl) (fun _ _ _ h => h) (Or.inl ⟨by rfl, ?taq5⟩) (by assumption) ?tbq5
                    case taq5 =>
                      intro wS hSw
                      (try dsimp only at hSw)
                      go_simp
                      (try (with_reducible rfl))
                    (try simp only [List.getElem_toArray, List.getElem_cons_zero, List.getElem_cons_succ, Act.put, List.setIfInBounds_toArray, List.set_cons_zero, List.set_cons_succ])
                    refine' wpAnyH_take (i := 4) (v := _) rfl (by kernel_rfl) (by kernel_rfl) (by kernel_rfl) (fun _ _ _ h => h) (Or.inl ⟨by rfl, ?taq6⟩) (by assumption) ?tbq6
                    case taq6 =>
                      intro wS hSw
                      (try dsimp only at hSw)
                      go_simp
                      (try (with_reducible rfl))
                    (try simp only [List.getElem_toArray, List.getElem_cons_zero, List.getElem_cons_succ, Act.put, List.setIfInBounds_toArray, List.set_cons_zero, List.set_cons_succ])
                    refine wpAnyH_ready (rs := [5, 8]) (by kernel_rfl) (by simp) ?_
                    refine AllReadyH.cons rfl (fun K9 hK9 => ?_) (AllReadyH.cons rfl (fun K9 hK9 => ?_) AllReadyH.nil)
                    ·
                      (try simp only [List.getElem_toArray, List.getElem_cons_zero, List.getElem_cons_succ])
                      go_simp
                      refine hK9.out _ _ (trivial) (fun hHeld9 => ?_)
                      clear hK9 K9
                      (try simp only [List.getElem_toArray, List.getElem_cons_zero, List.getElem_cons_succ, Act.put, List.setIfInBounds_toArray, List.set_cons_zero, List.set_cons_succ])
                      refine wpAnyH_ready (rs := [8]) (by kernel_rfl) (by simp) ?_
                      refine AllReadyH.cons rfl (fun K9 hK9 => ?_) AllReadyH.nil
                      ·
                        (try simp only [List.getElem_toArray, List.getElem_cons_zero, List.getElem_cons_succ])
                        go_simp
                        refine hK9.out _ _ (trivial) (fun hHeld9 => ?_)
                        clear hK9 K9
                        (try simp only [List.getElem_toArray, List.getElem_cons_zero, List.getElem_cons_succ, Act.put, List.setIfInBounds_toArray, List.set_cons_zero, List.set_cons_succ])
                        refine' wpAnyH_take (i := 9) (v := _) rfl (by kernel_rfl) (by kernel_rfl) (by kernel_rfl) (fun _ _ _ h => h) (Or.inl ⟨by rfl, ?taq7⟩) (by assumption) ?tbq7
                        case taq7 =>
                          intro wS hSw
                          (try dsimp only at hSw)
                          go_simp
                          (try (with_reducible rfl))
                        (try simp only [List.getElem_toArray, List.getElem_cons_zero, List.getElem_cons_succ, Act.put, List.setIfInBounds_toArray, List.set_cons_zero, List.set_cons_succ])
                        refine' wpAnyH_take (i := 10) (v := _) rfl (by kernel_rfl) (by kernel_rfl) (by kernel_rfl) (fun _ _ _ h => h) (Or.inl ⟨by rfl, ?taq8⟩) (by assumption) ?tbq8
                        case taq8 =>
                          intro wS hSw
                          (try dsimp only at hSw)
                          go_simp
                          (try (with_reducible rfl))
                        (try simp only [List.getElem_toArray, List.getElem_cons_zero, List.getElem_cons_succ, Act.put, List.setIfInBounds_toArray, List.set_cons_zero, List.set_cons_succ])
                        refine wpAnyH_ready (rs := [11]) (by kernel_rfl) (by simp) ?_
                        refine AllReadyH.cons rfl (fun K9 hK9 => ?_) AllReadyH.nil
                        ·
                          (try simp only [List.getElem_toArray, List.getElem_cons_zero, List.getElem_cons_succ])
                          go_simp
                          refine hK9.out _ _ (trivial) (fun hHeld9 => ?_)
                          clear hK9 K9
                          (try simp only [List.getElem_toArray, List.getElem_cons_zero, List.getElem_cons_succ, Act.put, List.setIfInBounds_toArray, List.set_cons_zero, List.set_cons_succ])
                          refine' wpAnyH_take (i := 12) (v := _) rfl (by kernel_rfl) (by kernel_rfl) (by kernel_rfl) (fun _ _ _ h => h) (Or.inl ⟨by rfl, ?taq9⟩) (by assumption) ?tbq9
                          case taq9 =>
                            intro wS hSw
                            (try dsimp only at hSw)
                            go_simp
                            (try (with_reducible rfl))
                          (try simp only [List.getElem_toArray, List.getElem_cons_zero, List.getElem_cons_succ, Act.put, List.setIfInBounds_toArray, List.set_cons_zero, List.set_cons_succ])
                          refine' wpAnyH_take (i := 13) (v := _) rfl (by kernel_rfl) (by kernel_rfl) (by kernel_rfl) (fun _ _ _ h => h) (Or.inl ⟨by rfl, ?taq10⟩) (by assumption) ?tbq10
                          case taq10 =>
                            intro wS hSw
                            (try dsimp only at hSw)
                            go_simp
                            (try (with_reducible rfl))
                          (try simp only [List.getElem_toArray, List.getElem_cons_zero, List.getElem_cons_succ, Act.put, List.setIfInBounds_toArray, List.set_cons_zero, List.set_cons_succ])
                          refine wpAnyH_ready (rs := [14]) (by kernel_rfl) (by simp) ?_
                          refine AllReadyH.cons rfl (fun K9 hK9 => ?_) AllReadyH.nil
                          (try simp only [List.getElem_toArray, List.getElem_cons_zero, List.getElem_cons_succ])
                          go_simp
                          refine hK9.out _ _ (trivial) (fun hHeld9 => ?_)
                          clear hK9 K9
                          (try simp only [List.getElem_toArray, List.getElem_cons_zero, List.getElem_cons_succ, Act.put, List.setIfInBounds_toArray, List.set_cons_zero, List.set_cons_succ])
                          refine wpAnyH_done (by kernel_rfl) ?_ _
                          have hk3 := ((HKX.out.put 4 (.slice (some ⟨w6.heap.size, 0, none⟩) 1 1)).put 5 (.int .i64 0)).put 6 (.slice (some ⟨w6.heap.size + 1, 0, none⟩) nb nb)
                          have hW3 : Below w5.heap.size w5 (((w6.setCell ⟨w5.heap.size, 4, none⟩ (.slice (some ⟨w6.heap.size, 0, none⟩) 1 1)).setCell ⟨w5.heap.size, 5, none⟩ (.int .i64 0)).setCell ⟨w5.heap.size, 6, none⟩ (.slice (some ⟨w6.heap.size + 1, 0, none⟩) nb nb)) := ((HBX.out.setCell (p := ⟨w5.heap.size, 4, none⟩) (Nat.le_refl _) _).setCell (p := ⟨w5.heap.size, 5, none⟩) (Nat.le_refl _) _).setCell (p := ⟨w5.heap.size, 6, none⟩) (Nat.le_refl _) _
                          simp only [List.set_cons_succ, List.set_cons_zero] at hk3
                          have hz3 : (((w6.setCell ⟨w5.heap.size, 4, none⟩ (.slice (some ⟨w6.heap.size, 0, none⟩) 1 1)).setCell ⟨w5.heap.size, 5, none⟩ (.int .i64 0)).setCell ⟨w5.heap.size, 6, none⟩ (.slice (some ⟨w6.heap.size + 1, 0, none⟩) nb nb)).heap.size = w6.heap.size := by simp
                          generalize (((w6.setCell ⟨w5.heap.size, 4, none⟩ (.slice (some ⟨w6.heap.size, 0, none⟩) 1 1)).setCell ⟨w5.heap.size, 5, none⟩ (.int .i64 0)).setCell ⟨w5.heap.size, 6, none⟩ (.slice (some ⟨w6.heap.size + 1, 0, none⟩) nb nb)) = wq at hk3 hW3 hz3 ⊢
                          have hk := ((hk3.alloc (.cells #[.int .i64 (nb : Int)] 3)).alloc (.cells (zerosA (.int .i8 0) nb) 61)).drew
                          have hW := ((hW3.alloc (by omega) (.cells #[.int .i64 (nb : Int)] 3)).alloc (by rw [World.size_alloc]; omega) (.cells (zerosA (.int .i8 0) nb) 61)).drew
                          have h1 := ((Blk.freshA wq 3 #[.int .i64 (nb : Int)]).alloc (.cells (zerosA (.int .i8 0) nb) 61)).drew
                          have h2 := (Blk.freshA (wq.alloc (.cells #[.int .i64 (nb : Int)] 3)) 61 (zerosA (.int .i8 0) nb)).drew
                          rw [hz3] at h1
                          rw [World.size_alloc, hz3] at h2
                          rw [zerosA_toList, show List.replicate nb (Value.int .i8 0) = ints .i8 (List.replicate nb 0) by simp [ints]] at h2
                          have HI := Lib.hid ((XI.out _ hW).setB (m := [(nb : Int)]) (x := List.replicate nb 0) (RowS.of_blk (n := 1) h1 rfl (by unfold maxLen; omega) (by omega)) (RowS.of_blk (n := nb) h2 (by rw [length_ints, List.length_replicate]) (by unfold maxLen; omega) (by omega)) (by intro x hx; simp only [List.mem_singleton] at hx; omega) (by intro x hx; have := List.eq_of_mem_replicate hx; omega) (by unfold lenP; simp only [List.length_cons, List.length_nil, List.length_replicate]; omega))
                          clear hmk e20 h1 h2 hk3 hW3
                          go_wp2_with fail
                          go_meet
                          case rel => exact ⟨hW, A1, c1, A2, c2, A3, c3, _, 1, _, nb, { pc with bd := [(nb : Int)], be := 0, bx := List.replicate nb 0 }, by simp only [List.length_replicate]; exact hk, HBAD.out, by simp only [List.length_replicate]; exact HI.out⟩
                    ·
                      (try simp only [List.getElem_toArray, List.getElem_cons_zero, List.getElem_cons_succ])
                      go_simp
                      refine hK9.out _ _ (trivial) (fun hHeld9 => ?_)
                      clear hK9 K9
                      (try simp only [List.getElem_toArray, List.getElem_cons_zero, List.getElem_cons_succ, Act.put, List.setIfInBounds_toArray, List.set_cons_zero, List.set_cons_succ])
                      refine' wpAnyH_take (i := 9) (v := _) rfl (by kernel_rfl) (by kernel_rfl) (by kernel_rfl) (fun _ _ _ h => h) (Or.inl ⟨by rfl, ?taq11⟩) (by assumption) ?tbq11
                      case taq11 =>
                        intro wS hSw
                        (try dsimp only at hSw)
                        go_simp
                        (try (with_reducible rfl))
                      (try simp only [List.getElem_toArray, List.getElem_cons_zero, List.getElem_cons_succ, Act.put, List.setIfInBounds_toArray, List.set_cons_zero, List.set_cons_succ])
                      refine' wpAnyH_take (i := 10) (v := _) rfl (by kernel_rfl) (by kernel_rfl) (by kernel_rfl) (fun _ _ _ h => h) (Or.inl ⟨by rfl, ?taq12⟩) (by assumption) ?tbq12
                      case taq12 =>
                        intro wS hSw
                        (try dsimp only at hSw)
                        go_simp
                        (try (with_reducible rfl))
                      (try simp only [List.getElem_toArray, List.getElem_cons_zero, List.getElem_cons_succ, Act.put, List.setIfInBounds_toArray, List.set_cons_zero, List.set_cons_succ])
                      refine wpAnyH_ready (rs := [5, 11]) (by kernel_rfl) (by simp) ?_
                      refine AllReadyH.cons rfl (fun K9 hK9 => ?_) (AllReadyH.cons rfl (fun K9 hK9 => ?_) AllReadyH.nil)
                      ·
                        (try simp only [List.getElem_toArray, List.getElem_cons_zero, List.getElem_cons_succ])
                        go_simp
                        refine hK9.out _ _ (trivial) (fun hHeld9 => ?_)
                        clear hK9 K9
                        (try simp only [List.getElem_toArray, List.getElem_cons_zero, List.getElem_cons_succ, Act.put, List.setIfInBounds_toArray, List.set_cons_zero, List.set_cons_succ])
                        refine wpAnyH_ready (rs := [11]) (by kernel_rfl) (by simp) ?_
                        refine AllReadyH.cons rfl (fun K9 hK9 => ?_) AllReadyH.nil
                        ·
                          (try simp only [List.getElem_toArray, List.getElem_cons_zero, List.getElem_cons_succ])
                          go_simp
                          refine hK9.out _ _ (trivial) (fun hHeld9 => ?_)
                          clear hK9 K9
                          (try simp only [List.getElem_toArray, List.getElem_cons_zero, List.getElem_cons_succ, Act.put, List.setIfInBounds_toArray, List.set_cons_zero, List.set_cons_succ])
                          refine' wpAnyH_take (i := 12) (v := _) rfl (by kernel_rfl) (by kernel_rfl) (by kernel_rfl) (fun _ _ _ h => h) (Or.inl ⟨by rfl, ?taq13⟩) (by assumption) ?tbq13
                          case taq13 =>
                            intro wS hSw
                            (try dsimp only at hSw)
                            go_simp
                            (try (with_reducible rfl))
                          (try simp only [List.getElem_toArray, List.getElem_cons_zero, List.getElem_cons_succ, Act.put, List.setIfInBounds_toArray, List.set_cons_zero, List.set_cons_succ])
                          refine' wpAnyH_take (i := 13) (v := _) rfl (by kernel_rfl) (by kernel_rfl) (by kernel_rfl) (fun _ _ _ h => h) (Or.inl ⟨by rfl, ?taq14⟩) (by assumption) ?tbq14
                          case taq14 =>
                            intro wS hSw
                            (try dsimp only at hSw)
                            go_simp
                            (try (with_reducible rfl))
                          (try simp only [List.getElem_toArray, List.getElem_cons_zero, List.getElem_cons_succ, Act.put, List.setIfInBounds_toArray, List.set_cons_zero, List.set_cons_succ])
                          refine wpAnyH_ready (rs := [14]) (by kernel_rfl) (by simp) ?_
                          refine AllReadyH.cons rfl (fun K9 hK9 => ?_) AllReadyH.nil
                          (try simp only [List.getElem_toArray, List.getElem_cons_zero, List.getElem_cons_succ])
                          go_simp
                          refine hK9.out _ _ (trivial) (fun hHeld9 => ?_)
                          clear hK9 K9
                          (try simp only [List.getElem_toArray, List.getElem_cons_zero, List.getElem_cons_succ, Act.put, List.setIfInBounds_toArray, List.set_cons_zero, List.set_cons_succ])
                          refine wpAnyH_done (by kernel_rfl) ?_ _
                          have hk3 := ((HKX.out.put 4 (.slice (some ⟨w6.heap.size, 0, none⟩) 1 1)).put 5 (.int .i64 0)).put 6 (.slice (some ⟨w6.heap.size + 1, 0, none⟩) nb nb)
                          have hW3 : Below w5.heap.size w5 (((w6.setCell ⟨w5.heap.size, 4, none⟩ (.slice (some ⟨w6.heap.size, 0, none⟩) 1 1)).setCell ⟨w5.heap.size, 5, none⟩ (.int .i64 0)).setCell ⟨w5.heap.size, 6, none⟩ (.slice (some ⟨w6.heap.size + 1, 0, none⟩) nb nb)) := ((HBX.out.setCell (p := ⟨w5.heap.size, 4, none⟩) (Nat.le_refl _) _).setCell (p := ⟨w5.heap.size, 5, none⟩) (Nat.le_refl _) _).setCell (p := ⟨w5.heap.size, 6, none⟩) (Nat.le_refl _) _
                          simp only [List.set_cons_succ, List.set_cons_zero] at hk3
                          have hz3 : (((w6.setCell ⟨w5.heap.size, 4, none⟩ (.slice (some ⟨w6.heap.size, 0, none⟩) 1 1)).setCell ⟨w5.heap.size, 5, none⟩ (.int .i64 0)).setCell ⟨w5.heap.size, 6, none⟩ (.slice (some ⟨w6.heap.size + 1, 0, none⟩) nb nb)).heap.size = w6.heap.size := by simp
                          generalize (((w6.setCell ⟨w5.heap.size, 4, none⟩ (.slice (some ⟨w6.heap.size, 0, none⟩) 1 1)).setCell ⟨w5.heap.size, 5, none⟩ (.int .i64 0)).setCell ⟨w5.heap.size, 6, none⟩ (.slice (some ⟨w6.heap.size + 1, 0, none⟩) nb nb)) = wq at hk3 hW3 hz3 ⊢
                          have hk := ((hk3.alloc (.cells #[.int .i64 (nb : Int)] 3)).alloc (.cells (zerosA (.int .i8 0) nb) 61)).drew
                          have hW := ((hW3.alloc (by omega) (.cells #[.int .i64 (nb : Int)] 3)).alloc (by rw [World.size_alloc]; omega) (.cells (zerosA (.int .i8 0) nb) 61)).drew
                          have h1 := ((Blk.freshA wq 3 #[.int .i64 (nb : Int)]).alloc (.cells (zerosA (.int .i8 0) nb) 61)).drew
                          have h2 := (Blk.freshA (wq.alloc (.cells #[.int .i64 (nb : Int)] 3)) 61 (zerosA (.int .i8 0) nb)).drew
                          rw [hz3] at h1
                          rw [World.size_alloc, hz3] at h2
                          rw [zerosA_toList, show List.replicate nb (Value.int .i8 0) = ints .i8 (List.replicate nb 0) by simp [ints]] at h2
                          have HI := Lib.hid ((XI.out _ hW).setB (m := [(nb : Int)]) (x := List.replicate nb 0) (RowS.of_blk (n := 1) h1 rfl (by unfold maxLen; omega) (by omega)) (RowS.of_blk (n := nb) h2 (by rw [length_ints, List.length_replicate]) (by unfold maxLen; omega) (by omega)) (by intro x hx; simp only [List.mem_singleton] at hx; omega) (by intro x hx; have := List.eq_of_mem_replicate hx; omega) (by unfold lenP; simp only [List.length_cons, List.length_nil, List.length_replicate]; omega))
                          clear hmk e20 h1 h2 hk3 hW3
                          go_wp2_with fail
                          go_meet
                          case rel => exact ⟨hW, A1, c1, A2, c2, A3, c3, _, 1, _, nb, { pc with bd := [(nb : Int)], be := 0, bx := List.replicate nb 0 }, by simp only [List.length_replicate]; exact hk, HBAD.out, by simp only [List.length_replicate]; exact HI.out⟩
                      ·
                        (try simp only [List.getElem_toArray, List.getElem_cons_zero, List.getElem_cons_succ])
                        go_simp
                        refine hK9.out _ _ (trivial) (fun hHeld9 => ?_)
                        clear hK9 K9
                        (try simp only [List.getElem_toArray, List.getElem_cons_zero, List.getElem_cons_succ, Act.put, List.setIfInBounds_toArray, List.set_cons_zero, List.set_cons_succ])
                        refine wpAnyH_ready (rs := [5]) (by kernel_rfl) (by simp) ?_
                        refine AllReadyH.cons rfl (fun K9 hK9 => ?_) AllReadyH.nil
                        ·
                          (try simp only [List.getElem_toArray, List.getElem_cons_zero, List.getElem_cons_succ])
                          go_simp
                          refine hK9.out _ _ (trivial) (fun hHeld9 => ?_)
                          clear hK9 K9
                          (try simp only [List.getElem_toArray, List.getElem_cons_zero, List.getElem_cons_succ, Act.put, List.setIfInBounds_toArray, List.set_cons_zero, List.set_cons_succ])
                          refine' wpAnyH_take (i := 12) (v := _) rfl (by kernel_rfl) (by kernel_rfl) (by kernel_rfl) (fun _ _ _ h => h) (Or.inl ⟨by rfl, ?taq15⟩) (by assumption) ?tbq15
                          case taq15 =>
                            intro wS hSw
                            (try dsimp only at hSw)
                            go_simp
                            (try (with_reducible rfl))
                          (try simp only [List.getElem_toArray, List.getElem_cons_zero, List.getElem_cons_succ, Act.put, List.setIfInBounds_toArray, List.set_cons_zero, List.set_cons_succ])
                          refine' wpAnyH_take (i := 13) (v := _) rfl (by kernel_rfl) (by kernel_rfl) (by kernel_rfl) (fun _ _ _ h => h) (Or.inl ⟨by rfl, ?taq16⟩) (by assumption) ?tbq16
                          case taq16 =>
                            intro wS hSw
                            (try dsimp only at hSw)
                            go_simp
                            (try (with_reducible rfl))
                          (try simp only [List.getElem_toArray, List.getElem_cons_zero, List.getElem_cons_succ, Act.put, List.setIfInBounds_toArray, List.set_cons_zero, List.set_cons_succ])
                          refine wpAnyH_ready (rs := [14]) (by kernel_rfl) (by simp) ?_
                          refine AllReadyH.cons rfl (fun K9 hK9 => ?_) AllReadyH.nil
                          (try simp only [List.getElem_toArray, List.getElem_cons_zero, List.getElem_cons_succ])
                          go_simp
                          refine hK9.out _ _ (trivial) (fun hHeld9 => ?_)
                          clear hK9 K9
                          (try simp only [List.getElem_toArray, List.getElem_cons_zero, List.getElem_cons_succ, Act.put, List.setIfInBounds_toArray, List.set_cons_zero, List.set_cons_succ])
                          refine wpAnyH_done (by kernel_rfl) ?_ _
                          have hk3 := ((HKX.out.put 4 (.slice (some ⟨w6.heap.size + 1, 0, none⟩) 1 1)).put 5 (.int .i64 0)).put 6 (.slice (some ⟨w6.heap.size, 0, none⟩) nb nb)
                          have hW3 : Below w5.heap.size w5 (((w6.setCell ⟨w5.heap.size, 4, none⟩ (.slice (some ⟨w6.heap.size + 1, 0, none⟩) 1 1)).setCell ⟨w5.heap.size, 5, none⟩ (.int .i64 0)).setCell ⟨w5.heap.size, 6, none⟩ (.slice (some ⟨w6.heap.size, 0, none⟩) nb nb)) := ((HBX.out.setCell (p := ⟨w5.heap.size, 4, none⟩) (Nat.le_refl _) _).setCell (p := ⟨w5.heap.size, 5, none⟩) (Nat.le_refl _) _).setCell (p := ⟨w5.heap.size, 6, none⟩) (Nat.le_refl _) _
                          simp only [List.set_cons_succ, List.set_cons_zero] at hk3
                          have hz3 : (((w6.setCell ⟨w5.heap.size, 4, none⟩ (.slice (some ⟨w6.heap.size + 1, 0, none⟩) 1 1)).setCell ⟨w5.heap.size, 5, none⟩ (.int .i64 0)).setCell ⟨w5.heap.size, 6, none⟩ (.slice (some ⟨w6.heap.size, 0, none⟩) nb nb)).heap.size = w6.heap.size := by simp
                          generalize (((w6.setCell ⟨w5.heap.size, 4, none⟩ (.slice (some ⟨w6.heap.size + 1, 0, none⟩) 1 1)).setCell ⟨w5.heap.size, 5, none⟩ (.int .i64 0)).setCell ⟨w5.heap.size, 6, none⟩ (.slice (some ⟨w6.heap.size, 0, none⟩) nb nb)) = wq at hk3 hW3 hz3 ⊢
                          have hk := ((hk3.alloc (.cells (zerosA (.int .i8 0) nb) 61)).alloc (.cells #[.int .i64 (nb : Int)] 3)).drew
                          have hW := ((hW3.alloc (by omega) (.cells (zerosA (.int .i8 0) nb) 61)).alloc (by rw [World.size_alloc]; omega) (.cells #[.int .i64 (nb : Int)] 3)).drew
                          have h1 := ((Blk.freshA wq 61 (zerosA (.int .i8 0) nb)).alloc (.cells #[.int .i64 (nb : Int)] 3)).drew
                          have h2 := (Blk.freshA (wq.alloc (.cells (zerosA (.int .i8 0) nb) 61)) 3 #[.int .i64 (nb : Int)]).drew
                          rw [hz3] at h1
                          rw [World.size_alloc, hz3] at h2
                          rw [zerosA_toList, show List.replicate nb (Value.int .i8 0) = ints .i8 (List.replicate nb 0) by simp [ints]] at h1
                          have HI := Lib.hid ((XI.out _ hW).setB (m := [(nb : Int)]) (x := List.replicate nb 0) (RowS.of_blk (n := 1) h2 rfl (by unfold maxLen; omega) (by omega)) (RowS.of_blk (n := nb) h1 (by rw [length_ints, List.length_replicate]) (by unfold maxLen; omega) (by omega)) (by intro x hx; simp only [List.mem_singleton] at hx; omega) (by intro x hx; have := List.eq_of_mem_replicate hx; omega) (by unfold lenP; simp only [List.length_cons, List.length_nil, List.length_replicate]; omega))
                          clear hmk e20 h1 h2 hk3 hW3
                          go_wp2_with fail
                          go_meet
                          case rel => exact ⟨hW, A1, c1, A2, c2, A3, c3, _, 1, _, nb, { pc with bd := [(nb : Int)], be := 0, bx := List.replicate nb 0 }, by simp only [List.length_replicate]; exact hk, HBAD.out, by simp only [List.length_replicate]; exact HI.out⟩
                  ·
                    (try simp only [List.getElem_toArray, List.getElem_cons_zero, List.getElem_cons_succ])
                    go_simp
                    refine hK9.out _ _ (trivial) (fun hHeld9 => ?_)
                    clear hK9 K9
                    (try simp only [List.getElem_toArray, List.getElem_cons_zero, List.getElem_cons_succ, Act.put, List.setIfInBounds_toArray, List.set_cons_zero, List.set_cons_succ])
                    refine' wpAnyH_take (i := 9) (v := _) rfl (by kernel_rfl) (by kernel_rfl) (by kernel_rfl) (fun _ _ _ h => h) (Or.inl ⟨by rfl, ?taq17⟩) (by assumption) ?tbq17
                    case taq17 =>
                      intro wS hSw
                      (try dsimp only at hSw)
                      go_simp
                      (try (with_reducible rfl))
                    (try simp only [List.getElem_toArray, List.getElem_cons_zero, List.getElem_cons_succ, Act.put, List.setIfInBounds_toArray, List.set_cons_zero, List.set_cons_succ])
                    refine' wpAnyH_take (i := 10) (v := _) rfl (by kernel_rfl) (by kernel_rfl) (by kernel_rfl) (fun _ _ _ h => h) (Or.inl ⟨by rfl, ?taq18⟩) (by assumption) ?tbq18
                    case taq18 =>
                      intro wS hSw
                      (try dsimp only at hSw)
                      go_simp
                      (try (with_reducible rfl))
                    (try simp only [List.getElem_toArray, List.getElem_cons_zero, List.getElem_cons_succ, Act.put, List.setIfInBounds_toArray, List.set_cons_zero, List.set_cons_succ])
                    refine wpAnyH_ready (rs := [2, 11]) (by kernel_rfl) (by simp) ?_
                    refine AllReadyH.cons rfl (fun K9 hK9 => ?_) (AllReadyH.cons rfl (fun K9 hK9 => ?_) AllReadyH.nil)
                    ·
                      (try simp only [List.getElem_toArray, List.getElem_cons_zero, List.getElem_cons_succ])
                      go_simp
                      refine hK9.out _ _ (trivial) (fun hHeld9 => ?_)
                      clear hK9 K9
                      (try simp only [List.getElem_toArray, List.getElem_cons_zero, List.getElem_cons_succ, Act.put, List.setIfInBounds_toArray, List.set_cons_zero, List.set_cons_succ])
                      refine' wpAnyH_take (i := 3) (v := _) rfl (by kernel_rfl) (by kernel_rfl) (by kernel_rfl) (fun _ _ _ h => h) (Or.inl ⟨by rfl, ?taq19⟩) (by assumption) ?tbq19
                      case taq19 =>
                        intro wS hSw
                        (try dsimp only at hSw)
                        go_simp
                        (try (with_reducible rfl))
                      (try simp only [List.getElem_toArray, List.getElem_cons_zero, List.getElem_cons_succ, Act.put, List.setIfInBounds_toArray, List.set_cons_zero, List.set_cons_succ])
                      refine' wpAnyH_take (i := 4) (v := _) rfl (by kernel_rfl) (by kernel_rfl) (by kernel_rfl) (fun _ _ _ h => h) (Or.inl ⟨by rfl, ?taq20⟩) (by assumption) ?tbq20
                      case taq20 =>
                        intro wS hSw
                        (try dsimp only at hSw)
                        go_simp
                        (try (with_reducible rfl))
                      (try simp only [List.getElem_toArray, List.getElem_cons_zero, List.getElem_cons_succ, Act.put, List.setIfInBounds_toArray, List.set_cons_zero, List.set_cons_succ])
                      refine wpAnyH_ready (rs := [5, 11]) (by kernel_rfl) (by simp) ?_
                      refine AllReadyH.cons rfl (fun K9 hK9 => ?_) (AllReadyH.cons rfl (fun K9 hK9 => ?_) AllReadyH.nil)
                      ·
                        (try simp only [List.getElem_toArray, List.getElem_cons_zero, List.getElem_cons_succ])
                        go_simp
                        refine hK9.out _ _ (trivial) (fun hHeld9 => ?_)
                        clear hK9 K9
                        (try simp only [List.getElem_toArray, List.getElem_cons_zero, List.getElem_cons_succ, Act.put, List.setIfInBounds_toArray, List.set_cons_zero, List.set_cons_succ])
                        refine wpAnyH_ready (rs := [11]) (by kernel_rfl) (by simp) ?_
                        refine AllReadyH.cons rfl (fun K9 hK9 => ?_) AllReadyH.nil
                        ·
                          (try simp only [List.getElem_toArray, List.getElem_cons_zero, List.getElem_cons_succ])
                          go_simp
                          refine hK9.out _ _ (trivial) (fun hHeld9 => ?_)
                          clear hK9 K9
                          (try simp only [List.getElem_toArray, List.getElem_cons_zero, List.getElem_cons_succ, Act.put, List.setIfInBounds_toArray, List.set_cons_zero, List.set_cons_succ])
                          refine' wpAnyH_take (i := 12) (v := _) rfl (by kernel_rfl) (by kernel_rfl) (by kernel_rfl) (fun _ _ _ h => h) (Or.inl ⟨by rfl, ?taq21⟩) (by assumption) ?tbq21
                          case taq21 =>
                            intro wS hSw
                            (try dsimp only at hSw)
                            go_simp
                            (try (with_reducible rfl))
                          (try simp only [List.getElem_toArray, List.getElem_cons_zero, List.getElem_cons_succ, Act.put, List.setIfInBounds_toArray, List.set_cons_zero, List.set_cons_succ])
                          refine' wpAnyH_take (i := 13) (v := _) rfl (by kernel_rfl) (by kernel_rfl) (by kernel_rfl) (fun _ _ _ h => h) (Or.inl ⟨by rfl, ?taq22⟩) (by assumption) ?tbq22
                          case taq22 =>
                            intro wS hSw
                            (try dsimp only at hSw)
                            go_simp
                            (try (with_reducible rfl))
                          (try simp only [List.getElem_toArray, List.getElem_cons_zero, List.getElem_cons_succ, Act.put, List.setIfInBounds_toArray, List.set_cons_zero, List.set_cons_succ])
                          refine wpAnyH_ready (rs := [14]) (by kernel_rfl) (by simp) ?_
                          refine AllReadyH.cons rfl (fun K9 hK9 => ?_) AllReadyH.nil
                          (try simp only [List.getElem_toArray, List.getElem_cons_zero, List.getElem_cons_succ])
                          go_simp
                          refine hK9.out _ _ (trivial) (fun hHeld9 => ?_)
                          clear hK9 K9
                          (try simp only [List.getElem_toArray, List.getElem_cons_zero, List.getElem_cons_succ, Act.put, List.setIfInBounds_toArray, List.set_cons_zero, List.set_cons_succ])
                          refine wpAnyH_done (by kernel_rfl) ?_ _
                          have hk3 := ((HKX.out.put 4 (.slice (some ⟨w6.heap.size, 0, none⟩) 1 1)).put 5 (.int .i64 0)).put 6 (.slice (some ⟨w6.heap.size + 1, 0, none⟩) nb nb)
                          have hW3 : Below w5.heap.size w5 (((w6.setCell ⟨w5.heap.size, 4, none⟩ (.slice (some ⟨w6.heap.size, 0, none⟩) 1 1)).setCell ⟨w5.heap.size, 5, none⟩ (.int .i64 0)).setCell ⟨w5.heap.size, 6, none⟩ (.slice (some ⟨w6.heap.size + 1, 0, none⟩) nb nb)) := ((HBX.out.setCell (p := ⟨w5.heap.size, 4, none⟩) (Nat.le_refl _) _).setCell (p := ⟨w5.heap.size, 5, none⟩) (Nat.le_refl _) _).setCell (p := ⟨w5.heap.size, 6, none⟩) (Nat.le_refl _) _
                          simp only [List.set_cons_succ, List.set_cons_zero] at hk3
                          have hz3 : (((w6.setCell ⟨w5.heap.size, 4, none⟩ (.slice (some ⟨w6.heap.size, 0, none⟩) 1 1)).setCell ⟨w5.heap.size, 5, none⟩ (.int .i64 0)).setCell ⟨w5.heap.size, 6, none⟩ (.slice (some ⟨w6.heap.size + 1, 0, none⟩) nb nb)).heap.size = w6.heap.size := by simp
                          generalize (((w6.setCell ⟨w5.heap.size, 4, none⟩ (.slice (some ⟨w6.heap.size, 0, none⟩) 1 1)).setCell ⟨w5.heap.size, 5, none⟩ (.int .i64 0)).setCell ⟨w5.heap.size, 6, none⟩ (.slice (some ⟨w6.heap.size + 1, 0, none⟩) nb nb)) = wq at hk3 hW3 hz3 ⊢
                          have hk := ((hk3.alloc (.cells #[.int .i64 (nb : Int)] 3)).alloc (.cells (zerosA (.int .i8 0) nb) 61)).drew
                          have hW := ((hW3.alloc (by omega) (.cells #[.int .i64 (nb : Int)] 3)).alloc (by rw [World.size_alloc]; omega) (.cells (zerosA (.int .i8 0) nb) 61)).drew
                          have h1 := ((Blk.freshA wq 3 #[.int .i64 (nb : Int)]).alloc (.cells (zerosA (.int .i8 0) nb) 61)).drew
                          have h2 := (Blk.freshA (wq.alloc (.cells #[.int .i64 (nb : Int)] 3)) 61 (zerosA (.int .i8 0) nb)).drew
                          rw [hz3] at h1
                          rw [World.size_alloc, hz3] at h2
                          rw [zerosA_toList, show List.replicate nb (Value.int .i8 0) = ints .i8 (List.replicate nb 0) by simp [ints]] at h2
                          have HI := Lib.hid ((XI.out _ hW).setB (m := [(nb : Int)]) (x := List.replicate nb 0) (RowS.of_blk (n := 1) h1 rfl (by unfold maxLen; omega) (by omega)) (RowS.of_blk (n := nb) h2 (by rw [length_ints, List.length_replicate]) (by unfold maxLen; omega) (by omega)) (by intro x hx; simp only [List.mem_singleton] at hx; omega) (by intro x hx; have := List.eq_of_mem_replicate hx; omega) (by unfold lenP; simp only [List.length_cons, List.length_nil, List.length_replicate]; omega))
                          clear hmk e20 h1 h2 hk3 hW3
                          go_wp2_with fail
                          go_meet
                          case rel => exact ⟨hW, A1, c1, A2, c2, A3, c3, _, 1, _, nb, { pc with bd := [(nb : Int)], be := 0, bx := List.replicate nb 0 }, by simp only [List.length_replicate]; exact hk, HBAD.out, by simp only [List.length_replicate]; exact HI.out⟩
                      ·
                        (try simp only [List.getElem_toArray, List.getElem_cons_zero, List.getElem_cons_succ])
                        go_simp
                        refine hK9.out _ _ (trivial) (fun hHeld9 => ?_)
                        clear hK9 K9
                        (try simp only [List.getElem_toArray, List.getElem_cons_zero, List.getElem_cons_succ, Act.put, List.setIfInBounds_toArray, List.set_cons_zero, List.set_cons_succ])
                        refine wpAnyH_ready (rs := [5]) (by kernel_rfl) (by simp) ?_
                        refine AllReadyH.cons rfl (fun K9 hK9 => ?_) AllReadyH.nil
                        ·
                          (try simp only [List.getElem_toArray, List.getElem_cons_zero, List.getElem_cons_succ])
                          go_simp
                          refine hK9.out _ _ (trivial) (fun hHeld9 => ?_)
                          clear hK9 K9
                          (try simp only [List.getElem_toArray, List.getElem_cons_zero, List.getElem_cons_succ, Act.put, List.setIfInBounds_toArray, List.set_cons_zero, List.set_cons_succ])
                          refine' wpAnyH_take (i := 12) (v := _) rfl (by kernel_rfl) (by kernel_rfl) (by kernel_rfl) (fun _ _ _ h => h) (Or.inl ⟨by rfl, ?taq23⟩) (by assumption) ?tbq23
                          case taq23 =>
                            intro wS hSw
                            (try dsimp only at hSw)
                            go_simp
                            (try (with_reducible rfl))
                          (try simp only [List.getElem_toArray, List.getElem_cons_zero, List.getElem_cons_succ, Act.put, List.setIfInBounds_toArray, List.set_cons_zero, List.set_cons_succ])
                          refine' wpAnyH_take (i := 13) (v := _) rfl (by kernel_rfl) (by kernel_rfl) (by kernel_rfl) (fun _ _ _ h => h) (Or.inl ⟨by rfl, ?taq24⟩) (by assumption) ?tbq24
                          case taq24 =>
                            intro wS hSw
                            (try dsimp only at hSw)
                            go_simp
                            (try (with_reducible rfl))
                          (try simp only [List.getElem_toArray, List.getElem_cons_zero, List.getElem_cons_succ, Act.put, List.setIfInBounds_toArray, List.set_cons_zero, List.set_cons_succ])
                          refine wpAnyH_ready (rs := [14]) (by kernel_rfl) (by simp) ?_
                          refine AllReadyH.cons rfl (fun K9 hK9 => ?_) AllReadyH.nil
                          (try simp only [List.getElem_toArray, List.getElem_cons_zero, List.getElem_cons_succ])
                          go_simp
                          refine hK9.out _ _ (trivial) (fun hHeld9 => ?_)
                          clear hK9 K9
                          (try simp only [List.getElem_toArray, List.getElem_cons_zero, List.getElem_cons_succ, Act.put, List.setIfInBounds_toArray, List.set_cons_zero, List.set_cons_succ])
                          refine wpAnyH_done (by kernel_rfl) ?_ _
                          have hk3 := ((HKX.out.put 4 (.slice (some ⟨w6.heap.size + 1, 0, none⟩) 1 1)).put 5 (.int .i64 0)).put 6 (.slice (some ⟨w6.heap.size, 0, none⟩) nb nb)
                          have hW3 : Below w5.heap.size w5 (((w6.setCell ⟨w5.heap.size, 4, none⟩ (.slice (some ⟨w6.heap.size + 1, 0, none⟩) 1 1)).setCell ⟨w5.heap.size, 5, none⟩ (.int .i64 0)).setCell ⟨w5.heap.size, 6, none⟩ (.slice (some ⟨w6.heap.size, 0, none⟩) nb nb)) := ((HBX.out.setCell (p := ⟨w5.heap.size, 4, none⟩) (Nat.le_refl _) _).setCell (p := ⟨w5.heap.size, 5, none⟩) (Nat.le_refl _) _).setCell (p := ⟨w5.heap.size, 6, none⟩) (Nat.le_refl _) _
                          simp only [List.set_cons_succ, List.set_cons_zero] at hk3
                          have hz3 : (((w6.setCell ⟨w5.heap.size, 4, none⟩ (.slice (some ⟨w6.heap.size + 1, 0, none⟩) 1 1)).setCell ⟨w5.heap.size, 5, none⟩ (.int .i64 0)).setCell ⟨w5.heap.size, 6, none⟩ (.slice (some ⟨w6.heap.size, 0, none⟩) nb nb)).heap.size = w6.heap.size := by simp
                          generalize (((w6.setCell ⟨w5.heap.size, 4, none⟩ (.slice (some ⟨w6.heap.size + 1, 0, none⟩) 1 1)).setCell ⟨w5.heap.size, 5, none⟩ (.int .i64 0)).setCell ⟨w5.heap.size, 6, none⟩ (.slice (some ⟨w6.heap.size, 0, none⟩) nb nb)) = wq at hk3 hW3 hz3 ⊢
                          have hk := ((hk3.alloc (.cells (zerosA (.int .i8 0) nb) 61)).alloc (.cells #[.int .i64 (nb : Int)] 3)).drew
                          have hW := ((hW3.alloc (by omega) (.cells (zerosA (.int .i8 0) nb) 61)).alloc (by rw [World.size_alloc]; omega) (.cells #[.int .i64 (nb : Int)] 3)).drew
                          have h1 := ((Blk.freshA wq 61 (zerosA (.int .i8 0) nb)).alloc (.cells #[.int .i64 (nb : Int)] 3)).drew
                          have h2 := (Blk.freshA (wq.alloc (.cells (zerosA (.int .i8 0) nb) 61)) 3 #[.int .i64 (nb : Int)]).drew
                          rw [hz3] at h1
                          rw [World.size_alloc, hz3] at h2
                          rw [zerosA_toList, show List.replicate nb (Value.int .i8 0) = ints .i8 (List.replicate nb 0) by simp [ints]] at h1
                          have HI := Lib.hid ((XI.out _ hW).setB (m := [(nb : Int)]) (x := List.replicate nb 0) (RowS.of_blk (n := 1) h2 rfl (by unfold maxLen; omega) (by omega)) (RowS.of_blk (n := nb) h1 (by rw [length_ints, List.length_replicate]) (by unfold maxLen; omega) (by omega)) (by intro x hx; simp only [List.mem_singleton] at hx; omega) (by intro x hx; have := List.eq_of_mem_replicate hx; omega) (by unfold lenP; simp only [List.length_cons, List.length_nil, List.length_replicate]; omega))
                          clear hmk e20 h1 h2 hk3 hW3
                          go_wp2_with fail
                          go_meet
                          case rel => exact ⟨hW, A1, c1, A2, c2, A3, c3, _, 1, _, nb, { pc with bd := [(nb : Int)], be := 0, bx := List.replicate nb 0 }, by simp only [List.length_replicate]; exact hk, HBAD.out, by simp only [List.length_replicate]; exact HI.out⟩
                    ·
                      (try simp only [List.getElem_toArray, List.getElem_cons_zero, List.getElem_cons_succ])
                      go_simp
                      refine hK9.out _ _ (trivial) (fun hHeld9 => ?_)
                      clear hK9 K9
                      (try simp only [List.getElem_toArray, List.getElem_cons_zero, List.getElem_cons_succ, Act.put, List.setIfInBounds_toArray, List.set_cons_zero, List.set_cons_succ])
                      refine wpAnyH_ready (rs := [2]) (by kernel_rfl) (by simp) ?_
                      refine AllReadyH.cons rfl (fun K9 hK9 => ?_) AllReadyH.nil
                      ·
                        (try simp only [List.getElem_toArray, List.getElem_cons_zero, List.getElem_cons_succ])
                        go_simp
                        refine hK9.out _ _ (trivial) (fun hHeld9 => ?_)
                        clear hK9 K9
                        (try simp only [List.getElem_toArray, List.getElem_cons_zero, List.getElem_cons_succ, Act.put, List.setIfInBounds_toArray, List.set_cons_zero, List.set_cons_succ])
                        refine' wpAnyH_take (i := 3) (v := _) rfl (by kernel_rfl) (by kernel_rfl) (by kernel_rfl) (fun _ _ _ h => h) (Or.inl ⟨by rfl, ?taq25⟩) (by assumption) ?tbq25
                        case taq25 =>
                          intro wS hSw
                          (try dsimp only at hSw)
                          go_simp
                          (try (with_reducible rfl))
                        (try simp only [List.getElem_toArray, List.getElem_cons_zero, List.getElem_cons_succ, Act.put, List.setIfInBounds_toArray, List.set_cons_zero, List.set_cons_succ])
                        refine' wpAnyH_take (i := 4) (v := _) rfl (by kernel_rfl) (by kernel_rfl) (by kernel_rfl) (fun _ _ _ h => h) (Or.inl ⟨by rfl, ?taq26⟩) (by assumption) ?tbq26
                        case taq26 =>
                          intro wS hSw
                          (try dsimp only at hSw)
                          go_simp
                          (try (with_reducible rfl))
                        (try simp only [List.getElem_toArray, List.getElem_cons_zero, List.getElem_cons_succ, Act.put, List.setIfInBounds_toArray, List.set_cons_zero, List.set_cons_succ])
                        refine wpAnyH_ready (rs := [5]) (by kernel_rfl) (by simp) ?_
                        refine AllReadyH.cons rfl (fun K9 hK9 => ?_) AllReadyH.nil
                        ·
                          (try simp only [List.getElem_toArray, List.getElem_cons_zero, List.getElem_cons_succ])
                          go_simp
                          refine hK9.out _ _ (trivial) (fun hHeld9 => ?_)
                          clear hK9 K9
                          (try simp only [List.getElem_toArray, List.getElem_cons_zero, List.getElem_cons_succ, Act.put, List.setIfInBounds_toArray, List.set_cons_zero, List.set_cons_succ])
                          refine' wpAnyH_take (i := 12) (v := _) rfl (by kernel_rfl) (by kernel_rfl) (by kernel_rfl) (fun _ _ _ h => h) (Or.inl ⟨by rfl, ?taq27⟩) (by assumption) ?tbq27
                          case taq27 =>
                            intro wS hSw
                            (try dsimp only at hSw)
                            go_simp
                            (try (with_reducible rfl))
                          (try simp only [List.getElem_toArray, List.getElem_cons_zero, List.getElem_cons_succ, Act.put, List.setIfInBounds_toArray, List.set_cons_zero, List.set_cons_succ])
                          refine' wpAnyH_take (i := 13) (v := _) rfl (by kernel_rfl) (by kernel_rfl) (by kernel_rfl) (fun _ _ _ h => h) (Or.inl ⟨by rfl, ?taq28⟩) (by assumption) ?tbq28
                          case taq28 =>
                            intro wS hSw
                            (try dsimp only at hSw)
                            go_simp
                            (try (with_reducible rfl))
                          (try simp only [List.getElem_toArray, List.getElem_cons_zero, List.getElem_cons_succ, Act.put, List.setIfInBounds_toArray, List.set_cons_zero, List.set_cons_succ])
                          refine wpAnyH_ready (rs := [14]) (by kernel_rfl) (by simp) ?_
                          refine AllReadyH.cons rfl (fun K9 hK9 => ?_) AllReadyH.nil
                          (try simp only [List.getElem_toArray, List.getElem_cons_zero, List.getElem_cons_succ])
                          go_simp
                          refine hK9.out _ _ (trivial) (fun hHeld9 => ?_)
                          clear hK9 K9
                          (try simp only [List.getElem_toArray, List.getElem_cons_zero, List.getElem_cons_succ, Act.put, List.setIfInBounds_toArray, List.set_cons_zero, List.set_cons_succ])
                          refine wpAnyH_done (by kernel_rfl) ?_ _
                          have hk3 := ((HKX.out.put 4 (.slice (some ⟨w6.heap.size + 1, 0, none⟩) 1 1)).put 5 (.int .i64 0)).put 6 (.slice (some ⟨w6.heap.size, 0, none⟩) nb nb)
                          have hW3 : Below w5.heap.size w5 (((w6.setCell ⟨w5.heap.size, 4, none⟩ (.slice (some ⟨w6.heap.size + 1, 0, none⟩) 1 1)).setCell ⟨w5.heap.size, 5, none⟩ (.int .i64 0)).setCell ⟨w5.heap.size, 6, none⟩ (.slice (some ⟨w6.heap.size, 0, none⟩) nb nb)) := ((HBX.out.setCell (p := ⟨w5.heap.size, 4, none⟩) (Nat.le_refl _) _).setCell (p := ⟨w5.heap.size, 5, none⟩) (Nat.le_refl _) _).setCell (p := ⟨w5.heap.size, 6, none⟩) (Nat.le_refl _) _
                          simp only [List.set_cons_succ, List.set_cons_zero] at hk3
                          have hz3 : (((w6.setCell ⟨w5.heap.size, 4, none⟩ (.slice (some ⟨w6.heap.size + 1, 0, none⟩) 1 1)).setCell ⟨w5.heap.size, 5, none⟩ (.int .i64 0)).setCell ⟨w5.heap.size, 6, none⟩ (.slice (some ⟨w6.heap.size, 0, none⟩) nb nb)).heap.size = w6.heap.size := by simp
                          generalize (((w6.setCell ⟨w5.heap.size, 4, none⟩ (.slice (some ⟨w6.heap.size + 1, 0, none⟩) 1 1)).setCell ⟨w5.heap.size, 5, none⟩ (.int .i64 0)).setCell ⟨w5.heap.size, 6, none⟩ (.slice (some ⟨w6.heap.size, 0, none⟩) nb nb)) = wq at hk3 hW3 hz3 ⊢
                          have hk := ((hk3.alloc (.cells (zerosA (.int .i8 0) nb) 61)).alloc (.cells #[.int .i64 (nb : Int)] 3)).drew
                          have hW := ((hW3.alloc (by omega) (.cells (zerosA (.int .i8 0) nb) 61)).alloc (by rw [World.size_alloc]; omega) (.cells #[.int .i64 (nb : Int)] 3)).drew
                          have h1 := ((Blk.freshA wq 61 (zerosA (.int .i8 0) nb)).alloc (.cells #[.int .i64 (nb : Int)] 3)).drew
                          have h2 := (Blk.freshA (wq.alloc (.cells (zerosA (.int .i8 0) nb) 61)) 3 #[.int .i64 (nb : Int)]).drew
                          rw [hz3] at h1
                          rw [World.size_alloc, hz3] at h2
                          rw [zerosA_toList, show List.replicate nb (Value.int .i8 0) = ints .i8 (List.replicate nb 0) by simp [ints]] at h1
                          have HI := Lib.hid ((XI.out _ hW).setB (m := [(nb : Int)]) (x := List.replicate nb 0) (RowS.of_blk (n := 1) h2 rfl (by unfold maxLen; omega) (by omega)) (RowS.of_blk (n := nb) h1 (by rw [length_ints, List.length_replicate]) (by unfold maxLen; omega) (by omega)) (by intro x hx; simp only [List.mem_singleton] at hx; omega) (by intro x hx; have := List.eq_of_mem_replicate hx; omega) (by unfold lenP; simp only [List.length_cons, List.length_nil, List.length_replicate]; omega))
                          clear hmk e20 h1 h2 hk3 hW3
                          go_wp2_with fail
                          go_meet
                          case rel => exact ⟨hW, A1, c1, A2, c2, A3, c3, _, 1, _, nb, { pc with bd := [(nb : Int)], be := 0, bx := List.replicate nb 0 }, by simp only [List.length_replicate]; exact hk, HBAD.out, by simp only [List.length_replicate]; exact HI.out⟩
                · have t3 : (h == 3) = false := by simpa using h3
                  have HBAD := Lib.hid (spoil_none H1.out hw)
                  clear h3 hw
                  go_wp2_with fail
                  have hq := seven_ok HKX.out (.slice none 0 0) (.int .i64 0) (.slice none 0 0) (.slice none 0 0) (.slice none 0 0) (.int .i64 0) (.slice none 0 0)
                  unfold seven at hq
                  have hW := HBX.out.trans (hq.1.below (B := w5.heap.size) (by omega) (fun i hi => by omega))
                  have hk := hq.2
                  go_meet
                  case rel => exact ⟨hW, none, 0, none, 0, none, 0, none, 0, none, 0, zeroC, hk, HBAD.out, zeroV_in _ _⟩
      case rest =>
        obtain ⟨hbw, B1, d1, B2, d2, B3, d3, B4, d4, B5, d5, pq, kx, hbad, hin⟩ := hcut
        have hzw := hbw.size
        have hbw4 := hbw.mono (Nat.le_refl _)
        have Kc := Lib.hid (K5.out.below hbw K5.out.lt)
        have OWc := Lib.hid (own_off OW.out (Off.of_below hbw (fun i hi => .inl hi) : Off (fun i => w5.heap.size ≤ i) w5 wc) (fun k hk => by have := (OW.out.lt k hk).2; omega))
        have Pc := Lib.hid (HP5.out.below (hbw.mono hs5))
        have s5 := HB5.out.size
        have HBc := Lib.hid (HB5.out.trans (hbw.mono s5))
        obtain ⟨rc, rf, lg2, _, _⟩ := row_atP OWc.out rfl HX.out
        have q0 := rc 0 (by omega)
        have q1 := rc 1 (by omega)
        have q2 := rc 2 (by omega)
        have q3 := rc 3 (by omega)
        have q4 := rc 4 (by omega)
        have q5 := rc 5 (by omega)
        have q6 := rc 6 (by omega)
        have g0 := rf 0
        have g1 := rf 1
        have g2 := rf 2
        have g3 := rf 3
        have g4 := rf 4
        have g5 := rf 5
        have g6 := rf 6
        dsimp only [ParV.cells] at q0 q1 q2 q3 q4 q5 q6
        simp only [List.getElem?_cons_zero, List.getElem?_cons_succ, Nat.add_zero] at q0 q1 q2 q3 q4 q5 q6 g0
        have KX := Lib.hid kx
        have x0 := KX.out.cell 0
        have x1 := KX.out.cell 1
        have x2 := KX.out.cell 2
        have x3 := KX.out.cell 3
        have x4 := KX.out.cell 4
        have x5 := KX.out.cell 5
        have x6 := KX.out.cell 6
        simp only [List.getElem?_cons_zero, List.getElem?_cons_succ] at x0 x1 x2 x3 x4 x5 x6
        have HBAD := Lib.hid hbad
        have HIN := Lib.hid hin
        have lc := Kc.out.lt
        have hwg : w.heap.size ≠ g := by omega
        have hHJ : j < ps.length := by omega
        clear kx hbad hin hbw hbw4 K5 OW HP5 HB5 rc rf OX
        go_upto_region 22 with fail
        clear x0 x1 x2 x3 x4 x5 x6 q0 q1 q2 q3 q4 q5 q6 g0 g1 g2 g3 g4 g5 g6 KX
        have how : (wc.setCells g (j * 7) (ParV.cells ⟨.slice B1 pq.wd.length d1, .slice B2 pq.wx.length d2, .slice B3 pq.m.length d3, .slice B4 pq.bd.length d4, .slice B5 pq.bx.length d5, pq⟩)).ownsRow w4.heap.size 60 7 (.slice (some ⟨g, 0, none⟩) ps.length c5) ps.length ((ps.set j ⟨.slice B1 pq.wd.length d1, .slice B2 pq.wx.length d2, .slice B3 pq.m.length d3, .slice B4 pq.bd.length d4, .slice B5 pq.bx.length d5, pq⟩).flatMap ParV.cells) := own_setAt (f := ParV.cells) (sz := 7) OWc.out (fun p _ => rfl) rfl hHJ ⟨.slice B1 pq.wd.length d1, .slice B2 pq.wx.length d2, .slice B3 pq.m.length d3, .slice B4 pq.bd.length d4, .slice B5 pq.bx.length d5, pq⟩ rfl
        have hoff : Off (fun i => i = g) wc (wc.setCells g (j * 7) (ParV.cells ⟨.slice B1 pq.wd.length d1, .slice B2 pq.wx.length d2, .slice B3 pq.m.length d3, .slice B4 pq.bd.length d4, .slice B5 pq.bx.length d5, pq⟩)) := Off.setCells _ _ (Off.refl _ _) (.inl rfl)
        have kc8 : Blk (wc.setCells g (j * 7) (ParV.cells ⟨.slice B1 pq.wd.length d1, .slice B2 pq.wx.length d2, .slice B3 pq.m.length d3, .slice B4 pq.bd.length d4, .slice B5 pq.bx.length d5, pq⟩)) w.heap.size 25 [.int .i64 a, .int .i64 b, .int .i64 c, .slice A ls.length cc] := Kc.out.farCells hwg _ _
        have hb8 := HBc.out.trans (hoff.below (B := w.heap.size) (by omega) (fun i hi => by omega))
        have hp8 := Pc.out.below (hoff.below (B := w4.heap.size) (by omega) (fun i hi => by omega))
        have hs8 := hoff.size
        have hq8 : ParsOf (wc.setCells g (j * 7) (ParV.cells ⟨.slice B1 pq.wd.length d1, .slice B2 pq.wx.length d2, .slice B3 pq.m.length d3, .slice B4 pq.bd.length d4, .slice B5 pq.bx.length d5, pq⟩)) (wc.setCells g (j * 7) (ParV.cells ⟨.slice B1 pq.wd.length d1, .slice B2 pq.wx.length d2, .slice B3 pq.m.length d3, .slice B4 pq.bd.length d4, .slice B5 pq.bx.length d5, pq⟩)).heap.size (.slice (some ⟨g, 0, none⟩) ps.length c5) (ps.set j ⟨.slice B1 pq.wd.length d1, .slice B2 pq.wx.length d2, .slice B3 pq.m.length d3, .slice B4 pq.bd.length d4, .slice B5 pq.bx.length d5, pq⟩) := by
          refine ⟨ReadsN.of_own (by omega) how, Lib.hid (fun e he => ?_), ⟨_, _, by rw [List.length_set]⟩, by rw [List.length_set]; omega⟩
          rcases List.mem_or_eq_of_mem_set he with he | rfl
          · exact (hp8.ok.out e he).more (by omega)
          · exact (HIN.out.off hoff (fun g' h1 _ h2 => h1 h2) (fun _ h _ => h)).ok
        have HMQ : Hid (mayPs a b c ls ((ps.set j ⟨.slice B1 pq.wd.length d1, .slice B2 pq.wx.length d2, .slice B3 pq.m.length d3, .slice B4 pq.bd.length d4, .slice B5 pq.bx.length d5, pq⟩).map (·.c)) = false) := Lib.hid (may_turned (x := ⟨.slice B1 pq.wd.length d1, .slice B2 pq.wx.length d2, .slice B3 pq.m.length d3, .slice B4 pq.bd.length d4, .slice B5 pq.bx.length d5, pq⟩) HX.out HLL.out (by rw [HQQ.out]; exact HBAD.out))
        have HSQ : Hid (sameCs (ps.map (·.c)) ((ps.set j ⟨.slice B1 pq.wd.length d1, .slice B2 pq.wx.length d2, .slice B3 pq.m.length d3, .slice B4 pq.bd.length d4, .slice B5 pq.bx.length d5, pq⟩).map (·.c)) = false) := Lib.hid (same_turned (x := ⟨.slice B1 pq.wd.length d1, .slice B2 pq.wx.length d2, .slice B3 pq.m.length d3, .slice B4 pq.bd.length d4, .slice B5 pq.bx.length d5, pq⟩) HX.out (by intro e; have h1 := HBAD.out; have h2 := H1.out; dsimp only at e; rw [e] at h1; rw [h1] at h2; cases h2))
        have hs9 := Nat.le_trans (Nat.le_trans hs5 hzw) hs8
        simp only [World.setCells, ParV.cells, Nat.add_assoc, Nat.reduceAdd] at kc8 hb8 hp8 hq8 hs9
        have hq8 := Lib.hid (hq8.below (Below.refl _ _).drew)
        have hp8 := Lib.hid (hp8.below (Below.refl _ _).drew)
        have hb8 := Lib.hid hb8.drew
        have kc8 := Lib.hid kc8.drew
        clear how hoff hs8 OWc Pc HBc HX HIN HBAD H1 HLL HQQ Kc
        obtain ⟨m, hm⟩ : ∃ m, ps.length = m + 1 := ⟨ps.length - 1, by omega⟩
        have e20 : IntKind.i64.wrap ((ps.length : Int) - 1) = (m : Int) := by rw [IntWalk.i64_in _ (by omega)]; omega
        have HMM := Lib.hid hm
        have m0 : (0 : Int) ≤ (m : Int) := by omega
        have m1 : (m : Int) ≤ (ps.length : Int) := by omega
        clear hm
        generalize (((((((wc.setCell ⟨g, j * 7, none⟩ (.slice B1 pq.wd.length d1)).setCell ⟨g, j * 7 + 1, none⟩ (.int .i64 pq.we)).setCell ⟨g, j * 7 + 2, none⟩ (.slice B2 pq.wx.length d2)).setCell ⟨g, j * 7 + 3, none⟩ (.slice B3 pq.m.length d3)).setCell ⟨g, j * 7 + 4, none⟩ (.slice B4 pq.bd.length d4)).setCell ⟨g, j * 7 + 5, none⟩ (.int .i64 pq.be)).setCell ⟨g, j * 7 + 6, none⟩ (.slice B5 pq.bx.length d5)) = w8 at hq8 hp8 hb8 kc8 hs9 ⊢
        obtain ⟨_, _, _, ecp, _, hcp, _, _⟩ := hp8.out.rd
        injection ecp with ecp1 ecp2 ecp3
        subst ecp3
        have m2 : m ≤ cp := by omega
        clear ecp1 ecp2 hcp
        have z8 : w8.heap.size = w8.drew.heap.size := rfl
        rw [z8] at hq8 hs9
        have hp8 := Lib.hid (hp8.out.more hs9)
        refine wp_region_held_drew (S := (fun w' => Blk w' w.heap.size 25 [.int .i64 a, .int .i64 b, .int .i64 c, .slice A ls.length cc])) (by kernel_rfl) (kc8.out) (fun hHeld => ?_)
        generalize w8.drew = wd at hq8 hp8 hb8 kc8 hHeld ⊢
        clear z8 hs9
        refine' wpAnyH_take (i := 0) (v := _) rfl (by kernel_rfl) (by kernel_rfl) (by kernel_rfl) (fun _ _ _ h => h) (Or.inl ⟨by rfl, ?taq29⟩) (by assumption) ?tbq29
        case taq29 =>
          intro wS hSw
          (try dsimp only at hSw)
          (have k0 := hSw.cell 0; have k1 := hSw.cell 1; have k2 := hSw.cell 2; have k3 := hSw.cell 3; have lk := hSw.lt; simp only [List.getElem?_cons_zero, List.getElem?_cons_succ] at k0 k1 k2 k3; clear hSw; go_simp)
          (try (with_reducible rfl))
        (try simp only [List.getElem_toArray, List.getElem_cons_zero, List.getElem_cons_succ, Act.put, List.setIfInBounds_toArray, List.set_cons_zero, List.set_cons_succ])
        refine' wpAnyH_take (i := 1) (v := _) rfl (by kernel_rfl) (by kernel_rfl) (by kernel_rfl) (fun _ _ _ h => h) (Or.inl ⟨by rfl, ?taq30⟩) (by assumption) ?tbq30
        case taq30 =>
          intro wS hSw
          (try dsimp only at hSw)
          (have k0 := hSw.cell 0; have k1 := hSw.cell 1; have k2 := hSw.cell 2; have k3 := hSw.cell 3; have lk := hSw.lt; simp only [List.getElem?_cons_zero, List.getElem?_cons_succ] at k0 k1 k2 k3; clear hSw; go_simp)
          (try (with_reducible rfl))
        (try simp only [List.getElem_toArray, List.getElem_cons_zero, List.getElem_cons_succ, Act.put, List.setIfInBounds_toArray, List.set_cons_zero, List.set_cons_succ])
        refine wpAnyH_ready (rs := [2]) (by kernel_rfl) (by simp) ?_
        refine AllReadyH.cons rfl (fun K9 hK9 => ?_) AllReadyH.nil
        (try simp only [List.getElem_toArray, List.getElem_cons_zero, List.getElem_cons_succ])
        go_simp
        refine (pmay_any a b c _ _ ls (ps.set j ⟨.slice B1 pq.wd.length d1, .slice B2 pq.wx.length d2, .slice B3 pq.m.length d3, .slice B4 pq.bd.length d4, .slice B5 pq.bx.length d5, pq⟩) wd wd.heap.size (Nat.le_refl _) ((HL.out.below hb8.out).more hb8.out.size) hq8.out false HMQ.out).mono ?_
        rintro en w9 ⟨rfl, hbq⟩
        have HB9 := Lib.hid (hb8.out.trans (hbq.mono hb8.out.size))
        have K9' := Lib.hid (kc8.out.below hbq kc8.out.lt)
        have P9 := Lib.hid ((hp8.out.below hbq).more hbq.size)
        have Q9 := Lib.hid ((hq8.out.below hbq).more hbq.size)
        clear hbq hq8 hp8 hb8 kc8 HMQ
        refine hK9.out _ _ (K9'.out) (fun hHeld9 => ?_)
        clear hK9 K9
        (try simp only [List.getElem_toArray, List.getElem_cons_zero, List.getElem_cons_succ, Act.put, List.setIfInBounds_toArray, List.set_cons_zero, List.set_cons_succ])
        refine' wpAnyH_take (i := 3) (v := _) rfl (by kernel_rfl) (by kernel_rfl) (by kernel_rfl) (fun _ _ _ h => h) (Or.inl ⟨by rfl, ?taq31⟩) (by assumption) ?tbq31
        case taq31 =>
          intro wS hSw
          (try dsimp only at hSw)
          (have k0 := hSw.cell 0; have k1 := hSw.cell 1; have k2 := hSw.cell 2; have k3 := hSw.cell 3; have lk := hSw.lt; simp only [List.getElem?_cons_zero, List.getElem?_cons_succ] at k0 k1 k2 k3; clear hSw; go_simp)
          (try (with_reducible rfl))
        (try simp only [List.getElem_toArray, List.getElem_cons_zero, List.getElem_cons_succ, Act.put, List.setIfInBounds_toArray, List.set_cons_zero, List.set_cons_succ])
        refine' wpAnyH_take (i := 4) (v := _) rfl (by kernel_rfl) (by kernel_rfl) (by kernel_rfl) (fun _ _ _ h => h) (Or.inl ⟨by rfl, ?taq32⟩) (by assumption) ?tbq32
        case taq32 =>
          intro wS hSw
          (try dsimp only at hSw)
          (have k0 := hSw.cell 0; have k1 := hSw.cell 1; have k2 := hSw.cell 2; have k3 := hSw.cell 3; have lk := hSw.lt; simp only [List.getElem?_cons_zero, List.getElem?_cons_succ] at k0 k1 k2 k3; clear hSw; go_simp)
          (try (with_reducible rfl))
        (try simp only [List.getElem_toArray, List.getElem_cons_zero, List.getElem_cons_succ, Act.put, List.setIfInBounds_toArray, List.set_cons_zero, List.set_cons_succ])
        refine' wpAnyH_take (i := 5) (v := _) rfl (by kernel_rfl) (by kernel_rfl) (by kernel_rfl) (fun _ _ _ h => h) (Or.inl ⟨by rfl, ?taq33⟩) (by assumption) ?tbq33
        case taq33 =>
          intro wS hSw
          (try dsimp only at hSw)
          (have k0 := hSw.cell 0; have k1 := hSw.cell 1; have k2 := hSw.cell 2; have k3 := hSw.cell 3; have lk := hSw.lt; simp only [List.getElem?_cons_zero, List.getElem?_cons_succ] at k0 k1 k2 k3; clear hSw; go_simp)
          (try (with_reducible rfl))
        (try simp only [List.getElem_toArray, List.getElem_cons_zero, List.getElem_cons_succ, Act.put, List.setIfInBounds_toArray, List.set_cons_zero, List.set_cons_succ])
        refine' wpAnyH_take (i := 7) (v := _) rfl (by kernel_rfl) (by kernel_rfl) (by kernel_rfl) (fun _ _ _ h => h) (Or.inl ⟨by rfl, ?taq34⟩) (by assumption) ?tbq34
        case taq34 =>
          intro wS hSw
          (try dsimp only at hSw)
          (have k0 := hSw.cell 0; have k1 := hSw.cell 1; have k2 := hSw.cell 2; have k3 := hSw.cell 3; have lk := hSw.lt; simp only [List.getElem?_cons_zero, List.getElem?_cons_succ] at k0 k1 k2 k3; clear hSw; go_simp)
          (try (with_reducible rfl))
        (try simp only [List.getElem_toArray, List.getElem_cons_zero, List.getElem_cons_succ, Act.put, List.setIfInBounds_toArray, List.set_cons_zero, List.set_cons_succ])
        refine' wpAnyH_take (i := 9) (v := _) rfl (by kernel_rfl) (by kernel_rfl) (by kernel_rfl) (fun _ _ _ h => h) (Or.inl ⟨by rfl, ?taq35⟩) (by assumption) ?tbq35
        case taq35 =>
          intro wS hSw
          (try dsimp only at hSw)
          (have k0 := hSw.cell 0; have k1 := hSw.cell 1; have k2 := hSw.cell 2; have k3 := hSw.cell 3; have lk := hSw.lt; simp only [List.getElem?_cons_zero, List.getElem?_cons_succ] at k0 k1 k2 k3; clear hSw; go_simp)
          (try (with_reducible rfl))
        (try simp only [List.getElem_toArray, List.getElem_cons_zero, List.getElem_cons_succ, Act.put, List.setIfInBounds_toArray, List.set_cons_zero, List.set_cons_succ])
        have L9 : Hid ((ps.flatMap ParV.cells).length = ps.length * 7) := Lib.hid (flat_length ParV.cells 7 ps (fun p _ => rfl))
        have O9 := Lib.hid (pars_one P9.out)
        refine wpAnyH_ready (rs := [6, 10]) (by kernel_rfl) (by simp) ?_
        refine AllReadyH.cons rfl (fun K9 hK9 => ?_) (AllReadyH.cons rfl (fun K9 hK9 => ?_) AllReadyH.nil)
        ·
          (try simp only [List.getElem_toArray, List.getElem_cons_zero, List.getElem_cons_succ])
          go_simp
          refine hK9.out _ _ (K9'.out.alloc _) (fun hHeld9 => ?_)
          clear hK9 K9
          (try simp only [List.getElem_toArray, List.getElem_cons_zero, List.getElem_cons_succ, Act.put, List.setIfInBounds_toArray, List.set_cons_zero, List.set_cons_succ])
          refine wpAnyH_ready (rs := [8, 10]) (by kernel_rfl) (by simp) ?_
          refine AllReadyH.cons rfl (fun K9 hK9 => ?_) (AllReadyH.cons rfl (fun K9 hK9 => ?_) AllReadyH.nil)
          ·
            (try simp only [List.getElem_toArray, List.getElem_cons_zero, List.getElem_cons_succ])
            rw [if_pos (by rfl)]
            refine wp_extendN elem_par (w9.alloc (.cells #[] 60)) _ _ (by rfl) w9.heap.size 0 _ [] (by rfl) (own_emptyP _ _ _ 7 _ (by simp) (Nat.le_refl _)) _ ps.length _ (ps.flatMap ParV.cells) (by rfl) (P9.out.rd.below (by first | exact (Below.refl _ _).alloc (Nat.le_refl _) _ | exact ((Below.refl _ _).alloc (Nat.le_refl _) _).alloc (by simp) _)) L9.out O9.out (by unfold maxLen; omega) (by omega) (by simp only [World.size_alloc]; omega) ?_
            intro A8 c8 wa hown8 hg8 hf8
            simp only [Nat.zero_add, List.nil_append] at hown8 ⊢
            refine hK9.out _ _ (((by first | exact K9'.out.alloc _ | exact (K9'.out.alloc _).alloc _ : Blk _ _ _ _).grown hg8 (by intro he; have h1 := Option.some.inj he; have h2 := K9'.out.lt; simp at h1; omega))) (fun hHeld9 => ?_)
            clear hK9 K9
            (try simp only [List.getElem_toArray, List.getElem_cons_zero, List.getElem_cons_succ, Act.put, List.setIfInBounds_toArray, List.set_cons_zero, List.set_cons_succ])
            refine wpAnyH_ready (rs := [10]) (by kernel_rfl) (by simp) ?_
            refine AllReadyH.cons rfl (fun K9 hK9 => ?_) AllReadyH.nil
            (try simp only [List.getElem_toArray, List.getElem_cons_zero, List.getElem_cons_succ])
            go_simp
            refine hK9.out _ _ ((((K9'.out.alloc _).grown hg8 (by intro he; have h1 := Option.some.inj he; have h2 := K9'.out.lt; simp at h1; omega)).alloc _)) (fun hHeld9 => ?_)
            clear hK9 K9
            (try simp only [List.getElem_toArray, List.getElem_cons_zero, List.getElem_cons_succ, Act.put, List.setIfInBounds_toArray, List.set_cons_zero, List.set_cons_succ])
            have hbx : Below w9.heap.size w9 (wa.alloc (.cells #[.slice none 0 0, .int .i64 0, .slice none 0 0, .slice none 0 0, .slice none 0 0, .int .i64 0, .slice none 0 0] 60)) := (((Below.refl _ w9).alloc (Nat.le_refl _) (.cells #[] 60)).grown hg8 (by simp) (fun k hk => by have hk2 := Option.some.inj hk; simp at hk2; omega)).alloc (by have := hg8.size; simp at this; omega) _
            have HBz := Lib.hid (HB9.out.trans (hbx.mono HB9.out.size))
            have Kz := Lib.hid (K9'.out.below hbx K9'.out.lt)
            have P9z := Lib.hid (P9.out.below hbx)
            have Q9z := Lib.hid (Q9.out.below hbx)
            have SZ9 := hbx.size
            have KZ := Lib.hid (Blk.fresh wa 60 [.slice none 0 0, .int .i64 0, .slice none 0 0, .slice none 0 0, .slice none 0 0, .int .i64 0, .slice none 0 0])
            have OW8 := Lib.hid (hown8.alloc (.cells #[.slice none 0 0, .int .i64 0, .slice none 0 0, .slice none 0 0, .slice none 0 0, .int .i64 0, .slice none 0 0] 60))
            clear hbx P9 Q9
            generalize (wa.alloc (.cells #[.slice none 0 0, .int .i64 0, .slice none 0 0, .slice none 0 0, .slice none 0 0, .int .i64 0, .slice none 0 0] 60)) = wz at HBz Kz P9z Q9z SZ9 KZ OW8 hHeld9 ⊢
            refine wpAnyH_ready (rs := [11]) (by kernel_rfl) (by simp) ?_
            refine AllReadyH.cons rfl (fun K9 hK9 => ?_) AllReadyH.nil
            (try simp only [List.getElem_toArray, List.getElem_cons_zero, List.getElem_cons_succ])
            rw [if_pos (by rfl)]
            refine wp_extendN elem_par wz _ _ (by rfl) w9.heap.size ps.length _ _ (by rfl) OW8.out _ 1 _ [.slice none 0 0, .int .i64 0, .slice none 0 0, .slice none 0 0, .slice none 0 0, .int .i64 0, .slice none 0 0] (by rfl) (KZ.out.readsN (sz := 7) (n := 1) rfl (by unfold maxLen; omega)) rfl (by intro u hu; simp only [List.mem_cons, List.not_mem_nil, or_false] at hu; rcases hu with rfl | rfl | rfl | rfl | rfl | rfl | rfl <;> rfl) (by unfold maxLen; omega) (by omega) SZ9 ?_
            intro Ab9 cb9 wb hown9 hg9 hf9
            have hbx : Below w9.heap.size wz wb := (Below.refl _ _).grown hg9 SZ9 (fun k hk => (OW8.out.lt k hk).1)
            refine hK9.out _ _ ((Kz.out.grown hg9 (by intro he; have h1 := (OW8.out.lt _ he.symm).1; have h2 := K9'.out.lt; omega))) (fun hHeld9 => ?_)
            clear hK9 K9
            (try simp only [List.getElem_toArray, List.getElem_cons_zero, List.getElem_cons_succ, Act.put, List.setIfInBounds_toArray, List.set_cons_zero, List.set_cons_succ])
            have HBb := Lib.hid (HBz.out.trans (hbx.mono (by have := HB9.out.size; omega)))
            have Kb := Lib.hid (Kz.out.below hbx K9'.out.lt)
            have Pb := Lib.hid (P9z.out.below hbx)
            have Qb := Lib.hid (Q9z.out.below hbx)
            have hsb := hbx.size
            have hqz : ParsOf wb wb.heap.size (.slice Ab9 (ps.length + 1) cb9) (ps ++ [zeroV]) := by
              have e9 : ps.flatMap ParV.cells ++ [.slice none 0 0, .int .i64 0, .slice none 0 0, .slice none 0 0, .slice none 0 0, .int .i64 0, .slice none 0 0] = (ps ++ [zeroV]).flatMap ParV.cells := by rw [List.flatMap_append]; rfl
              rw [e9] at hown9
              refine ⟨ReadsN.of_own (by omega) hown9, Lib.hid (fun e he => ?_), ⟨_, _, by rw [List.length_append]; rfl⟩, by simp only [List.length_append, List.length_cons, List.length_nil]; omega⟩
              rcases List.mem_append.1 he with he | he
              · exact (Pb.out.ok.out e he).more (by omega)
              · rw [List.mem_singleton.1 he]
                exact (zeroV_in (fun _ => True) wb).ok
            have HQZ := Lib.hid hqz
            have HMZ : Hid (mayPs a b c ls ((ps ++ [zeroV]).map (·.c)) = false) := Lib.hid (may_len (by have := HPL.out; simp only [List.length_append, List.length_cons, List.length_nil]; omega))
            clear hqz hown9 hg9 hf9 hbx
            refine wpAnyH_ready (rs := [12]) (by kernel_rfl) (by simp) ?_
            refine AllReadyH.cons rfl (fun K9 hK9 => ?_) AllReadyH.nil
            (try simp only [List.getElem_toArray, List.getElem_cons_zero, List.getElem_cons_succ])
            go_simp
            refine (pmay_any a b c _ _ ls (ps ++ [zeroV]) wb wb.heap.size (Nat.le_refl _) ((HL.out.below HBb.out).more HBb.out.size) HQZ.out false HMZ.out).mono ?_
            rintro en wc2 ⟨rfl, hbq⟩
            have HBc2 := Lib.hid (HBb.out.trans (hbq.mono HBb.out.size))
            have Kc2 := Lib.hid (Kb.out.below hbq Kb.out.lt)
            have Pc2 := Lib.hid (Pb.out.below (hbq.mono (by omega)))
            have Qc2 := Lib.hid (Qb.out.below (hbq.mono (by omega)))
            have hsc2 := hbq.size
            clear hbq HQZ HMZ Pb Qb Kb HBb
            refine hK9.out _ _ (Kc2.out) (fun hHeld9 => ?_)
            clear hK9 K9
            (try simp only [List.getElem_toArray, List.getElem_cons_zero, List.getElem_cons_succ, Act.put, List.setIfInBounds_toArray, List.set_cons_zero, List.set_cons_succ])
            refine' wpAnyH_take (i := 13) (v := _) rfl (by kernel_rfl) (by kernel_rfl) (by kernel_rfl) (fun _ _ _ h => h) (Or.inl ⟨by rfl, ?taq36⟩) (by assumption) ?tbq36
            case taq36 =>
              intro wS hSw
              (try dsimp only at hSw)
              (have k0 := hSw.cell 0; have k1 := hSw.cell 1; have k2 := hSw.cell 2; have k3 := hSw.cell 3; have lk := hSw.lt; simp only [List.getElem?_cons_zero, List.getElem?_cons_succ] at k0 k1 k2 k3; clear hSw; go_simp)
              (try (with_reducible rfl))
            (try simp only [List.getElem_toArray, List.getElem_cons_zero, List.getElem_cons_succ, Act.put, List.setIfInBounds_toArray, List.set_cons_zero, List.set_cons_succ])
            refine' wpAnyH_take (i := 14) (v := _) rfl (by kernel_rfl) (by kernel_rfl) (by kernel_rfl) (fun _ _ _ h => h) (Or.inl ⟨by rfl, ?taq37⟩) (by assumption) ?tbq37
            case taq37 =>
              intro wS hSw
              (try dsimp only at hSw)
              (have k0 := hSw.cell 0; have k1 := hSw.cell 1; have k2 := hSw.cell 2; have k3 := hSw.cell 3; have lk := hSw.lt; simp only [List.getElem?_cons_zero, List.getElem?_cons_succ] at k0 k1 k2 k3; clear hSw; go_simp)
              (try (with_reducible rfl))
            (try simp only [List.getElem_toArray, List.getElem_cons_zero, List.getElem_cons_succ, Act.put, List.setIfInBounds_toArray, List.set_cons_zero, List.set_cons_succ])
            refine' wpAnyH_take (i := 15) (v := _) rfl (by kernel_rfl) (by kernel_rfl) (by kernel_rfl) (fun _ _ _ h => h) (Or.inl ⟨by rfl, ?taq38⟩) (by assumption) ?tbq38
            case taq38 =>
              intro wS hSw
              (try dsimp only at hSw)
              (have k0 := hSw.cell 0; have k1 := hSw.cell 1; have k2 := hSw.cell 2; have k3 := hSw.cell 3; have lk := hSw.lt; simp only [List.getElem?_cons_zero, List.getElem?_cons_succ] at k0 k1 k2 k3; clear hSw; go_simp)
              (try (with_reducible rfl))
            (try simp only [List.getElem_toArray, List.getElem_cons_zero, List.getElem_cons_succ, Act.put, List.setIfInBounds_toArray, List.set_cons_zero, List.set_cons_succ])
            refine' wpAnyH_take (i := 16) (v := _) rfl (by kernel_rfl) (by kernel_rfl) (by kernel_rfl) (fun _ _ _ h => h) (Or.inl ⟨by rfl, ?taq39⟩) (by assumption) ?tbq39
            case taq39 =>
              intro wS hSw
              (try dsimp only at hSw)
              (have k0 := hSw.cell 0; have k1 := hSw.cell 1; have k2 := hSw.cell 2; have k3 := hSw.cell 3; have lk := hSw.lt; simp only [List.getElem?_cons_zero, List.getElem?_cons_succ] at k0 k1 k2 k3; clear hSw; go_simp)
              (try (with_reducible rfl))
            (try simp only [List.getElem_toArray, List.getElem_cons_zero, List.getElem_cons_succ, Act.put, List.setIfInBounds_toArray, List.set_cons_zero, List.set_cons_succ])
            refine' wpAnyH_take (i := 17) (v := _) rfl (by kernel_rfl) (by kernel_rfl) (by kernel_rfl) (fun _ _ _ h => h) (Or.inl ⟨by rfl, ?taq40⟩) (by assumption) ?tbq40
            case taq40 =>
              intro wS hSw
              (try dsimp only at hSw)
              (have k0 := hSw.cell 0; have k1 := hSw.cell 1; have k2 := hSw.cell 2; have k3 := hSw.cell 3; have lk := hSw.lt; simp only [List.getElem?_cons_zero, List.getElem?_cons_succ] at k0 k1 k2 k3; clear hSw; go_simp)
              (try (with_reducible rfl))
            (try simp only [List.getElem_toArray, List.getElem_cons_zero, List.getElem_cons_succ, Act.put, List.setIfInBounds_toArray, List.set_cons_zero, List.set_cons_succ])
            refine' wpAnyH_take (i := 18) (v := _) rfl (by kernel_rfl) (by kernel_rfl) (by kernel_rfl) (fun _ _ _ h => h) (Or.inl ⟨by rfl, ?taq41⟩) (by assumption) ?tbq41
            case taq41 =>
              intro wS hSw
              (try dsimp only at hSw)
              (have k0 := hSw.cell 0; have k1 := hSw.cell 1; have k2 := hSw.cell 2; have k3 := hSw.cell 3; have lk := hSw.lt; simp only [List.getElem?_cons_zero, List.getElem?_cons_succ] at k0 k1 k2 k3; clear hSw; go_simp)
              (try (with_reducible rfl))
            (try simp only [List.getElem_toArray, List.getElem_cons_zero, List.getElem_cons_succ, Act.put, List.setIfInBounds_toArray, List.set_cons_zero, List.set_cons_succ])
            refine' wpAnyH_take (i := 19) (v := _) rfl (by kernel_rfl) (by kernel_rfl) (by kernel_rfl) (fun _ _ _ h => h) (Or.inl ⟨by rfl, ?taq42⟩) (by assumption) ?tbq42
            case taq42 =>
              intro wS hSw
              (try dsimp only at hSw)
              (have k0 := hSw.cell 0; have k1 := hSw.cell 1; have k2 := hSw.cell 2; have k3 := hSw.cell 3; have lk := hSw.lt; simp only [List.getElem?_cons_zero, List.getElem?_cons_succ] at k0 k1 k2 k3; clear hSw; go_simp)
              (try (with_reducible rfl))
            (try simp only [List.getElem_toArray, List.getElem_cons_zero, List.getElem_cons_succ, Act.put, List.setIfInBounds_toArray, List.set_cons_zero, List.set_cons_succ])
            refine' wpAnyH_take (i := 20) (v := _) rfl (by kernel_rfl) (by kernel_rfl) (by kernel_rfl) (fun _ _ _ h => h) (Or.inl ⟨by rfl, ?taq43⟩) (by assumption) ?tbq43
            case taq43 =>
              intro wS hSw
              (try dsimp only at hSw)
              (have k0 := hSw.cell 0; have k1 := hSw.cell 1; have k2 := hSw.cell 2; have k3 := hSw.cell 3; have lk := hSw.lt; simp only [List.getElem?_cons_zero, List.getElem?_cons_succ] at k0 k1 k2 k3; clear hSw; go_simp)
              (try (with_reducible rfl))
            (try simp only [List.getElem_toArray, List.getElem_cons_zero, List.getElem_cons_succ, Act.put, List.setIfInBounds_toArray, List.set_cons_zero, List.set_cons_succ])
            refine' wpAnyH_take (i := 21) (v := _) rfl (by kernel_rfl) (by kernel_rfl) (by kernel_rfl) (fun _ _ _ h => h) (Or.inl ⟨by rfl, ?taq44⟩) (by assumption) ?tbq44
            case taq44 =>
              intro wS hSw
              (try dsimp only at hSw)
              (have k0 := hSw.cell 0; have k1 := hSw.cell 1; have k2 := hSw.cell 2; have k3 := hSw.cell 3; have lk := hSw.lt; simp only [List.getElem?_cons_zero, List.getElem?_cons_succ] at k0 k1 k2 k3; clear hSw; go_simp)
              (try (with_reducible rfl))
            (try simp only [List.getElem_toArray, List.getElem_cons_zero, List.getElem_cons_succ, Act.put, List.setIfInBounds_toArray, List.set_cons_zero, List.set_cons_succ])
            have HT2 : Hid (ParsOf wc2 w9.heap.size (.slice Ap m cp) (ps.take m)) := Lib.hid (Pc2.out.takeP (by have := HMM.out; omega))
            have HMT : Hid (mayPs a b c ls ((ps.take m).map (·.c)) = false) := Lib.hid (may_len (by have := HPL.out; have := HMM.out; rw [List.length_take]; omega))
            refine wpAnyH_ready (rs := [22]) (by kernel_rfl) (by simp) ?_
            refine AllReadyH.cons rfl (fun K9 hK9 => ?_) AllReadyH.nil
            (try simp only [List.getElem_toArray, List.getElem_cons_zero, List.getElem_cons_succ])
            go_simp
            refine (pmay_any a b c _ _ ls (ps.take m) wc2 wc2.heap.size (Nat.le_refl _) ((HL.out.below HBc2.out).more HBc2.out.size) (HT2.out.more (by omega)) false HMT.out).mono ?_
            rintro en wd2 ⟨rfl, hbq⟩
            have HBd2 := Lib.hid (HBc2.out.trans (hbq.mono HBc2.out.size))
            have Kd2 := Lib.hid (Kc2.out.below hbq Kc2.out.lt)
            have Pd2 := Lib.hid (Pc2.out.below (hbq.mono (by omega)))
            have Qd2 := Lib.hid (Qc2.out.below (hbq.mono (by omega)))
            have hsd2 := hbq.size
            clear hbq HT2 HMT Pc2 Qc2 Kc2 HBc2
            refine hK9.out _ _ (Kd2.out) (fun hHeld9 => ?_)
            clear hK9 K9
            (try simp only [List.getElem_toArray, List.getElem_cons_zero, List.getElem_cons_succ, Act.put, List.setIfInBounds_toArray, List.set_cons_zero, List.set_cons_succ])
            refine' wpAnyH_take (i := 23) (v := _) rfl (by kernel_rfl) (by kernel_rfl) (by kernel_rfl) (fun _ _ _ h => h) (Or.inl ⟨by rfl, ?taq45⟩) (by assumption) ?tbq45
            case taq45 =>
              intro wS hSw
              (try dsimp only at hSw)
              go_simp
              (try (with_reducible rfl))
            (try simp only [List.getElem_toArray, List.getElem_cons_zero, List.getElem_cons_succ, Act.put, List.setIfInBounds_toArray, List.set_cons_zero, List.set_cons_succ])
            refine' wpAnyH_take (i := 24) (v := _) rfl (by kernel_rfl) (by kernel_rfl) (by kernel_rfl) (fun _ _ _ h => h) (Or.inl ⟨by rfl, ?taq46⟩) (by assumption) ?tbq46
            case taq46 =>
              intro wS hSw
              (try dsimp only at hSw)
              go_simp
              (try (with_reducible rfl))
            (try simp only [List.getElem_toArray, List.getElem_cons_zero, List.getElem_cons_succ, Act.put, List.setIfInBounds_toArray, List.set_cons_zero, List.set_cons_succ])
            refine' wpAnyH_take (i := 25) (v := _) rfl (by kernel_rfl) (by kernel_rfl) (by kernel_rfl) (fun _ _ _ h => h) (Or.inl ⟨by rfl, ?taq47⟩) (by assumption) ?tbq47
            case taq47 =>
              intro wS hSw
              (try dsimp only at hSw)
              go_simp
              (try (with_reducible rfl))
            (try simp only [List.getElem_toArray, List.getElem_cons_zero, List.getElem_cons_succ, Act.put, List.setIfInBounds_toArray, List.set_cons_zero, List.set_cons_succ])
            refine' wpAnyH_take (i := 26) (v := _) rfl (by kernel_rfl) (by kernel_rfl) (by kernel_rfl) (fun _ _ _ h => h) (Or.inl ⟨by rfl, ?taq48⟩) (by assumption) ?tbq48
            case taq48 =>
              intro wS hSw
              (try dsimp only at hSw)
              go_simp
              (try (with_reducible rfl))
            (try simp only [List.getElem_toArray, List.getElem_cons_zero, List.getElem_cons_succ, Act.put, List.setIfInBounds_toArray, List.set_cons_zero, List.set_cons_succ])
            refine' wpAnyH_take (i := 27) (v := _) rfl (by kernel_rfl) (by kernel_rfl) (by kernel_rfl) (fun _ _ _ h => h) (Or.inl ⟨by rfl, ?taq49⟩) (by assumption) ?tbq49
            case taq49 =>
              intro wS hSw
              (try dsimp only at hSw)
              go_simp
              (try (with_reducible rfl))
            (try simp only [List.getElem_toArray, List.getElem_cons_zero, List.getElem_cons_succ, Act.put, List.setIfInBounds_toArray, List.set_cons_zero, List.set_cons_succ])
            refine wpAnyH_ready (rs := [28]) (by kernel_rfl) (by simp) ?_
            refine AllReadyH.cons rfl (fun K9 hK9 => ?_) AllReadyH.nil
            (try simp only [List.getElem_toArray, List.getElem_cons_zero, List.getElem_cons_succ])
            go_simp
            refine (psame_any ps ps _ _ w9.heap.size wd2 (by omega) Pd2.out Pd2.out true (sameCs_refl _)).mono ?_
            rintro en we2 ⟨rfl, hbq⟩
            have HBe2 := Lib.hid (HBd2.out.trans (hbq.mono HBd2.out.size))
            have Ke2 := Lib.hid (Kd2.out.below hbq Kd2.out.lt)
            have Pe2 := Lib.hid (Pd2.out.below (hbq.mono (by omega)))
            have Qe2 := Lib.hid (Qd2.out.below (hbq.mono (by omega)))
            have hse2 := hbq.size
            clear hbq Pd2 Qd2 Kd2 HBd2
            refine hK9.out _ _ (Ke2.out) (fun hHeld9 => ?_)
            clear hK9 K9
            (try simp only [List.getElem_toArray, List.getElem_cons_zero, List.getElem_cons_succ, Act.put, List.setIfInBounds_toArray, List.set_cons_zero, List.set_cons_succ])
            refine' wpAnyH_take (i := 29) (v := _) rfl (by kernel_rfl) (by kernel_rfl) (by kernel_rfl) (fun _ _ _ h => h) (Or.inl ⟨by rfl, ?taq50⟩) (by assumption) ?tbq50
            case taq50 =>
              intro wS hSw
              (try dsimp only at hSw)
              go_simp
              (try (with_reducible rfl))
            (try simp only [List.getElem_toArray, List.getElem_cons_zero, List.getElem_cons_succ, Act.put, List.setIfInBounds_toArray, List.set_cons_zero, List.set_cons_succ])
            refine' wpAnyH_take (i := 30) (v := _) rfl (by kernel_rfl) (by kernel_rfl) (by kernel_rfl) (fun _ _ _ h => h) (Or.inl ⟨by rfl, ?taq51⟩) (by assumption) ?tbq51
            case taq51 =>
              intro wS hSw
              (try dsimp only at hSw)
              go_simp
              (try (with_reducible rfl))
            (try simp only [List.getElem_toArray, List.getElem_cons_zero, List.getElem_cons_succ, Act.put, List.setIfInBounds_toArray, List.set_cons_zero, List.set_cons_succ])
            refine' wpAnyH_take (i := 31) (v := _) rfl (by kernel_rfl) (by kernel_rfl) (by kernel_rfl) (fun _ _ _ h => h) (Or.inl ⟨by rfl, ?taq52⟩) (by assumption) ?tbq52
            case taq52 =>
              intro wS hSw
              (try dsimp only at hSw)
              go_simp
              (try (with_reducible rfl))
            (try simp only [List.getElem_toArray, List.getElem_cons_zero, List.getElem_cons_succ, Act.put, List.setIfInBounds_toArray, List.set_cons_zero, List.set_cons_succ])
            refine' wpAnyH_take (i := 32) (v := _) rfl (by kernel_rfl) (by kernel_rfl) (by kernel_rfl) (fun _ _ _ h => h) (Or.inl ⟨by rfl, ?taq53⟩) (by assumption) ?tbq53
            case taq53 =>
              intro wS hSw
              (try dsimp only at hSw)
              go_simp
              (try (with_reducible rfl))
            (try simp only [List.getElem_toArray, List.getElem_cons_zero, List.getElem_cons_succ, Act.put, List.setIfInBounds_toArray, List.set_cons_zero, List.set_cons_succ])
            refine wpAnyH_ready (rs := [33]) (by kernel_rfl) (by simp) ?_
            refine AllReadyH.cons rfl (fun K9 hK9 => ?_) AllReadyH.nil
            (try simp only [List.getElem_toArray, List.getElem_cons_zero, List.getElem_cons_succ])
            go_simp
            refine (psame_any ps (ps.set j ⟨.slice B1 pq.wd.length d1, .slice B2 pq.wx.length d2, .slice B3 pq.m.length d3, .slice B4 pq.bd.length d4, .slice B5 pq.bx.length d5, pq⟩) _ _ w9.heap.size we2 (by omega) Pe2.out Qe2.out false HSQ.out).mono ?_
            rintro en wf2 ⟨rfl, hbq⟩
            have HBf2 := Lib.hid (HBe2.out.trans (hbq.mono HBe2.out.size))
            have Kf2 := Lib.hid (Ke2.out.below hbq Ke2.out.lt)
            clear hbq Pe2 Qe2 Ke2 HBe2
            refine hK9.out _ _ (Kf2.out) (fun hHeld9 => ?_)
            clear hK9 K9
            (try simp only [List.getElem_toArray, List.getElem_cons_zero, List.getElem_cons_succ, Act.put, List.setIfInBounds_toArray, List.set_cons_zero, List.set_cons_succ])
            refine' wpAnyH_take (i := 34) (v := _) rfl (by kernel_rfl) (by kernel_rfl) (by kernel_rfl) (fun _ _ _ h => h) (Or.inl ⟨by rfl, ?taq54⟩) (by assumption) ?tbq54
            case taq54 =>
              intro wS hSw
              (try dsimp only at hSw)
              go_simp
              (try (with_reducible rfl))
            (try simp only [List.getElem_toArray, List.getElem_cons_zero, List.getElem_cons_succ, Act.put, List.setIfInBounds_toArray, List.set_cons_zero, List.set_cons_succ])
            refine' wpAnyH_take (i := 35) (v := _) rfl (by kernel_rfl) (by kernel_rfl) (by kernel_rfl) (fun _ _ _ h => h) (Or.inl ⟨by rfl, ?taq55⟩) (by assumption) ?tbq55
            case taq55 =>
              intro wS hSw
              (try dsimp only at hSw)
              go_simp
              (try (with_reducible rfl))
            (try simp only [List.getElem_toArray, List.getElem_cons_zero, List.getElem_cons_succ, Act.put, List.setIfInBounds_toArray, List.set_cons_zero, List.set_cons_succ])
            refine' wpAnyH_take (i := 36) (v := _) rfl (by kernel_rfl) (by kernel_rfl) (by kernel_rfl) (fun _ _ _ h => h) (Or.inl ⟨by rfl, ?taq56⟩) (by assumption) ?tbq56
            case taq56 =>
              intro wS hSw
              (try dsimp only at hSw)
              go_simp
              (try (with_reducible rfl))
            (try simp only [List.getElem_toArray, List.getElem_cons_zero, List.getElem_cons_succ, Act.put, List.setIfInBounds_toArray, List.set_cons_zero, List.set_cons_succ])
            refine wpAnyH_ready (rs := [37]) (by kernel_rfl) (by simp) ?_
            refine AllReadyH.cons rfl (fun K9 hK9 => ?_) AllReadyH.nil
            (try simp only [List.getElem_toArray, List.getElem_cons_zero, List.getElem_cons_succ])
            go_simp
            refine (awake17_any _).mono ?_
            rintro en wg2 ⟨rfl, hbq⟩
            have HBg2 := Lib.hid (HBf2.out.trans (hbq.mono HBf2.out.size))
            have Kg2 := Lib.hid (Kf2.out.below hbq Kf2.out.lt)
            clear hbq Kf2 HBf2
            refine hK9.out _ _ (Kg2.out) (fun hHeld9 => ?_)
            clear hK9 K9
            (try simp only [List.getElem_toArray, List.getElem_cons_zero, List.getElem_cons_succ, Act.put, List.setIfInBounds_toArray, List.set_cons_zero, List.set_cons_succ])
            refine' wpAnyH_take (i := 38) (v := _) rfl (by kernel_rfl) (by kernel_rfl) (by kernel_rfl) (fun _ _ _ h => h) (Or.inl ⟨by rfl, ?taq57⟩) (by assumption) ?tbq57
            case taq57 =>
              intro wS hSw
              (try dsimp only at hSw)
              go_simp
              (try (with_reducible rfl))
            (try simp only [List.getElem_toArray, List.getElem_cons_zero, List.getElem_cons_succ, Act.put, List.setIfInBounds_toArray, List.set_cons_zero, List.set_cons_succ])
            refine' wpAnyH_take (i := 39) (v := _) rfl (by kernel_rfl) (by kernel_rfl) (by kernel_rfl) (fun _ _ _ h => h) (Or.inl ⟨by rfl, ?taq58⟩) (by assumption) ?tbq58
            case taq58 =>
              intro wS hSw
              (try dsimp only at hSw)
              go_simp
              (try (with_reducible rfl))
            (try simp only [List.getElem_toArray, List.getElem_cons_zero, List.getElem_cons_succ, Act.put, List.setIfInBounds_toArray, List.set_cons_zero, List.set_cons_succ])
            refine wpAnyH_done (by kernel_rfl) ?_ _
            go_wp2
            go_ret
            exact ⟨rfl, HBg2.out⟩
          ·
            (try simp only [List.getElem_toArray, List.getElem_cons_zero, List.getElem_cons_succ])
            go_simp
            refine hK9.out _ _ (((K9'.out.alloc _).alloc _)) (fun hHeld9 => ?_)
            clear hK9 K9
            (try simp only [List.getElem_toArray, List.getElem_cons_zero, List.getElem_cons_succ, Act.put, List.setIfInBounds_toArray, List.set_cons_zero, List.set_cons_succ])
            refine wpAnyH_ready (rs := [8]) (by kernel_rfl) (by simp) ?_
            refine AllReadyH.cons rfl (fun K9 hK9 => ?_) AllReadyH.nil
            (try simp only [List.getElem_toArray, List.getElem_cons_zero, List.getElem_cons_succ])
            rw [if_pos (by rfl)]
            refine wp_extendN elem_par ((w9.alloc (.cells #[] 60)).alloc (.cells #[.slice none 0 0, .int .i64 0, .slice none 0 0, .slice none 0 0, .slice none 0 0, .int .i64 0, .slice none 0 0] 60)) _ _ (by rfl) w9.heap.size 0 _ [] (by rfl) ((own_emptyP _ _ _ 7 _ (by simp) (Nat.le_refl _)).alloc _) _ ps.length _ (ps.flatMap ParV.cells) (by rfl) (P9.out.rd.below (by first | exact (Below.refl _ _).alloc (Nat.le_refl _) _ | exact ((Below.refl _ _).alloc (Nat.le_refl _) _).alloc (by simp) _)) L9.out O9.out (by unfold maxLen; omega) (by omega) (by simp only [World.size_alloc]; omega) ?_
            intro A8 c8 wa hown8 hg8 hf8
            simp only [Nat.zero_add, List.nil_append] at hown8 ⊢
            refine hK9.out _ _ (((by first | exact K9'.out.alloc _ | exact (K9'.out.alloc _).alloc _ : Blk _ _ _ _).grown hg8 (by intro he; have h1 := Option.some.inj he; have h2 := K9'.out.lt; simp at h1; omega))) (fun hHeld9 => ?_)
            clear hK9 K9
            (try simp only [List.getElem_toArray, List.getElem_cons_zero, List.getElem_cons_succ, Act.put, List.setIfInBounds_toArray, List.set_cons_zero, List.set_cons_succ])
            have hbx : Below w9.heap.size w9 wa := (((Below.refl _ w9).alloc (Nat.le_refl _) (.cells #[] 60)).alloc (by simp) (.cells #[.slice none 0 0, .int .i64 0, .slice none 0 0, .slice none 0 0, .slice none 0 0, .int .i64 0, .slice none 0 0] 60)).grown hg8 (by simp only [World.size_alloc]; omega) (fun k hk => by have hk2 := Option.some.inj hk; simp at hk2; omega)
            have HBz := Lib.hid (HB9.out.trans (hbx.mono HB9.out.size))
            have Kz := Lib.hid (K9'.out.below hbx K9'.out.lt)
            have P9z := Lib.hid (P9.out.below hbx)
            have Q9z := Lib.hid (Q9.out.below hbx)
            have SZ9 := hbx.size
            have KZ := Lib.hid (by have h := Blk.fresh (w9.alloc (.cells #[] 60)) 60 [.slice none 0 0, .int .i64 0, .slice none 0 0, .slice none 0 0, .slice none 0 0, .int .i64 0, .slice none 0 0]; rw [World.size_alloc] at h; exact h.grown hg8 (by intro he; have h1 := Option.some.inj he; simp at h1))
            have OW8 := Lib.hid (hown8)
            clear hbx P9 Q9
            generalize wa = wz at HBz Kz P9z Q9z SZ9 KZ OW8 hHeld9 ⊢
            refine wpAnyH_ready (rs := [11]) (by kernel_rfl) (by simp) ?_
            refine AllReadyH.cons rfl (fun K9 hK9 => ?_) AllReadyH.nil
            (try simp only [List.getElem_toArray, List.getElem_cons_zero, List.getElem_cons_succ])
            rw [if_pos (by rfl)]
            refine wp_extendN elem_par wz _ _ (by rfl) w9.heap.size ps.length _ _ (by rfl) OW8.out _ 1 _ [.slice none 0 0, .int .i64 0, .slice none 0 0, .slice none 0 0, .slice none 0 0, .int .i64 0, .slice none 0 0] (by rfl) (KZ.out.readsN (sz := 7) (n := 1) rfl (by unfold maxLen; omega)) rfl (by intro u hu; simp only [List.mem_cons, List.not_mem_nil, or_false] at hu; rcases hu with rfl | rfl | rfl | rfl | rfl | rfl | rfl <;> rfl) (by unfold maxLen; omega) (by omega) SZ9 ?_
            intro Ab9 cb9 wb hown9 hg9 hf9
            have hbx : Below w9.heap.size wz wb := (Below.refl _ _).grown hg9 SZ9 (fun k hk => (OW8.out.lt k hk).1)
            refine hK9.out _ _ ((Kz.out.grown hg9 (by intro he; have h1 := (OW8.out.lt _ he.symm).1; have h2 := K9'.out.lt; omega))) (fun hHeld9 => ?_)
            clear hK9 K9
            (try simp only [List.getElem_toArray, List.getElem_cons_zero, List.getElem_cons_succ, Act.put, List.setIfInBounds_toArray, List.set_cons_zero, List.set_cons_succ])
            have HBb := Lib.hid (HBz.out.trans (hbx.mono (by have := HB9.out.size; omega)))
            have Kb := Lib.hid (Kz.out.below hbx K9'.out.lt)
            have Pb := Lib.hid (P9z.out.below hbx)
            have Qb := Lib.hid (Q9z.out.below hbx)
            have hsb := hbx.size
            have hqz : ParsOf wb wb.heap.size (.slice Ab9 (ps.length + 1) cb9) (ps ++ [zeroV]) := by
              have e9 : ps.flatMap ParV.cells ++ [.slice none 0 0, .int .i64 0, .slice none 0 0, .slice none 0 0, .slice none 0 0, .int .i64 0, .slice none 0 0] = (ps ++ [zeroV]).flatMap ParV.cells := by rw [List.flatMap_append]; rfl
              rw [e9] at hown9
              refine ⟨ReadsN.of_own (by omega) hown9, Lib.hid (fun e he => ?_), ⟨_, _, by rw [List.length_append]; rfl⟩, by simp only [List.length_append, List.length_cons, List.length_nil]; omega⟩
              rcases List.mem_append.1 he with he | he
              · exact (Pb.out.ok.out e he).more (by omega)
              · rw [List.mem_singleton.1 he]
                exact (zeroV_in (fun _ => True) wb).ok
            have HQZ := Lib.hid hqz
            have HMZ : Hid (mayPs a b c ls ((ps ++ [zeroV]).map (·.c)) = false) := Lib.hid (may_len (by have := HPL.out; simp only [List.length_append, List.length_cons, List.length_nil]; omega))
            clear hqz hown9 hg9 hf9 hbx
            refine wpAnyH_ready (rs := [12]) (by kernel_rfl) (by simp) ?_
            refine AllReadyH.cons rfl (fun K9 hK9 => ?_) AllReadyH.nil
            (try simp only [List.getElem_toArray, List.getElem_cons_zero, List.getElem_cons_succ])
            go_simp
            refine (pmay_any a b c _ _ ls (ps ++ [zeroV]) wb wb.heap.size (Nat.le_refl _) ((HL.out.below HBb.out).more HBb.out.size) HQZ.out false HMZ.out).mono ?_
            rintro en wc2 ⟨rfl, hbq⟩
            have HBc2 := Lib.hid (HBb.out.trans (hbq.mono HBb.out.size))
            have Kc2 := Lib.hid (Kb.out.below hbq Kb.out.lt)
            have Pc2 := Lib.hid (Pb.out.below (hbq.mono (by omega)))
            have Qc2 := Lib.hid (Qb.out.below (hbq.mono (by omega)))
            have hsc2 := hbq.size
            clear hbq HQZ HMZ Pb Qb Kb HBb
            refine hK9.out _ _ (Kc2.out) (fun hHeld9 => ?_)
            clear hK9 K9
            (try simp only [List.getElem_toArray, List.getElem_cons_zero, List.getElem_cons_succ, Act.put, List.setIfInBounds_toArray, List.set_cons_zero, List.set_cons_succ])
            refine' wpAnyH_take (i := 13) (v := _) rfl (by kernel_rfl) (by kernel_rfl) (by kernel_rfl) (fun _ _ _ h => h) (Or.inl ⟨by rfl, ?taq59⟩) (by assumption) ?tbq59
            case taq59 =>
              intro wS hSw
              (try dsimp only at hSw)
              (have k0 := hSw.cell 0; have k1 := hSw.cell 1; have k2 := hSw.cell 2; have k3 := hSw.cell 3; have lk := hSw.lt; simp only [List.getElem?_cons_zero, List.getElem?_cons_succ] at k0 k1 k2 k3; clear hSw; go_simp)
              (try (with_reducible rfl))
            (try simp only [List.getElem_toArray, List.getElem_cons_zero, List.getElem_cons_succ, Act.put, List.setIfInBounds_toArray, List.set_cons_zero, List.set_cons_succ])
            refine' wpAnyH_take (i := 14) (v := _) rfl (by kernel_rfl) (by kernel_rfl) (by kernel_rfl) (fun _ _ _ h => h) (Or.inl ⟨by rfl, ?taq60⟩) (by assumption) ?tbq60
            case taq60 =>
              intro wS hSw
              (try dsimp only at hSw)
              (have k0 := hSw.cell 0; have k1 := hSw.cell 1; have k2 := hSw.cell 2; have k3 := hSw.cell 3; have lk := hSw.lt; simp only [List.getElem?_cons_zero, List.getElem?_cons_succ] at k0 k1 k2 k3; clear hSw; go_simp)
              (try (with_reducible rfl))
            (try simp only [List.getElem_toArray, List.getElem_cons_zero, List.getElem_cons_succ, Act.put, List.setIfInBounds_toArray, List.set_cons_zero, List.set_cons_succ])
            refine' wpAnyH_take (i := 15) (v := _) rfl (by kernel_rfl) (by kernel_rfl) (by kernel_rfl) (fun _ _ _ h => h) (Or.inl ⟨by rfl, ?taq61⟩) (by assumption) ?tbq61
            case taq61 =>
              intro wS hSw
              (try dsimp only at hSw)
              (have k0 := hSw.cell 0; have k1 := hSw.cell 1; have k2 := hSw.cell 2; have k3 := hSw.cell 3; have lk := hSw.lt; simp only [List.getElem?_cons_zero, List.getElem?_cons_succ] at k0 k1 k2 k3; clear hSw; go_simp)
              (try (with_reducible rfl))
            (try simp only [List.getElem_toArray, List.getElem_cons_zero, List.getElem_cons_succ, Act.put, List.setIfInBounds_toArray, List.set_cons_zero, List.set_cons_succ])
            refine' wpAnyH_take (i := 16) (v := _) rfl (by kernel_rfl) (by kernel_rfl) (by kernel_rfl) (fun _ _ _ h => h) (Or.inl ⟨by rfl, ?taq62⟩) (by assumption) ?tbq62
            case taq62 =>
              intro wS hSw
              (try dsimp only at hSw)
              (have k0 := hSw.cell 0; have k1 := hSw.cell 1; have k2 := hSw.cell 2; have k3 := hSw.cell 3; have lk := hSw.lt; simp only [List.getElem?_cons_zero, List.getElem?_cons_succ] at k0 k1 k2 k3; clear hSw; go_simp)
              (try (with_reducible rfl))
            (try simp only [List.getElem_toArray, List.getElem_cons_zero, List.getElem_cons_succ, Act.put, List.setIfInBounds_toArray, List.set_cons_zero, List.set_cons_succ])
            refine' wpAnyH_take (i := 17) (v := _) rfl (by kernel_rfl) (by kernel_rfl) (by kernel_rfl) (fun _ _ _ h => h) (Or.inl ⟨by rfl, ?taq63⟩) (by assumption) ?tbq63
            case taq63 =>
              intro wS hSw
              (try dsimp only at hSw)
              (have k0 := hSw.cell 0; have k1 := hSw.cell 1; have k2 := hSw.cell 2; have k3 := hSw.cell 3; have lk := hSw.lt; simp only [List.getElem?_cons_zero, List.getElem?_cons_succ] at k0 k1 k2 k3; clear hSw; go_simp)
              (try (with_reducible rfl))
            (try simp only [List.getElem_toArray, List.getElem_cons_zero, List.getElem_cons_succ, Act.put, List.setIfInBounds_toArray, List.set_cons_zero, List.set_cons_succ])
            refine' wpAnyH_take (i := 18) (v := _) rfl (by kernel_rfl) (by kernel_rfl) (by kernel_rfl) (fun _ _ _ h => h) (Or.inl ⟨by rfl, ?taq64⟩) (by assumption) ?tbq64
            case taq64 =>
              intro wS hSw
              (try dsimp only at hSw)
              (have k0 := hSw.cell 0; have k1 := hSw.cell 1; have k2 := hSw.cell 2; have k3 := hSw.cell 3; have lk := hSw.lt; simp only [List.getElem?_cons_zero, List.getElem?_cons_succ] at k0 k1 k2 k3; clear hSw; go_simp)
              (try (with_reducible rfl))
            (try simp only [List.getElem_toArray, List.getElem_cons_zero, List.getElem_cons_succ, Act.put, List.setIfInBounds_toArray, List.set_cons_zero, List.set_cons_succ])
            refine' wpAnyH_take (i := 19) (v := _) rfl (by kernel_rfl) (by kernel_rfl) (by kernel_rfl) (fun _ _ _ h => h) (Or.inl ⟨by rfl, ?taq65⟩) (by assumption) ?tbq65
            case taq65 =>
              intro wS hSw
              (try dsimp only at hSw)
              (have k0 := hSw.cell 0; have k1 := hSw.cell 1; have k2 := hSw.cell 2; have k3 := hSw.cell 3; have lk := hSw.lt; simp only [List.getElem?_cons_zero, List.getElem?_cons_succ] at k0 k1 k2 k3; clear hSw; go_simp)
              (try (with_reducible rfl))
            (try simp only [List.getElem_toArray, List.getElem_cons_zero, List.getElem_cons_succ, Act.put, List.setIfInBounds_toArray, List.set_cons_zero, List.set_cons_succ])
            refine' wpAnyH_take (i := 20) (v := _) rfl (by kernel_rfl) (by kernel_rfl) (by kernel_rfl) (fun _ _ _ h => h) (Or.inl ⟨by rfl, ?taq66⟩) (by assumption) ?tbq66
            case taq66 =>
              intro wS hSw
              (try dsimp only at hSw)
              (have k0 := hSw.cell 0; have k1 := hSw.cell 1; have k2 := hSw.cell 2; have k3 := hSw.cell 3; have lk := hSw.lt; simp only [List.getElem?_cons_zero, List.getElem?_cons_succ] at k0 k1 k2 k3; clear hSw; go_simp)
              (try (with_reducible rfl))
            (try simp only [List.getElem_toArray, List.getElem_cons_zero, List.getElem_cons_succ, Act.put, List.setIfInBounds_toArray, List.set_cons_zero, List.set_cons_succ])
            refine' wpAnyH_take (i := 21) (v := _) rfl (by kernel_rfl) (by kernel_rfl) (by kernel_rfl) (fun _ _ _ h => h) (Or.inl ⟨by rfl, ?taq67⟩) (by assumption) ?tbq67
            case taq67 =>
              intro wS hSw
              (try dsimp only at hSw)
              (have k0 := hSw.cell 0; have k1 := hSw.cell 1; have k2 := hSw.cell 2; have k3 := hSw.cell 3; have lk := hSw.lt; simp only [List.getElem?_cons_zero, List.getElem?_cons_succ] at k0 k1 k2 k3; clear hSw; go_simp)
              (try (with_reducible rfl))
            (try simp only [List.getElem_toArray, List.getElem_cons_zero, List.getElem_cons_succ, Act.put, List.setIfInBounds_toArray, List.set_cons_zero, List.set_cons_succ])
            have HT2 : Hid (ParsOf wc2 w9.heap.size (.slice Ap m cp) (ps.take m)) := Lib.hid (Pc2.out.takeP (by have := HMM.out; omega))
            have HMT : Hid (mayPs a b c ls ((ps.take m).map (·.c)) = false) := Lib.hid (may_len (by have := HPL.out; have := HMM.out; rw [List.length_take]; omega))
            refine wpAnyH_ready (rs := [22]) (by kernel_rfl) (by simp) ?_
            refine AllReadyH.cons rfl (fun K9 hK9 => ?_) AllReadyH.nil
            (try simp only [List.getElem_toArray, List.getElem_cons_zero, List.getElem_cons_succ])
            go_simp
            refine (pmay_any a b c _ _ ls (ps.take m) wc2 wc2.heap.size (Nat.le_refl _) ((HL.out.below HBc2.out).more HBc2.out.size) (HT2.out.more (by omega)) false HMT.out).mono ?_
            rintro en wd2 ⟨rfl, hbq⟩
            have HBd2 := Lib.hid (HBc2.out.trans (hbq.mono HBc2.out.size))
            have Kd2 := Lib.hid (Kc2.out.below hbq Kc2.out.lt)
            have Pd2 := Lib.hid (Pc2.out.below (hbq.mono (by omega)))
            have Qd2 := Lib.hid (Qc2.out.below (hbq.mono (by omega)))
            have hsd2 := hbq.size
            clear hbq HT2 HMT Pc2 Qc2 Kc2 HBc2
            refine hK9.out _ _ (Kd2.out) (fun hHeld9 => ?_)
            clear hK9 K9
            (try simp only [List.getElem_toArray, List.getElem_cons_zero, List.getElem_cons_succ, Act.put, List.setIfInBounds_toArray, List.set_cons_zero, List.set_cons_succ])
            refine' wpAnyH_take (i := 23) (v := _) rfl (by kernel_rfl) (by kernel_rfl) (by kernel_rfl) (fun _ _ _ h => h) (Or.inl ⟨by rfl, ?taq68⟩) (by assumption) ?tbq68
            case taq68 =>
              intro wS hSw
              (try dsimp only at hSw)
              go_simp
              (try (with_reducible rfl))
            (try simp only [List.getElem_toArray, List.getElem_cons_zero, List.getElem_cons_succ, Act.put, List.setIfInBounds_toArray, List.set_cons_zero, List.set_cons_succ])
            refine' wpAnyH_take (i := 24) (v := _) rfl (by kernel_rfl) (by kernel_rfl) (by kernel_rfl) (fun _ _ _ h => h) (Or.inl ⟨by rfl, ?taq69⟩) (by assumption) ?tbq69
            case taq69 =>
              intro wS hSw
              (try dsimp only at hSw)
              go_simp
              (try (with_reducible rfl))
            (try simp only [List.getElem_toArray, List.getElem_cons_zero, List.getElem_cons_succ, Act.put, List.setIfInBounds_toArray, List.set_cons_zero, List.set_cons_succ])
            refine' wpAnyH_take (i := 25) (v := _) rfl (by kernel_rfl) (by kernel_rfl) (by kernel_rfl) (fun _ _ _ h => h) (Or.inl ⟨by rfl, ?taq70⟩) (by assumption) ?tbq70
            case taq70 =>
              intro wS hSw
              (try dsimp only at hSw)
              go_simp
              (try (with_reducible rfl))
            (try simp only [List.getElem_toArray, List.getElem_cons_zero, List.getElem_cons_succ, Act.put, List.setIfInBounds_toArray, List.set_cons_zero, List.set_cons_succ])
            refine' wpAnyH_take (i := 26) (v := _) rfl (by kernel_rfl) (by kernel_rfl) (by kernel_rfl) (fun _ _ _ h => h) (Or.inl ⟨by rfl, ?taq71⟩) (by assumption) ?tbq71
            case taq71 =>
              intro wS hSw
              (try dsimp only at hSw)
              go_simp
              (try (with_reducible rfl))
            (try simp only [List.getElem_toArray, List.getElem_cons_zero, List.getElem_cons_succ, Act.put, List.setIfInBounds_toArray, List.set_cons_zero, List.set_cons_succ])
            refine' wpAnyH_take (i := 27) (v := _) rfl (by kernel_rfl) (by kernel_rfl) (by kernel_rfl) (fun _ _ _ h => h) (Or.inl ⟨by rfl, ?taq72⟩) (by assumption) ?tbq72
            case taq72 =>
              intro wS hSw
              (try dsimp only at hSw)
              go_simp
              (try (with_reducible rfl))
            (try simp only [List.getElem_toArray, List.getElem_cons_zero, List.getElem_cons_succ, Act.put, List.setIfInBounds_toArray, List.set_cons_zero, List.set_cons_succ])
            refine wpAnyH_ready (rs := [28]) (by kernel_rfl) (by simp) ?_
            refine AllReadyH.cons rfl (fun K9 hK9 => ?_) AllReadyH.nil
            (try simp only [List.getElem_toArray, List.getElem_cons_zero, List.getElem_cons_succ])
            go_simp
            refine (psame_any ps ps _ _ w9.heap.size wd2 (by omega) Pd2.out Pd2.out true (sameCs_refl _)).mono ?_
            rintro en we2 ⟨rfl, hbq⟩
            have HBe2 := Lib.hid (HBd2.out.trans (hbq.mono HBd2.out.size))
            have Ke2 := Lib.hid (Kd2.out.below hbq Kd2.out.lt)
            have Pe2 := Lib.hid (Pd2.out.below (hbq.mono (by omega)))
            have Qe2 := Lib.hid (Qd2.out.below (hbq.mono (by omega)))
            have hse2 := hbq.size
            clear hbq Pd2 Qd2 Kd2 HBd2
            refine hK9.out _ _ (Ke2.out) (fun hHeld9 => ?_)
            clear hK9 K9
            (try simp only [List.getElem_toArray, List.getElem_cons_zero, List.getElem_cons_succ, Act.put, List.setIfInBounds_toArray, List.set_cons_zero, List.set_cons_succ])
            refine' wpAnyH_take (i := 29) (v := _) rfl (by kernel_rfl) (by kernel_rfl) (by kernel_rfl) (fun _ _ _ h => h) (Or.inl ⟨by rfl, ?taq73⟩) (by assumption) ?tbq73
            case taq73 =>
              intro wS hSw
              (try dsimp only at hSw)
              go_simp
              (try (with_reducible rfl))
            (try simp only [List.getElem_toArray, List.getElem_cons_zero, List.getElem_cons_succ, Act.put, List.setIfInBounds_toArray, List.set_cons_zero, List.set_cons_succ])
            refine' wpAnyH_take (i := 30) (v := _) rfl (by kernel_rfl) (by kernel_rfl) (by kernel_rfl) (fun _ _ _ h => h) (Or.inl ⟨by rfl, ?taq74⟩) (by assumption) ?tbq74
            case taq74 =>
              intro wS hSw
              (try dsimp only at hSw)
              go_simp
              (try (with_reducible rfl))
            (try simp only [List.getElem_toArray, List.getElem_cons_zero, List.getElem_cons_succ, Act.put, List.setIfInBounds_toArray, List.set_cons_zero, List.set_cons_succ])
            refine' wpAnyH_take (i := 31) (v := _) rfl (by kernel_rfl) (by kernel_rfl) (by kernel_rfl) (fun _ _ _ h => h) (Or.inl ⟨by rfl, ?taq75⟩) (by assumption) ?tbq75
            case taq75 =>
              intro wS hSw
              (try dsimp only at hSw)
              go_simp
              (try (with_reducible rfl))
            (try simp only [List.getElem_toArray, List.getElem_cons_zero, List.getElem_cons_succ, Act.put, List.setIfInBounds_toArray, List.set_cons_zero, List.set_cons_succ])
            refine' wpAnyH_take (i := 32) (v := _) rfl (by kernel_rfl) (by kernel_rfl) (by kernel_rfl) (fun _ _ _ h => h) (Or.inl ⟨by rfl, ?taq76⟩) (by assumption) ?tbq76
            case taq76 =>
              intro wS hSw
              (try dsimp only at hSw)
              go_simp
              (try (with_reducible rfl))
            (try simp only [List.getElem_toArray, List.getElem_cons_zero, List.getElem_cons_succ, Act.put, List.setIfInBounds_toArray, List.set_cons_zero, List.set_cons_succ])
            refine wpAnyH_ready (rs := [33]) (by kernel_rfl) (by simp) ?_
            refine AllReadyH.cons rfl (fun K9 hK9 => ?_) AllReadyH.nil
            (try simp only [List.getElem_toArray, List.getElem_cons_zero, List.getElem_cons_succ])
            go_simp
            refine (psame_any ps (ps.set j ⟨.slice B1 pq.wd.length d1, .slice B2 pq.wx.length d2, .slice B3 pq.m.length d3, .slice B4 pq.bd.length d4, .slice B5 pq.bx.length d5, pq⟩) _ _ w9.heap.size we2 (by omega) Pe2.out Qe2.out false HSQ.out).mono ?_
            rintro en wf2 ⟨rfl, hbq⟩
            have HBf2 := Lib.hid (HBe2.out.trans (hbq.mono HBe2.out.size))
            have Kf2 := Lib.hid (Ke2.out.below hbq Ke2.out.lt)
            clear hbq Pe2 Qe2 Ke2 HBe2
            refine hK9.out _ _ (Kf2.out) (fun hHeld9 => ?_)
            clear hK9 K9
            (try simp only [List.getElem_toArray, List.getElem_cons_zero, List.getElem_cons_succ, Act.put, List.setIfInBounds_toArray, List.set_cons_zero, List.set_cons_succ])
            refine' wpAnyH_take (i := 34) (v := _) rfl (by kernel_rfl) (by kernel_rfl) (by kernel_rfl) (fun _ _ _ h => h) (Or.inl ⟨by rfl, ?taq77⟩) (by assumption) ?tbq77
            case taq77 =>
              intro wS hSw
              (try dsimp only at hSw)
              go_simp
              (try (with_reducible rfl))
            (try simp only [List.getElem_toArray, List.getElem_cons_zero, List.getElem_cons_succ, Act.put, List.setIfInBounds_toArray, List.set_cons_zero, List.set_cons_succ])
            refine' wpAnyH_take (i := 35) (v := _) rfl (by kernel_rfl) (by kernel_rfl) (by kernel_rfl) (fun _ _ _ h => h) (Or.inl ⟨by rfl, ?taq78⟩) (by assumption) ?tbq78
            case taq78 =>
              intro wS hSw
              (try dsimp only at hSw)
              go_simp
              (try (with_reducible rfl))
            (try simp only [List.getElem_toArray, List.getElem_cons_zero, List.getElem_cons_succ, Act.put, List.setIfInBounds_toArray, List.set_cons_zero, List.set_cons_succ])
            refine' wpAnyH_take (i := 36) (v := _) rfl (by kernel_rfl) (by kernel_rfl) (by kernel_rfl) (fun _ _ _ h => h) (Or.inl ⟨by rfl, ?taq79⟩) (by assumption) ?tbq79
            case taq79 =>
              intro wS hSw
              (try dsimp only at hSw)
              go_simp
              (try (with_reducible rfl))
            (try simp only [List.getElem_toArray, List.getElem_cons_zero, List.getElem_cons_succ, Act.put, List.setIfInBounds_toArray, List.set_cons_zero, List.set_cons_succ])
            refine wpAnyH_ready (rs := [37]) (by kernel_rfl) (by simp) ?_
            refine AllReadyH.cons rfl (fun K9 hK9 => ?_) AllReadyH.nil
            (try simp only [List.getElem_toArray, List.getElem_cons_zero, List.getElem_cons_succ])
            go_simp
            refine (awake17_any _).mono ?_
            rintro en wg2 ⟨rfl, hbq⟩
            have HBg2 := Lib.hid (HBf2.out.trans (hbq.mono HBf2.out.size))
            have Kg2 := Lib.hid (Kf2.out.below hbq Kf2.out.lt)
            clear hbq Kf2 HBf2
            refine hK9.out _ _ (Kg2.out) (fun hHeld9 => ?_)
            clear hK9 K9
            (try simp only [List.getElem_toArray, List.getElem_cons_zero, List.getElem_cons_succ, Act.put, List.setIfInBounds_toArray, List.set_cons_zero, List.set_cons_succ])
            refine' wpAnyH_take (i := 38) (v := _) rfl (by kernel_rfl) (by kernel_rfl) (by kernel_rfl) (fun _ _ _ h => h) (Or.inl ⟨by rfl, ?taq80⟩) (by assumption) ?tbq80
            case taq80 =>
              intro wS hSw
              (try dsimp only at hSw)
              go_simp
              (try (with_reducible rfl))
            (try simp only [List.getElem_toArray, List.getElem_cons_zero, List.getElem_cons_succ, Act.put, List.setIfInBounds_toArray, List.set_cons_zero, List.set_cons_succ])
            refine' wpAnyH_take (i := 39) (v := _) rfl (by kernel_rfl) (by kernel_rfl) (by kernel_rfl) (fun _ _ _ h => h) (Or.inl ⟨by rfl, ?taq81⟩) (by assumption) ?tbq81
            case taq81 =>
              intro wS hSw
              (try dsimp only at hSw)
              go_simp
              (try (with_reducible rfl))
            (try simp only [List.getElem_toArray, List.getElem_cons_zero, List.getElem_cons_succ, Act.put, List.setIfInBounds_toArray, List.set_cons_zero, List.set_cons_succ])
            refine wpAnyH_done (by kernel_rfl) ?_ _
            go_wp2
            go_ret
            exact ⟨rfl, HBg2.out⟩
        ·
          (try simp only [List.getElem_toArray, List.getElem_cons_zero, List.getElem_cons_succ])
          go_simp
          refine hK9.out _ _ (K9'.out.alloc _) (fun hHeld9 => ?_)
          clear hK9 K9
          (try simp only [List.getElem_toArray, List.getElem_cons_zero, List.getElem_cons_succ, Act.put, List.setIfInBounds_toArray, List.set_cons_zero, List.set_cons_succ])
          refine wpAnyH_ready (rs := [6]) (by kernel_rfl) (by simp) ?_
          refine AllReadyH.cons rfl (fun K9 hK9 => ?_) AllReadyH.nil
          (try simp only [List.getElem_toArray, List.getElem_cons_zero, List.getElem_cons_succ])
          go_simp
          refine hK9.out _ _ (((K9'.out.alloc _).alloc _)) (fun hHeld9 => ?_)
          clear hK9 K9
          (try simp only [List.getElem_toArray, List.getElem_cons_zero, List.getElem_cons_succ, Act.put, List.setIfInBounds_toArray, List.set_cons_zero, List.set_cons_succ])
          refine wpAnyH_ready (rs := [8]) (by kernel_rfl) (by simp) ?_
          refine AllReadyH.cons rfl (fun K9 hK9 => ?_) AllReadyH.nil
          (try simp only [List.getElem_toArray, List.getElem_cons_zero, List.getElem_cons_succ])
          rw [if_pos (by rfl)]
          refine wp_extendN elem_par ((w9.alloc (.cells #[.slice none 0 0, .int .i64 0, .slice none 0 0, .slice none 0 0, .slice none 0 0, .int .i64 0, .slice none 0 0] 60)).alloc (.cells #[] 60)) _ _ (by rfl) w9.heap.size 0 _ [] (by rfl) (own_emptyP _ _ _ 7 _ (by simp) (by simp)) _ ps.length _ (ps.flatMap ParV.cells) (by rfl) (P9.out.rd.below (by first | exact (Below.refl _ _).alloc (Nat.le_refl _) _ | exact ((Below.refl _ _).alloc (Nat.le_refl _) _).alloc (by simp) _)) L9.out O9.out (by unfold maxLen; omega) (by omega) (by simp only [World.size_alloc]; omega) ?_
          intro A8 c8 wa hown8 hg8 hf8
          simp only [Nat.zero_add, List.nil_append] at hown8 ⊢
          refine hK9.out _ _ (((by first | exact K9'.out.alloc _ | exact (K9'.out.alloc _).alloc _ : Blk _ _ _ _).grown hg8 (by intro he; have h1 := Option.some.inj he; have h2 := K9'.out.lt; simp at h1; omega))) (fun hHeld9 => ?_)
          clear hK9 K9
          (try simp only [List.getElem_toArray, List.getElem_cons_zero, List.getElem_cons_succ, Act.put, List.setIfInBounds_toArray, List.set_cons_zero, List.set_cons_succ])
          have hbx : Below w9.heap.size w9 wa := (((Below.refl _ w9).alloc (Nat.le_refl _) (.cells #[.slice none 0 0, .int .i64 0, .slice none 0 0, .slice none 0 0, .slice none 0 0, .int .i64 0, .slice none 0 0] 60)).alloc (by simp) (.cells #[] 60)).grown hg8 (by simp only [World.size_alloc]; omega) (fun k hk => by have hk2 := Option.some.inj hk; simp at hk2; omega)
          have HBz := Lib.hid (HB9.out.trans (hbx.mono HB9.out.size))
          have Kz := Lib.hid (K9'.out.below hbx K9'.out.lt)
          have P9z := Lib.hid (P9.out.below hbx)
          have Q9z := Lib.hid (Q9.out.below hbx)
          have SZ9 := hbx.size
          have KZ := Lib.hid (((Blk.fresh w9 60 [.slice none 0 0, .int .i64 0, .slice none 0 0, .slice none 0 0, .slice none 0 0, .int .i64 0, .slice none 0 0]).alloc _).grown hg8 (by intro he; have h1 := Option.some.inj he; simp at h1))
          have OW8 := Lib.hid (hown8)
          clear hbx P9 Q9
          generalize wa = wz at HBz Kz P9z Q9z SZ9 KZ OW8 hHeld9 ⊢
          refine wpAnyH_ready (rs := [11]) (by kernel_rfl) (by simp) ?_
          refine AllReadyH.cons rfl (fun K9 hK9 => ?_) AllReadyH.nil
          (try simp only [List.getElem_toArray, List.getElem_cons_zero, List.getElem_cons_succ])
          rw [if_pos (by rfl)]
          refine wp_extendN elem_par wz _ _ (by rfl) w9.heap.size ps.length _ _ (by rfl) OW8.out _ 1 _ [.slice none 0 0, .int .i64 0, .slice none 0 0, .slice none 0 0, .slice none 0 0, .int .i64 0, .slice none 0 0] (by rfl) (KZ.out.readsN (sz := 7) (n := 1) rfl (by unfold maxLen; omega)) rfl (by intro u hu; simp only [List.mem_cons, List.not_mem_nil, or_false] at hu; rcases hu with rfl | rfl | rfl | rfl | rfl | rfl | rfl <;> rfl) (by unfold maxLen; omega) (by omega) SZ9 ?_
          intro Ab9 cb9 wb hown9 hg9 hf9
          have hbx : Below w9.heap.size wz wb := (Below.refl _ _).grown hg9 SZ9 (fun k hk => (OW8.out.lt k hk).1)
          refine hK9.out _ _ ((Kz.out.grown hg9 (by intro he; have h1 := (OW8.out.lt _ he.symm).1; have h2 := K9'.out.lt; omega))) (fun hHeld9 => ?_)
          clear hK9 K9
          (try simp only [List.getElem_toArray, List.getElem_cons_zero, List.getElem_cons_succ, Act.put, List.setIfInBounds_toArray, List.set_cons_zero, List.set_cons_succ])
          have HBb := Lib.hid (HBz.out.trans (hbx.mono (by have := HB9.out.size; omega)))
          have Kb := Lib.hid (Kz.out.below hbx K9'.out.lt)
          have Pb := Lib.hid (P9z.out.below hbx)
          have Qb := Lib.hid (Q9z.out.below hbx)
          have hsb := hbx.size
          have hqz : ParsOf wb wb.heap.size (.slice Ab9 (ps.length + 1) cb9) (ps ++ [zeroV]) := by
            have e9 : ps.flatMap ParV.cells ++ [.slice none 0 0, .int .i64 0, .slice none 0 0, .slice none 0 0, .slice none 0 0, .int .i64 0, .slice none 0 0] = (ps ++ [zeroV]).flatMap ParV.cells := by rw [List.flatMap_append]; rfl
            rw [e9] at hown9
            refine ⟨ReadsN.of_own (by omega) hown9, Lib.hid (fun e he => ?_), ⟨_, _, by rw [List.length_append]; rfl⟩, by simp only [List.length_append, List.length_cons, List.length_nil]; omega⟩
            rcases List.mem_append.1 he with he | he
            · exact (Pb.out.ok.out e he).more (by omega)
            · rw [List.mem_singleton.1 he]
              exact (zeroV_in (fun _ => True) wb).ok
          have HQZ := Lib.hid hqz
          have HMZ : Hid (mayPs a b c ls ((ps ++ [zeroV]).map (·.c)) = false) := Lib.hid (may_len (by have := HPL.out; simp only [List.length_append, List.length_cons, List.length_nil]; omega))
          clear hqz hown9 hg9 hf9 hbx
          refine wpAnyH_ready (rs := [12]) (by kernel_rfl) (by simp) ?_
          refine AllReadyH.cons rfl (fun K9 hK9 => ?_) AllReadyH.nil
          (try simp only [List.getElem_toArray, List.getElem_cons_zero, List.getElem_cons_succ])
          go_simp
          refine (pmay_any a b c _ _ ls (ps ++ [zeroV]) wb wb.heap.size (Nat.le_refl _) ((HL.out.below HBb.out).more HBb.out.size) HQZ.out false HMZ.out).mono ?_
          rintro en wc2 ⟨rfl, hbq⟩
          have HBc2 := Lib.hid (HBb.out.trans (hbq.mono HBb.out.size))
          have Kc2 := Lib.hid (Kb.out.below hbq Kb.out.lt)
          have Pc2 := Lib.hid (Pb.out.below (hbq.mono (by omega)))
          have Qc2 := Lib.hid (Qb.out.below (hbq.mono (by omega)))
          have hsc2 := hbq.size
          clear hbq HQZ HMZ Pb Qb Kb HBb
          refine hK9.out _ _ (Kc2.out) (fun hHeld9 => ?_)
          clear hK9 K9
          (try simp only [List.getElem_toArray, List.getElem_cons_zero, List.getElem_cons_succ, Act.put, List.setIfInBounds_toArray, List.set_cons_zero, List.set_cons_succ])
          refine' wpAnyH_take (i := 13) (v := _) rfl (by kernel_rfl) (by kernel_rfl) (by kernel_rfl) (fun _ _ _ h => h) (Or.inl ⟨by rfl, ?taq82⟩) (by assumption) ?tbq82
          case taq82 =>
            intro wS hSw
            (try dsimp only at hSw)
            (have k0 := hSw.cell 0; have k1 := hSw.cell 1; have k2 := hSw.cell 2; have k3 := hSw.cell 3; have lk := hSw.lt; simp only [List.getElem?_cons_zero, List.getElem?_cons_succ] at k0 k1 k2 k3; clear hSw; go_simp)
            (try (with_reducible rfl))
          (try simp only [List.getElem_toArray, List.getElem_cons_zero, List.getElem_cons_succ, Act.put, List.setIfInBounds_toArray, List.set_cons_zero, List.set_cons_succ])
          refine' wpAnyH_take (i := 14) (v := _) rfl (by kernel_rfl) (by kernel_rfl) (by kernel_rfl) (fun _ _ _ h => h) (Or.inl ⟨by rfl, ?taq83⟩) (by assumption) ?tbq83
          case taq83 =>
            intro wS hSw
            (try dsimp only at hSw)
            (have k0 := hSw.cell 0; have k1 := hSw.cell 1; have k2 := hSw.cell 2; have k3 := hSw.cell 3; have lk := hSw.lt; simp only [List.getElem?_cons_zero, List.getElem?_cons_succ] at k0 k1 k2 k3; clear hSw; go_simp)
            (try (with_reducible rfl))
          (try simp only [List.getElem_toArray, List.getElem_cons_zero, List.getElem_cons_succ, Act.put, List.setIfInBounds_toArray, List.set_cons_zero, List.set_cons_succ])
          refine' wpAnyH_take (i := 15) (v := _) rfl (by kernel_rfl) (by kernel_rfl) (by kernel_rfl) (fun _ _ _ h => h) (Or.inl ⟨by rfl, ?taq84⟩) (by assumption) ?tbq84
          case taq84 =>
            intro wS hSw
            (try dsimp only at hSw)
            (have k0 := hSw.cell 0; have k1 := hSw.cell 1; have k2 := hSw.cell 2; have k3 := hSw.cell 3; have lk := hSw.lt; simp only [List.getElem?_cons_zero, List.getElem?_cons_succ] at k0 k1 k2 k3; clear hSw; go_simp)
            (try (with_reducible rfl))
          (try simp only [List.getElem_toArray, List.getElem_cons_zero, List.getElem_cons_succ, Act.put, List.setIfInBounds_toArray, List.set_cons_zero, List.set_cons_succ])
          refine' wpAnyH_take (i := 16) (v := _) rfl (by kernel_rfl) (by kernel_rfl) (by kernel_rfl) (fun _ _ _ h => h) (Or.inl ⟨by rfl, ?taq85⟩) (by assumption) ?tbq85
          case taq85 =>
            intro wS hSw
            (try dsimp only at hSw)
            (have k0 := hSw.cell 0; have k1 := hSw.cell 1; have k2 := hSw.cell 2; have k3 := hSw.cell 3; have lk := hSw.lt; simp only [List.getElem?_cons_zero, List.getElem?_cons_succ] at k0 k1 k2 k3; clear hSw; go_simp)
            (try (with_reducible rfl))
          (try simp only [List.getElem_toArray, List.getElem_cons_zero, List.getElem_cons_succ, Act.put, List.setIfInBounds_toArray, List.set_cons_zero, List.set_cons_succ])
          refine' wpAnyH_take (i := 17) (v := _) rfl (by kernel_rfl) (by kernel_rfl) (by kernel_rfl) (fun _ _ _ h => h) (Or.inl ⟨by rfl, ?taq86⟩) (by assumption) ?tbq86
          case taq86 =>
            intro wS hSw
            (try dsimp only at hSw)
            (have k0 := hSw.cell 0; have k1 := hSw.cell 1; have k2 := hSw.cell 2; have k3 := hSw.cell 3; have lk := hSw.lt; simp only [List.getElem?_cons_zero, List.getElem?_cons_succ] at k0 k1 k2 k3; clear hSw; go_simp)
            (try (with_reducible rfl))
          (try simp only [List.getElem_toArray, List.getElem_cons_zero, List.getElem_cons_succ, Act.put, List.setIfInBounds_toArray, List.set_cons_zero, List.set_cons_succ])
          refine' wpAnyH_take (i := 18) (v := _) rfl (by kernel_rfl) (by kernel_rfl) (by kernel_rfl) (fun _ _ _ h => h) (Or.inl ⟨by rfl, ?taq87⟩) (by assumption) ?tbq87
          case taq87 =>
            intro wS hSw
            (try dsimp only at hSw)
            (have k0 := hSw.cell 0; have k1 := hSw.cell 1; have k2 := hSw.cell 2; have k3 := hSw.cell 3; have lk := hSw.lt; simp only [List.getElem?_cons_zero, List.getElem?_cons_succ] at k0 k1 k2 k3; clear hSw; go_simp)
            (try (with_reducible rfl))
          (try simp only [List.getElem_toArray, List.getElem_cons_zero, List.getElem_cons_succ, Act.put, List.setIfInBounds_toArray, List.set_cons_zero, List.set_cons_succ])
          refine' wpAnyH_take (i := 19) (v := _) rfl (by kernel_rfl) (by kernel_rfl) (by kernel_rfl) (fun _ _ _ h => h) (Or.inl ⟨by rfl, ?taq88⟩) (by assumption) ?tbq88
          case taq88 =>
            intro wS hSw
            (try dsimp only at hSw)
            (have k0 := hSw.cell 0; have k1 := hSw.cell 1; have k2 := hSw.cell 2; have k3 := hSw.cell 3; have lk := hSw.lt; simp only [List.getElem?_cons_zero, List.getElem?_cons_succ] at k0 k1 k2 k3; clear hSw; go_simp)
            (try (with_reducible rfl))
          (try simp only [List.getElem_toArray, List.getElem_cons_zero, List.getElem_cons_succ, Act.put, List.setIfInBounds_toArray, List.set_cons_zero, List.set_cons_succ])
          refine' wpAnyH_take (i := 20) (v := _) rfl (by kernel_rfl) (by kernel_rfl) (by kernel_rfl) (fun _ _ _ h => h) (Or.inl ⟨by rfl, ?taq89⟩) (by assumption) ?tbq89
          case taq89 =>
            intro wS hSw
            (try dsimp only at hSw)
            (have k0 := hSw.cell 0; have k1 := hSw.cell 1; have k2 := hSw.cell 2; have k3 := hSw.cell 3; have lk := hSw.lt; simp only [List.getElem?_cons_zero, List.getElem?_cons_succ] at k0 k1 k2 k3; clear hSw; go_simp)
            (try (with_reducible rfl))
          (try simp only [List.getElem_toArray, List.getElem_cons_zero, List.getElem_cons_succ, Act.put, List.setIfInBounds_toArray, List.set_cons_zero, List.set_cons_succ])
          refine' wpAnyH_take (i := 21) (v := _) rfl (by kernel_rfl) (by kernel_rfl) (by kernel_rfl) (fun _ _ _ h => h) (Or.inl ⟨by rfl, ?taq90⟩) (by assumption) ?tbq90
          case taq90 =>
            intro wS hSw
            (try dsimp only at hSw)
            (have k0 := hSw.cell 0; have k1 := hSw.cell 1; have k2 := hSw.cell 2; have k3 := hSw.cell 3; have lk := hSw.lt; simp only [List.getElem?_cons_zero, List.getElem?_cons_succ] at k0 k1 k2 k3; clear hSw; go_simp)
            (try (with_reducible rfl))
          (try simp only [List.getElem_toArray, List.getElem_cons_zero, List.getElem_cons_succ, Act.put, List.setIfInBounds_toArray, List.set_cons_zero, List.set_cons_succ])
          have HT2 : Hid (ParsOf wc2 w9.heap.size (.slice Ap m cp) (ps.take m)) := Lib.hid (Pc2.out.takeP (by have := HMM.out; omega))
          have HMT : Hid (mayPs a b c ls ((ps.take m).map (·.c)) = false) := Lib.hid (may_len (by have := HPL.out; have := HMM.out; rw [List.length_take]; omega))
          refine wpAnyH_ready (rs := [22]) (by kernel_rfl) (by simp) ?_
          refine AllReadyH.cons rfl (fun K9 hK9 => ?_) AllReadyH.nil
          (try simp only [List.getElem_toArray, List.getElem_cons_zero, List.getElem_cons_succ])
          go_simp
          refine (pmay_any a b c _ _ ls (ps.take m) wc2 wc2.heap.size (Nat.le_refl _) ((HL.out.below HBc2.out).more HBc2.out.size) (HT2.out.more (by omega)) false HMT.out).mono ?_
          rintro en wd2 ⟨rfl, hbq⟩
          have HBd2 := Lib.hid (HBc2.out.trans (hbq.mono HBc2.out.size))
          have Kd2 := Lib.hid (Kc2.out.below hbq Kc2.out.lt)
          have Pd2 := Lib.hid (Pc2.out.below (hbq.mono (by omega)))
          have Qd2 := Lib.hid (Qc2.out.below (hbq.mono (by omega)))
          have hsd2 := hbq.size
          clear hbq HT2 HMT Pc2 Qc2 Kc2 HBc2
          refine hK9.out _ _ (Kd2.out) (fun hHeld9 => ?_)
          clear hK9 K9
          (try simp only [List.getElem_toArray, List.getElem_cons_zero, List.getElem_cons_succ, Act.put, List.setIfInBounds_toArray, List.set_cons_zero, List.set_cons_succ])
          refine' wpAnyH_take (i := 23) (v := _) rfl (by kernel_rfl) (by kernel_rfl) (by kernel_rfl) (fun _ _ _ h => h) (Or.inl ⟨by rfl, ?taq91⟩) (by assumption) ?tbq91
          case taq91 =>
            intro wS hSw
            (try dsimp only at hSw)
            go_simp
            (try (with_reducible rfl))
          (try simp only [List.getElem_toArray, List.getElem_cons_zero, List.getElem_cons_succ, Act.put, List.setIfInBounds_toArray, List.set_cons_zero, List.set_cons_succ])
          refine' wpAnyH_take (i := 24) (v := _) rfl (by kernel_rfl) (by kernel_rfl) (by kernel_rfl) (fun _ _ _ h => h) (Or.inl ⟨by rfl, ?taq92⟩) (by assumption) ?tbq92
          case taq92 =>
            intro wS hSw
            (try dsimp only at hSw)
            go_simp
            (try (with_reducible rfl))
          (try simp only [List.getElem_toArray, List.getElem_cons_zero, List.getElem_cons_succ, Act.put, List.setIfInBounds_toArray, List.set_cons_zero, List.set_cons_succ])
          refine' wpAnyH_take (i := 25) (v := _) rfl (by kernel_rfl) (by kernel_rfl) (by kernel_rfl) (fun _ _ _ h => h) (Or.inl ⟨by rfl, ?taq93⟩) (by assumption) ?tbq93
          case taq93 =>
            intro wS hSw
            (try dsimp only at hSw)
            go_simp
            (try (with_reducible rfl))
          (try simp only [List.getElem_toArray, List.getElem_cons_zero, List.getElem_cons_succ, Act.put, List.setIfInBounds_toArray, List.set_cons_zero, List.set_cons_succ])
          refine' wpAnyH_take (i := 26) (v := _) rfl (by kernel_rfl) (by kernel_rfl) (by kernel_rfl) (fun _ _ _ h => h) (Or.inl ⟨by rfl, ?taq94⟩) (by assumption) ?tbq94
          case taq94 =>
            intro wS hSw
            (try dsimp only at hSw)
            go_simp
            (try (with_reducible rfl))
          (try simp only [List.getElem_toArray, List.getElem_cons_zero, List.getElem_cons_succ, Act.put, List.setIfInBounds_toArray, List.set_cons_zero, List.set_cons_succ])
          refine' wpAnyH_take (i := 27) (v := _) rfl (by kernel_rfl) (by kernel_rfl) (by kernel_rfl) (fun _ _ _ h => h) (Or.inl ⟨by rfl, ?taq95⟩) (by assumption) ?tbq95
          case taq95 =>
            intro wS hSw
            (try dsimp only at hSw)
            go_simp
            (try (with_reducible rfl))
          (try simp only [List.getElem_toArray, List.getElem_cons_zero, List.getElem_cons_succ, Act.put, List.setIfInBounds_toArray, List.set_cons_zero, List.set_cons_succ])
          refine wpAnyH_ready (rs := [28]) (by kernel_rfl) (by simp) ?_
          refine AllReadyH.cons rfl (fun K9 hK9 => ?_) AllReadyH.nil
          (try simp only [List.getElem_toArray, List.getElem_cons_zero, List.getElem_cons_succ])
          go_simp
          refine (psame_any ps ps _ _ w9.heap.size wd2 (by omega) Pd2.out Pd2.out true (sameCs_refl _)).mono ?_
          rintro en we2 ⟨rfl, hbq⟩
          have HBe2 := Lib.hid (HBd2.out.trans (hbq.mono HBd2.out.size))
          have Ke2 := Lib.hid (Kd2.out.below hbq Kd2.out.lt)
          have Pe2 := Lib.hid (Pd2.out.below (hbq.mono (by omega)))
          have Qe2 := Lib.hid (Qd2.out.below (hbq.mono (by omega)))
          have hse2 := hbq.size
          clear hbq Pd2 Qd2 Kd2 HBd2
          refine hK9.out _ _ (Ke2.out) (fun hHeld9 => ?_)
          clear hK9 K9
          (try simp only [List.getElem_toArray, List.getElem_cons_zero, List.getElem_cons_succ, Act.put, List.setIfInBounds_toArray, List.set_cons_zero, List.set_cons_succ])
          refine' wpAnyH_take (i := 29) (v := _) rfl (by kernel_rfl) (by kernel_rfl) (by kernel_rfl) (fun _ _ _ h => h) (Or.inl ⟨by rfl, ?taq96⟩) (by assumption) ?tbq96
          case taq96 =>
            intro wS hSw
            (try dsimp only at hSw)
            go_simp
            (try (with_reducible rfl))
          (try simp only [List.getElem_toArray, List.getElem_cons_zero, List.getElem_cons_succ, Act.put, List.setIfInBounds_toArray, List.set_cons_zero, List.set_cons_succ])
          refine' wpAnyH_take (i := 30) (v := _) rfl (by kernel_rfl) (by kernel_rfl) (by kernel_rfl) (fun _ _ _ h => h) (Or.inl ⟨by rfl, ?taq97⟩) (by assumption) ?tbq97
          case taq97 =>
            intro wS hSw
            (try dsimp only at hSw)
            go_simp
            (try (with_reducible rfl))
          (try simp only [List.getElem_toArray, List.getElem_cons_zero, List.getElem_cons_succ, Act.put, List.setIfInBounds_toArray, List.set_cons_zero, List.set_cons_succ])
          refine' wpAnyH_take (i := 31) (v := _) rfl (by kernel_rfl) (by kernel_rfl) (by kernel_rfl) (fun _ _ _ h => h) (Or.inl ⟨by rfl, ?taq98⟩) (by assumption) ?tbq98
          case taq98 =>
            intro wS hSw
            (try dsimp only at hSw)
            go_simp
            (try (with_reducible rfl))
          (try simp only [List.getElem_toArray, List.getElem_cons_zero, List.getElem_cons_succ, Act.put, List.setIfInBounds_toArray, List.set_cons_zero, List.set_cons_succ])
          refine' wpAnyH_take (i := 32) (v := _) rfl (by kernel_rfl) (by kernel_rfl) (by kernel_rfl) (fun _ _ _ h => h) (Or.inl ⟨by rfl, ?taq99⟩) (by assumption) ?tbq99
          case taq99 =>
            intro wS hSw
            (try dsimp only at hSw)
            go_simp
            (try (with_reducible rfl))
          (try simp only [List.getElem_toArray, List.getElem_cons_zero, List.getElem_cons_succ, Act.put, List.setIfInBounds_toArray, List.set_cons_zero, List.set_cons_succ])
          refine wpAnyH_ready (rs := [33]) (by kernel_rfl) (by simp) ?_
          refine AllReadyH.cons rfl (fun K9 hK9 => ?_) AllReadyH.nil
          (try simp only [List.getElem_toArray, List.getElem_cons_zero, List.getElem_cons_succ])
          go_simp
          refine (psame_any ps (ps.set j ⟨.slice B1 pq.wd.length d1, .slice B2 pq.wx.length d2, .slice B3 pq.m.length d3, .slice B4 pq.bd.length d4, .slice B5 pq.bx.length d5, pq⟩) _ _ w9.heap.size we2 (by omega) Pe2.out Qe2.out false HSQ.out).mono ?_
          rintro en wf2 ⟨rfl, hbq⟩
          have HBf2 := Lib.hid (HBe2.out.trans (hbq.mono HBe2.out.size))
          have Kf2 := Lib.hid (Ke2.out.below hbq Ke2.out.lt)
          clear hbq Pe2 Qe2 Ke2 HBe2
          refine hK9.out _ _ (Kf2.out) (fun hHeld9 => ?_)
          clear hK9 K9
          (try simp only [List.getElem_toArray, List.getElem_cons_zero, List.getElem_cons_succ, Act.put, List.setIfInBounds_toArray, List.set_cons_zero, List.set_cons_succ])
          refine' wpAnyH_take (i := 34) (v := _) rfl (by kernel_rfl) (by kernel_rfl) (by kernel_rfl) (fun _ _ _ h => h) (Or.inl ⟨by rfl, ?taq100⟩) (by assumption) ?tbq100
          case taq100 =>
            intro wS hSw
            (try dsimp only at hSw)
            go_simp
            (try (with_reducible rfl))
          (try simp only [List.getElem_toArray, List.getElem_cons_zero, List.getElem_cons_succ, Act.put, List.setIfInBounds_toArray, List.set_cons_zero, List.set_cons_succ])
          refine' wpAnyH_take (i := 35) (v := _) rfl (by kernel_rfl) (by kernel_rfl) (by kernel_rfl) (fun _ _ _ h => h) (Or.inl ⟨by rfl, ?taq101⟩) (by assumption) ?tbq101
          case taq101 =>
            intro wS hSw
            (try dsimp only at hSw)
            go_simp
            (try (with_reducible rfl))
          (try simp only [List.getElem_toArray, List.getElem_cons_zero, List.getElem_cons_succ, Act.put, List.setIfInBounds_toArray, List.set_cons_zero, List.set_cons_succ])
          refine' wpAnyH_take (i := 36) (v := _) rfl (by kernel_rfl) (by kernel_rfl) (by kernel_rfl) (fun _ _ _ h => h) (Or.inl ⟨by rfl, ?taq102⟩) (by assumption) ?tbq102
          case taq102 =>
            intro wS hSw
            (try dsimp only at hSw)
            go_simp
            (try (with_reducible rfl))
          (try simp only [List.getElem_toArray, List.getElem_cons_zero, List.getElem_cons_succ, Act.put, List.setIfInBounds_toArray, List.set_cons_zero, List.set_cons_succ])
          refine wpAnyH_ready (rs := [37]) (by kernel_rfl) (by simp) ?_
          refine AllReadyH.cons rfl (fun K9 hK9 => ?_) AllReadyH.nil
          (try simp only [List.getElem_toArray, List.getElem_cons_zero, List.getElem_cons_succ])
          go_simp
          refine (awake17_any _).mono ?_
          rintro en wg2 ⟨rfl, hbq⟩
          have HBg2 := Lib.hid (HBf2.out.trans (hbq.mono HBf2.out.size))
          have Kg2 := Lib.hid (Kf2.out.below hbq Kf2.out.lt)
          clear hbq Kf2 HBf2
          refine hK9.out _ _ (Kg2.out) (fun hHeld9 => ?_)
          clear hK9 K9
          (try simp only [List.getElem_toArray, List.getElem_cons_zero, List.getElem_cons_succ, Act.put, List.setIfInBounds_toArray, List.set_cons_zero, List.set_cons_succ])
          refine' wpAnyH_take (i := 38) (v := _) rfl (by kernel_rfl) (by kernel_rfl) (by kernel_rfl) (fun _ _ _ h => h) (Or.inl ⟨by rfl, ?taq103⟩) (by assumption) ?tbq103
          case taq103 =>
            intro wS hSw
            (try dsimp only at hSw)
            go_simp
            (try (with_reducible rfl))
          (try simp only [List.getElem_toArray, List.getElem_cons_zero, List.getElem_cons_succ, Act.put, List.setIfInBounds_toArray, List.set_cons_zero, List.set_cons_succ])
          refine' wpAnyH_take (i := 39) (v := _) rfl (by kernel_rfl) (by kernel_rfl) (by kernel_rfl) (fun _ _ _ h => h) (Or.inl ⟨by rfl, ?taq104⟩) (by assumption) ?tbq104
          case taq104 =>
            intro wS hSw
            (try dsimp only at hSw)
            go_simp
            (try (with_reducible rfl))
          (try simp only [List.getElem_toArray, List.getElem_cons_zero, List.getElem_cons_succ, Act.put, List.setIfInBounds_toArray, List.set_cons_zero, List.set_cons_succ])
          refine wpAnyH_done (by kernel_rfl) ?_ _
          go_wp2
          go_ret
          exact ⟨rfl, HBg2.out⟩
end Go.Proofs.Ytkileiikffomlaa
