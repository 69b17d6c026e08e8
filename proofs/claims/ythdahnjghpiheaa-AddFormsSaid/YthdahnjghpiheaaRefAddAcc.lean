/- Contract of the reference's AddAcc. -/
import Derived.Test.YthdahnjghpiheaaRefAdd
import Derived.Test.YthdahnjghpiheaaRefMayAcc
import Derived.Test.YthdahnjghpiheaaAcc
namespace Go.Proofs.Ythdahnjghpiheaa
open Go.RowKit
set_option linter.unusedVariables false

structure RAccI (w : World) (b q g0 : Nat) (G X : List Value) (exp : Int) (d7 : Value) (dims : List Int) (zs : List Int) (m : Nat) (wr : World) : Prop where
  box : Blk wr b 39 G
  box2 : Blk wr (b + 1) 39 X
  res : Blk wr (b + 2) 39 [.slice none 0 0, .int .i64 0, .slice none 0 0]
  out : Blk wr q 39 [d7, .int .i64 exp, .slice (some ⟨g0, 0, none⟩) m m]
  dat : Blk wr g0 21 (ints .i32 zs)
  dim : wr.ownsRow (b + 3) 3 1 d7 dims.length (ints .i64 dims)
  dlt : ∀ k, d7.ownBlock = some k → k < g0
  g1 : b + 2 < g0
  q0 : b + 2 < q
  q1 : g0 ≠ q
  wb : w.heap.size = b
  bel : Below b w wr
theorem RAccI.drewN {w wr : World} {b q g0 : Nat} {G X : List Value} {exp : Int} {d7 : Value} {dims zs : List Int} {m : Nat} (h : RAccI w b q g0 G X exp d7 dims zs m wr) (n : Nat) : RAccI w b q g0 G X exp d7 dims zs m (wr.drewN n) :=
  ⟨h.box, h.box2, h.res, h.out, h.dat, h.dim, h.dlt, h.g1, h.q0, h.q1, h.wb, below_drewN h.bel n⟩
theorem RAccI.drew {w wr : World} {b q g0 : Nat} {G X : List Value} {exp : Int} {d7 : Value} {dims zs : List Int} {m : Nat} (h : RAccI w b q g0 G X exp d7 dims zs m wr) : RAccI w b q g0 G X exp d7 dims zs m wr.drew :=
  ⟨h.box, h.box2, h.res, h.out, h.dat, h.dim, h.dlt, h.g1, h.q0, h.q1, h.wb, h.bel.drew⟩
theorem RAccI.fin {w wr : World} {b q g0 : Nat} {G X : List Value} {exp : Int} {dims zs : List Int} {m : Nat} {A : Option Addr} {c : Nat} (h : RAccI w b q g0 G X exp (.slice A dims.length c) dims zs m wr) (hm : zs.length = m) (h8 : m ≤ 8192) (u0 u1 u2 : Value)
    (db : Hid (∀ x ∈ dims, -9223372036854775808 ≤ x ∧ x ≤ 9223372036854775807)) (xb : Hid (∀ x ∈ zs, -16777216 ≤ x ∧ x ≤ 16777216)) (e0 : -9223372036854775808 ≤ exp) (e1 : exp ≤ 9223372036854775807) :
    FormA w dims exp zs 0 (.returned (.tuple #[.agg #[.slice A dims.length c, .int .i64 exp, .slice (some ⟨g0, 0, none⟩) m m], .int .i64 0])) (((wr.setCell ⟨b + 2, 0, none⟩ u0).setCell ⟨b + 2, 1, none⟩ u1).setCell ⟨b + 2, 2, none⟩ u2) := by
  subst hm
  have hoff := off_set3 wr (b + 2) u0 u1 u2
  have hb := h.wb
  have g1 := h.g1
  have g6 := own_off h.dim hoff (fun k hk he => by have := (h.dim.lt k hk).1; omega)
  have hx := Blk.isInts zs (h.dat.off hoff (by omega)) (by unfold maxLen; omega)
  refine ⟨_, _, _, _, rfl, ⟨Reads.of_own g6, hx, db, Lib.hid (fun x hx => by have := xb.out x hx; omega), e0, e1⟩, ?_⟩
  rw [hb]
  exact h.bel.trans (hoff.below (by have := h.res.lt; omega) (fun i hi => by omega))
theorem RAccI.next {w wr : World} {b q g0 : Nat} {G X : List Value} {exp : Int} {d7 : Value} {dims zs : List Int} {m : Nat} (h : RAccI w b q g0 G X exp d7 dims zs m wr) (k : Nat) (y : Int) : RAccI w b q g0 G X exp d7 dims (zs.set k y) m (wr.setCell ⟨g0, k, none⟩ (.int .i32 y)) := by
  have g1 := h.g1
  have q1 := h.q1
  have hoff : Off (fun i => i = g0) wr (wr.setCell ⟨g0, k, none⟩ (.int .i32 y)) := Off.setCell (p := ⟨g0, k, none⟩) (Off.refl (fun i => i = g0) wr) (.inl rfl) _
  refine ⟨h.box.off hoff (by omega), h.box2.off hoff (by omega), h.res.off hoff (by omega), h.out.off hoff (by omega), ?_, own_off h.dim hoff (fun j hj he => by have := h.dlt j hj; omega), h.dlt, h.g1, h.q0, h.q1, h.wb, ?_⟩
  · have := h.dat.put k (.int .i32 y)
    rwa [ints_set] at this
  · exact h.bel.trans (hoff.below (by have := h.dat.lt; omega) (fun i hi => by omega))

structure RBase (w : World) (b : Nat) (G X : List Value) (wr : World) : Prop where
  box : Blk wr b 39 G
  box2 : Blk wr (b + 1) 39 X
  res : Blk wr (b + 2) 39 [.slice none 0 0, .int .i64 0, .slice none 0 0]
  wb : w.heap.size = b
  bel : Below b w wr
section
variable {w wr wr' : World} {b : Nat} {G X : List Value}
theorem RBase.go (h : RBase w b G X wr) (hb : Below wr.heap.size wr wr') : RBase w b G X wr' :=
  ⟨h.box.below hb h.box.lt, h.box2.below hb h.box2.lt, h.res.below hb h.res.lt, h.wb, h.bel.trans (hb.mono (by have := h.res.lt; omega))⟩
theorem RBase.dr (h : RBase w b G X wr) : RBase w b G X wr.drew := ⟨h.box.drew, h.box2.drew, h.res.drew, h.wb, h.bel.drew⟩
theorem RBase.al (h : RBase w b G X wr) (o : Obj) : RBase w b G X (wr.alloc o) := h.go ((Below.refl _ _).alloc (Nat.le_refl _) _)
theorem RBase.off (h : RBase w b G X wr) {q : Nat} (hq : b + 2 < q) (ho : Off (fun i => i = q) wr wr') : RBase w b G X wr' :=
  ⟨h.box.off ho (by omega), h.box2.off ho (by omega), h.res.off ho (by omega), h.wb, h.bel.trans (ho.below (by have := h.res.lt; omega) (fun i hi => by omega))⟩
theorem RBase.set3 (h : RBase w b G X wr) (q : Nat) (hq : b + 2 < q) (u0 u1 u2 : Value) : RBase w b G X (((wr.setCell ⟨q, 0, none⟩ u0).setCell ⟨q, 1, none⟩ u1).setCell ⟨q, 2, none⟩ u2) := h.off hq (off_set3 wr q u0 u1 u2)
theorem RBase.wbel (h : RBase w b G X wr) {B : Nat} (hB : B ≤ b) : Below B w wr := h.bel.mono hB
theorem RBase.s {v0 v1 : Value} {gs : List Value} (h : RBase w b (v0 :: v1 :: gs) X wr) : wr.cell? ⟨b, 0, none⟩ = some v0 ∧ wr.cell? ⟨b, 1, none⟩ = some v1 := ⟨h.box.cell 0, h.box.cell 1⟩
theorem RBase.fin (h : RBase w b G X wr) (hb : Below wr.heap.size wr wr') {q g0 : Nat} {exp : Int} {d7 : Value} {dims zs : List Int} {m : Nat}
    (hq : Blk wr' q 39 [d7, .int .i64 exp, .slice (some ⟨g0, 0, none⟩) m m]) (hd : Blk wr' g0 21 (ints .i32 zs)) (hdim : wr'.ownsRow (b + 3) 3 1 d7 dims.length (ints .i64 dims))
    (dlt : ∀ k, d7.ownBlock = some k → k < g0) (h1 : b + 2 < g0) (h2 : b + 2 < q) (h3 : g0 ≠ q) : RAccI w b q g0 G X exp d7 dims zs m wr' :=
  ⟨(h.go hb).box, (h.go hb).box2, (h.go hb).res, hq, hd, hdim, dlt, h1, h2, h3, h.wb, (h.go hb).bel⟩
theorem RBase.finO (h : RBase w b G X wr) {q g0 : Nat} {exp : Int} {d7 : Value} {dims zs : List Int} {m : Nat} (ho : Off (fun i => i = q) wr wr')
    (hq : Blk wr' q 39 [d7, .int .i64 exp, .slice (some ⟨g0, 0, none⟩) m m]) (hd : Blk wr' g0 21 (ints .i32 zs)) (hdim : wr'.ownsRow (b + 3) 3 1 d7 dims.length (ints .i64 dims))
    (dlt : ∀ k, d7.ownBlock = some k → k < g0) (h1 : b + 2 < g0) (h2 : b + 2 < q) (h3 : g0 ≠ q) : RAccI w b q g0 G X exp d7 dims zs m wr' :=
  ⟨(h.off h2 ho).box, (h.off h2 ho).box2, (h.off h2 ho).res, hq, hd, hdim, dlt, h1, h2, h3, h.wb, (h.off h2 ho).bel⟩
end

set_option maxHeartbeats 16000000 in
set_option maxRecDepth 100000 in
theorem raddacc_any (gd : List Int) (ge : Int) (gx xd : List Int) (xe : Int) (xx : List Int) (gv gw xv xw : Value) (w : World) (B : Nat) (hB : B ≤ w.heap.size) (h : IsA w B gv gw gd ge gx) (h' : IsA w B xv xw xd xe xx) (D : List Int) (E : Int) (X : List Int) (err : Int)
    (hD : (if accErr gd ge gx xd xe xx = 0 then gd else []) = D) (hE : (if accErr gd ge gx xd xe xx = 0 then ge else 0) = E) (hX : (if accErr gd ge gx xd xe xx = 0 then sumI gx xx else []) = X) (he : accErr gd ge gx xd xe xx = err) :
    Calls Try.prog 29 #[.agg #[gv, .int .i64 ge, gw], .agg #[xv, .int .i64 xe, xw]] w (FormA w D E X err) := by
  obtain ⟨A, c, rfl, _, _⟩ := h.d.form
  obtain ⟨A', c', rfl, _, _⟩ := h.x.form
  obtain ⟨A2, c2, rfl, _, _⟩ := h'.d.form
  obtain ⟨A2', c2', rfl, _, _⟩ := h'.x.form
  simp only [length_ints] at *
  have hb0 := three_alloc0 w (.cells #[.slice A gd.length c, .int .i64 ge, .slice A' gx.length c'] 39) (.cells #[.slice A2 xd.length c2, .int .i64 xe, .slice A2' xx.length c2'] 39) (.cells #[.slice none 0 0, .int .i64 0, .slice none 0 0] 39)
  have TG := Lib.hid (h.below (hb0.mono hB))
  have TX := Lib.hid (h'.below (hb0.mono hB))
  have BB := Lib.hid hb0
  have KG := Lib.hid (((Blk.fresh w 39 [.slice A gd.length c, .int .i64 ge, .slice A' gx.length c']).alloc (.cells #[.slice A2 xd.length c2, .int .i64 xe, .slice A2' xx.length c2'] 39)).alloc (.cells #[.slice none 0 0, .int .i64 0, .slice none 0 0] 39))
  have kx := (Blk.fresh (w.alloc (.cells #[.slice A gd.length c, .int .i64 ge, .slice A' gx.length c'] 39)) 39 [.slice A2 xd.length c2, .int .i64 xe, .slice A2' xx.length c2']).alloc (.cells #[.slice none 0 0, .int .i64 0, .slice none 0 0] 39)
  have kr := Blk.fresh ((w.alloc (.cells #[.slice A gd.length c, .int .i64 ge, .slice A' gx.length c'] 39)).alloc (.cells #[.slice A2 xd.length c2, .int .i64 xe, .slice A2' xx.length c2'] 39)) 39 [.slice none 0 0, .int .i64 0, .slice none 0 0]
  simp only [World.size_alloc] at kx kr
  have KX := Lib.hid kx
  have KR := Lib.hid kr
  have HDE := Lib.hid hD
  have HEE := Lib.hid hE
  have HXE := Lib.hid hX
  have HER := Lib.hid he
  have TG0 := Lib.hid h
  have TX0 := Lib.hid h'
  clear hb0 h h' kx kr hD hE hX he
  obtain ⟨mg, hmg⟩ : ∃ m, addMay gd ge gx = m := ⟨_, rfl⟩
  obtain ⟨mx, hmx⟩ : ∃ m, addMay xd xe xx = m := ⟨_, rfl⟩
  have HMG := Lib.hid hmg
  have HMX := Lib.hid hmx
  have i0 : ∀ W, (Instr.index 60 (.agg #[.slice A gd.length c, .int .i64 ge, .slice A' gx.length c', .slice A2 xd.length c2, .int .i64 xe, .slice A2' xx.length c2']) (.int .i64 0)).run Try.prog W = .ok (.agg #[.slice A gd.length c, .int .i64 ge, .slice A' gx.length c']) W := fun W => by kernel_rfl
  have i1 : ∀ W, (Instr.index 60 (.agg #[.slice A gd.length c, .int .i64 ge, .slice A' gx.length c', .slice A2 xd.length c2, .int .i64 xe, .slice A2' xx.length c2']) (.int .i64 1)).run Try.prog W = .ok (.agg #[.slice A2 xd.length c2, .int .i64 xe, .slice A2' xx.length c2']) W := fun W => by kernel_rfl
  have I0 := Lib.hid i0
  have I1 := Lib.hid i1
  clear i0 i1 hmg hmx
  go_enter Try.func29, Try.ntmps29
  go_wp2_with fail
  generalize (((w.alloc (.cells #[.slice A gd.length c, .int .i64 ge, .slice A' gx.length c'] 39)).alloc (.cells #[.slice A2 xd.length c2, .int .i64 xe, .slice A2' xx.length c2'] 39)).alloc (.cells #[.slice none 0 0, .int .i64 0, .slice none 0 0] 39)) = w1 at TG TX BB KG KX KR ⊢
  obtain ⟨b, hb⟩ : ∃ b, w.heap.size = b := ⟨_, rfl⟩
  simp only [hb, Nat.add_assoc, Nat.reduceAdd] at KG KX KR ⊢
  have HBE := Lib.hid hb
  clear hb
  have hsb := BB.out.size
  have hbe := HBE.out
  go_loopw [17] (fun i wr => ∃ k : Nat, k ≤ 2 ∧ i = .int .i64 k ∧ Hid (0 < k → mg = true) ∧ Hid (1 < k → mx = true) ∧ Below w1.heap.size w1 wr) (fun i _ => 2 - (intOf i).toNat)
  case atStart => exact ⟨0, by omega, rfl, Lib.hid (by omega), Lib.hid (by omega), Below.refl _ _⟩
  case round =>
    obtain ⟨k, hk, rfl, hk0, hk1, hwr⟩ := hrel
    have hsr := hwr.size
    have TG := Lib.hid (TG.out.below (hwr.mono (by omega)))
    have TX := Lib.hid (TX.out.below (hwr.mono (by omega)))
    have BB := Lib.hid (BB.out.trans (hwr.mono (by omega)))
    have KG := Lib.hid (KG.out.below hwr KG.out.lt)
    have KX := Lib.hid (KX.out.below hwr KX.out.lt)
    have KR := Lib.hid (KR.out.below hwr KR.out.lt)
    have HWR := Lib.hid hwr
    clear hwr
    by_cases hk2 : k < 2
    · have hkk : k = 0 ∨ k = 1 := by omega
      clear hk2 hk
      rcases hkk with rfl | rfl
      · have i0 := I0.out
        obtain ⟨mm, hmm⟩ : ∃ m, mayA gd ge gx = m := ⟨_, rfl⟩
        have hal : Below wr.heap.size wr (wr.alloc (.cells #[.slice A gd.length c, .int .i64 ge, .slice A' gx.length c'] 39)) := (Below.refl _ _).alloc (Nat.le_refl _) _
        have kn := Blk.fresh wr 39 [.slice A gd.length c, .int .i64 ge, .slice A' gx.length c']
        have kns : wr.heap.size < (wr.alloc (.cells #[.slice A gd.length c, .int .i64 ge, .slice A' gx.length c'] 39)).heap.size := by simp
        have hM := rmayacc_any gd ge gx _ _ (wr.alloc (.cells #[.slice A gd.length c, .int .i64 ge, .slice A' gx.length c'] 39)) B (by omega) (TG.out.below (hal.mono (by omega)))
        rw [hmm] at hM
        have HMM := Lib.hid hmm
        have HAL := Lib.hid hal
        have HKN := Lib.hid kn
        clear hmm hal kn
        go_wp2_with fail
        clear i0
        refine hM.mono ?_
        rintro en w3 ⟨rfl, hb3⟩
        have hb4 := HAL.out.trans (hb3.mono (by omega))
        have hs4 := hb4.size
        have TG := Lib.hid (TG.out.below (hb4.mono (by omega)))
        have TX := Lib.hid (TX.out.below (hb4.mono (by omega)))
        have BB := Lib.hid (BB.out.trans (hb4.mono (by omega)))
        have KG := Lib.hid (KG.out.below hb4 KG.out.lt)
        have KX := Lib.hid (KX.out.below hb4 KX.out.lt)
        have KR := Lib.hid (KR.out.below hb4 KR.out.lt)
        have HWR := Lib.hid (HWR.out.trans (hb4.mono (by omega)))
        have kn2 := (HKN.out.below hb3 (by simp)).cell 2
        simp only [List.getElem?_cons_succ, List.getElem?_cons_zero] at kn2
        clear hM hb3 hb4 HAL HKN kns
        have r0 : w3.cell? ⟨b + 2, 0, none⟩ = some (.slice none 0 0) := KR.out.cell 0
        have r1 : w3.cell? ⟨b + 2, 1, none⟩ = some (.int .i64 0) := KR.out.cell 1
        have r2 : w3.cell? ⟨b + 2, 2, none⟩ = some (.slice none 0 0) := KR.out.cell 2
        have f0 := KR.out.free 0
        have f1 := KR.out.free 1
        have f2 := KR.out.free 2
        cases mm with
        | false =>
          have hne : accErr gd ge gx xd xe xx = 1 := by unfold accErr; rw [if_neg (fun h => by have := h.1; unfold addMay at this; rw [HMM.out] at this; cases this)]
          have HNE := Lib.hid hne
          clear hne
          go_wp2
          refine bodyPost_ret (v := .tuple #[.agg #[.slice none 0 0, .int .i64 0, .slice none 0 0], .int .i64 1]) (by simp [results, Try.results29, go_sem, r0, r1, r2]) rfl ?_
          exact acc_no BB.out HBE.out KR.out.lt (by rw [← HDE.out, HNE.out]; rfl) (by rw [← HEE.out, HNE.out]; rfl) (by rw [← HXE.out, HNE.out]; rfl) (by rw [← HER.out, HNE.out]) _ _ _
        | true =>
          have hlx : gx.length ≤ 9223372036854775807 := by
            have := HMM.out
            unfold mayA at this
            simp only [Bool.and_eq_true, decide_eq_true_eq, beq_iff_eq] at this
            have := sizeI_bound gd
            omega
          go_wp2_with fail
          go_loop [27] (fun i => ∃ j : Nat, j ≤ gx.length ∧ i = .int .i64 j ∧ Hid ((gx.take j).all inB = true)) (fun i => gx.length - (intOf i).toNat)
          case atStart => exact ⟨0, by omega, rfl, Lib.hid (by simp)⟩
          case round =>
            obtain ⟨j, hj, rfl, hjk⟩ := hrel
            by_cases hlt : j < gx.length
            · obtain ⟨AA, n1, cc, hva, hn, hcc, hmm2, ha⟩ := TG.out.x
              injection hva with q1 q2 q3
              subst q1 q2 q3
              obtain ⟨g, o, hAe, hg, hx⟩ := ha.out (by omega)
              obtain ⟨u, hu⟩ : ∃ u, gx[j]? = some u := ⟨gx[j], List.getElem?_eq_getElem hlt⟩
              have z1 : w3.cell? ⟨g, o + j, none⟩ = some (.int .i32 u) := hx j (.int .i32 u) (by rw [ints, List.getElem?_map, hu]; rfl)
              subst hAe
              have i1 : (0 : Int) ≤ (j : Int) := by omega
              have i2 : (j : Int) < (gx.length : Int) := by omega
              have HU := Lib.hid hu
              clear hu hx ha hn hcc hmm2 hg
              by_cases hib : -16777216 < u ∧ u < 16777216
              · have t1 : decide (16777216 ≤ u) = false := by simp; omega
                have t2 : decide (u ≤ -16777216) = false := by simp; omega
                have hin : inB u = true := by unfold inB; simp; omega
                have HIN := Lib.hid hin
                clear hin hib
                go_wp2
                go_round
                case rel => exact ⟨j + 1, by omega, by go_num, Lib.hid (all_take_next hjk.out HU.out HIN.out)⟩
                case measure => simp [intOf]; omega
              · have hin : inB u = false := by unfold inB; simp; omega
                have hne : accErr gd ge gx xd xe xx = 1 := by unfold accErr; rw [if_neg (fun h => by have := h.1; unfold addMay at this; rw [not_all HU.out hin] at this; simp at this)]
                have HNE := Lib.hid hne
                clear hin hne
                by_cases h16 : 16777216 ≤ u
                · have t1 : decide (16777216 ≤ u) = true := by simp; omega
                  clear hib h16
                  go_wp2
                  refine bodyPost_ret (v := .tuple #[.agg #[.slice none 0 0, .int .i64 0, .slice none 0 0], .int .i64 1]) (by simp [results, Try.results29, go_sem, r0, r1, r2]) rfl ?_
                  exact acc_no BB.out HBE.out KR.out.lt (by rw [← HDE.out, HNE.out]; rfl) (by rw [← HEE.out, HNE.out]; rfl) (by rw [← HXE.out, HNE.out]; rfl) (by rw [← HER.out, HNE.out]) _ _ _
                · have t1 : decide (16777216 ≤ u) = false := by simp; omega
                  have t2 : decide (u ≤ -16777216) = true := by simp; omega
                  clear hib h16
                  go_wp2
                  refine bodyPost_ret (v := .tuple #[.agg #[.slice none 0 0, .int .i64 0, .slice none 0 0], .int .i64 1]) (by simp [results, Try.results29, go_sem, r0, r1, r2]) rfl ?_
                  exact acc_no BB.out HBE.out KR.out.lt (by rw [← HDE.out, HNE.out]; rfl) (by rw [← HEE.out, HNE.out]; rfl) (by rw [← HXE.out, HNE.out]; rfl) (by rw [← HER.out, HNE.out]) _ _ _
            · have hall : gx.all inB = true := by have := hjk.out; rwa [List.take_of_length_le (by omega)] at this
              have hmd : Hid (mg = true) := Lib.hid (by rw [← HMG.out]; unfold addMay; rw [HMM.out, hall]; rfl)
              clear hall
              go_wp2
              go_roundw
              case rel => exact ⟨1, by omega, by go_num, Lib.hid (fun _ => hmd.out), Lib.hid (by omega), HWR.out⟩
              case measure => simp [intOf]
      · have i0 := I1.out
        obtain ⟨mm, hmm⟩ : ∃ m, mayA xd xe xx = m := ⟨_, rfl⟩
        have hal : Below wr.heap.size wr (wr.alloc (.cells #[.slice A2 xd.length c2, .int .i64 xe, .slice A2' xx.length c2'] 39)) := (Below.refl _ _).alloc (Nat.le_refl _) _
        have kn := Blk.fresh wr 39 [.slice A2 xd.length c2, .int .i64 xe, .slice A2' xx.length c2']
        have kns : wr.heap.size < (wr.alloc (.cells #[.slice A2 xd.length c2, .int .i64 xe, .slice A2' xx.length c2'] 39)).heap.size := by simp
        have hM := rmayacc_any xd xe xx _ _ (wr.alloc (.cells #[.slice A2 xd.length c2, .int .i64 xe, .slice A2' xx.length c2'] 39)) B (by omega) (TX.out.below (hal.mono (by omega)))
        rw [hmm] at hM
        have HMM := Lib.hid hmm
        have HAL := Lib.hid hal
        have HKN := Lib.hid kn
        clear hmm hal kn
        go_wp2_with fail
        clear i0
        refine hM.mono ?_
        rintro en w3 ⟨rfl, hb3⟩
        have hb4 := HAL.out.trans (hb3.mono (by omega))
        have hs4 := hb4.size
        have TG := Lib.hid (TG.out.below (hb4.mono (by omega)))
        have TX := Lib.hid (TX.out.below (hb4.mono (by omega)))
        have BB := Lib.hid (BB.out.trans (hb4.mono (by omega)))
        have KG := Lib.hid (KG.out.below hb4 KG.out.lt)
        have KX := Lib.hid (KX.out.below hb4 KX.out.lt)
        have KR := Lib.hid (KR.out.below hb4 KR.out.lt)
        have HWR := Lib.hid (HWR.out.trans (hb4.mono (by omega)))
        have kn2 := (HKN.out.below hb3 (by simp)).cell 2
        simp only [List.getElem?_cons_succ, List.getElem?_cons_zero] at kn2
        clear hM hb3 hb4 HAL HKN kns
        have r0 : w3.cell? ⟨b + 2, 0, none⟩ = some (.slice none 0 0) := KR.out.cell 0
        have r1 : w3.cell? ⟨b + 2, 1, none⟩ = some (.int .i64 0) := KR.out.cell 1
        have r2 : w3.cell? ⟨b + 2, 2, none⟩ = some (.slice none 0 0) := KR.out.cell 2
        have f0 := KR.out.free 0
        have f1 := KR.out.free 1
        have f2 := KR.out.free 2
        cases mm with
        | false =>
          have hne : accErr gd ge gx xd xe xx = 1 := by unfold accErr; rw [if_neg (fun h => by have := h.2; unfold addMay at this; rw [HMM.out] at this; cases this)]
          have HNE := Lib.hid hne
          clear hne
          go_wp2
          refine bodyPost_ret (v := .tuple #[.agg #[.slice none 0 0, .int .i64 0, .slice none 0 0], .int .i64 1]) (by simp [results, Try.results29, go_sem, r0, r1, r2]) rfl ?_
          exact acc_no BB.out HBE.out KR.out.lt (by rw [← HDE.out, HNE.out]; rfl) (by rw [← HEE.out, HNE.out]; rfl) (by rw [← HXE.out, HNE.out]; rfl) (by rw [← HER.out, HNE.out]) _ _ _
        | true =>
          have hlx : xx.length ≤ 9223372036854775807 := by
            have := HMM.out
            unfold mayA at this
            simp only [Bool.and_eq_true, decide_eq_true_eq, beq_iff_eq] at this
            have := sizeI_bound xd
            omega
          go_wp2_with fail
          go_loop [27] (fun i => ∃ j : Nat, j ≤ xx.length ∧ i = .int .i64 j ∧ Hid ((xx.take j).all inB = true)) (fun i => xx.length - (intOf i).toNat)
          case atStart => exact ⟨0, by omega, rfl, Lib.hid (by simp)⟩
          case round =>
            obtain ⟨j, hj, rfl, hjk⟩ := hrel
            by_cases hlt : j < xx.length
            · obtain ⟨AA, n1, cc, hva, hn, hcc, hmm2, ha⟩ := TX.out.x
              injection hva with q1 q2 q3
              subst q1 q2 q3
              obtain ⟨g, o, hAe, hg, hx⟩ := ha.out (by omega)
              obtain ⟨u, hu⟩ : ∃ u, xx[j]? = some u := ⟨xx[j], List.getElem?_eq_getElem hlt⟩
              have z1 : w3.cell? ⟨g, o + j, none⟩ = some (.int .i32 u) := hx j (.int .i32 u) (by rw [ints, List.getElem?_map, hu]; rfl)
              subst hAe
              have i1 : (0 : Int) ≤ (j : Int) := by omega
              have i2 : (j : Int) < (xx.length : Int) := by omega
              have HU := Lib.hid hu
              clear hu hx ha hn hcc hmm2 hg
              by_cases hib : -16777216 < u ∧ u < 16777216
              · have t1 : decide (16777216 ≤ u) = false := by simp; omega
                have t2 : decide (u ≤ -16777216) = false := by simp; omega
                have hin : inB u = true := by unfold inB; simp; omega
                have HIN := Lib.hid hin
                clear hin hib
                go_wp2
                go_round
                case rel => exact ⟨j + 1, by omega, by go_num, Lib.hid (all_take_next hjk.out HU.out HIN.out)⟩
                case measure => simp [intOf]; omega
              · have hin : inB u = false := by unfold inB; simp; omega
                have hne : accErr gd ge gx xd xe xx = 1 := by unfold accErr; rw [if_neg (fun h => by have := h.2; unfold addMay at this; rw [not_all HU.out hin] at this; simp at this)]
                have HNE := Lib.hid hne
                clear hin hne
                by_cases h16 : 16777216 ≤ u
                · have t1 : decide (16777216 ≤ u) = true := by simp; omega
                  clear hib h16
                  go_wp2
                  refine bodyPost_ret (v := .tuple #[.agg #[.slice none 0 0, .int .i64 0, .slice none 0 0], .int .i64 1]) (by simp [results, Try.results29, go_sem, r0, r1, r2]) rfl ?_
                  exact acc_no BB.out HBE.out KR.out.lt (by rw [← HDE.out, HNE.out]; rfl) (by rw [← HEE.out, HNE.out]; rfl) (by rw [← HXE.out, HNE.out]; rfl) (by rw [← HER.out, HNE.out]) _ _ _
                · have t1 : decide (16777216 ≤ u) = false := by simp; omega
                  have t2 : decide (u ≤ -16777216) = true := by simp; omega
                  clear hib h16
                  go_wp2
                  refine bodyPost_ret (v := .tuple #[.agg #[.slice none 0 0, .int .i64 0, .slice none 0 0], .int .i64 1]) (by simp [results, Try.results29, go_sem, r0, r1, r2]) rfl ?_
                  exact acc_no BB.out HBE.out KR.out.lt (by rw [← HDE.out, HNE.out]; rfl) (by rw [← HEE.out, HNE.out]; rfl) (by rw [← HXE.out, HNE.out]; rfl) (by rw [← HER.out, HNE.out]) _ _ _
            · have hall : xx.all inB = true := by have := hjk.out; rwa [List.take_of_length_le (by omega)] at this
              have hmd : Hid (mx = true) := Lib.hid (by rw [← HMX.out]; unfold addMay; rw [HMM.out, hall]; rfl)
              clear hall
              go_wp2
              go_roundw
              case rel => exact ⟨2, by omega, by go_num, Lib.hid (fun _ => hk0.out (by omega)), Lib.hid (fun _ => hmd.out), HWR.out⟩
              case measure => simp [intOf]
    · obtain rfl : k = 2 := by omega
      have hm1 := hk0.out (by omega)
      have hm2 := hk1.out (by omega)
      clear hk0 hk1 hk2
      subst hm1 hm2
      clear I0 I1
      have t0 : wr.cell? ⟨b, 0, none⟩ = some (.slice A gd.length c) := KG.out.cell 0
      have t1 : wr.cell? ⟨b, 1, none⟩ = some (.int .i64 ge) := KG.out.cell 1
      have s0 : wr.cell? ⟨b + 1, 0, none⟩ = some (.slice A2 xd.length c2) := KX.out.cell 0
      have s1 : wr.cell? ⟨b + 1, 1, none⟩ = some (.int .i64 xe) := KX.out.cell 1
      clear HWR
      obtain ⟨sm, hsm⟩ : ∃ m, (gd == xd) = m := ⟨_, rfl⟩
      have hS := sameints_any gd xd _ _ wr _ _ TG.out.d TX.out.d
      rw [hsm] at hS
      have HSM := Lib.hid hsm
      clear hsm
      go_wp2_with fail
      refine hS.mono ?_
      rintro e w5 hq
      obtain ⟨rfl, m, rfl⟩ := hq
      clear hS
      have t0 : (wr.drewN m).cell? ⟨b, 0, none⟩ = some (.slice A gd.length c) := t0
      have t1 : (wr.drewN m).cell? ⟨b, 1, none⟩ = some (.int .i64 ge) := t1
      have s1 : (wr.drewN m).cell? ⟨b + 1, 1, none⟩ = some (.int .i64 xe) := s1
      have TG : Hid (IsA (wr.drewN m) B _ _ _ _ _) := Lib.hid (TG.out.below (below_drewN (Below.refl _ _) _))
      have TX : Hid (IsA (wr.drewN m) B _ _ _ _ _) := Lib.hid (TX.out.below (below_drewN (Below.refl _ _) _))
      have BB := Lib.hid (below_drewN BB.out m)
      have KG := Lib.hid (KG.out.drewN m)
      have KX := Lib.hid (KX.out.drewN m)
      have KR := Lib.hid (KR.out.drewN m)
      have hs5 : wr.heap.size = (wr.drewN m).heap.size := rfl
      generalize wr.drewN m = w6 at *
      have r0 : w6.cell? ⟨b + 2, 0, none⟩ = some (.slice none 0 0) := KR.out.cell 0
      have r1 : w6.cell? ⟨b + 2, 1, none⟩ = some (.int .i64 0) := KR.out.cell 1
      have r2 : w6.cell? ⟨b + 2, 2, none⟩ = some (.slice none 0 0) := KR.out.cell 2
      have f0 := KR.out.free 0
      have f1 := KR.out.free 1
      have f2 := KR.out.free 2
      cases sm with
      | false =>
        have hne : accErr gd ge gx xd xe xx = 2 := by unfold accErr; rw [if_pos ⟨HMG.out, HMX.out⟩, if_neg (by have := HSM.out; simpa using this)]
        have HNE := Lib.hid hne
        clear hne
        go_wp2
        refine bodyPost_ret (v := .tuple #[.agg #[.slice none 0 0, .int .i64 0, .slice none 0 0], .int .i64 2]) (by simp [results, Try.results29, go_sem, r0, r1, r2]) rfl ?_
        exact acc_no BB.out HBE.out KR.out.lt (by rw [← HDE.out, HNE.out]; rfl) (by rw [← HEE.out, HNE.out]; rfl) (by rw [← HXE.out, HNE.out]; rfl) (by rw [← HER.out, HNE.out]) _ _ _
      | true =>
        have hdd : gd = xd := by have := HSM.out; simpa using this
        obtain ⟨g1, g2, g3⟩ := mayA_len HMG.out
        obtain ⟨p1, p2, p3⟩ := mayA_len HMX.out
        have hlen : gx.length = xx.length := by
          rw [hdd] at g1
          omega
        have hl2 := sizeI_bound gd
        have ld : gd.length * 8 ≤ 140737488355328 := by omega
        have hgl : gx.length ≤ 8192 := by omega
        have hex : -128 ≤ ge ∧ ge ≤ 128 ∧ 0 < sizeI gd := by
          have := HMG.out
          unfold addMay mayA at this
          simp only [Bool.and_eq_true, decide_eq_true_eq, beq_iff_eq] at this
          omega
        have HACC : Hid (∀ (W : World) (V : Value), Reads W W.heap.size V (ints .i64 gd) → Calls Try.prog 43 #[V, .int .i64 ge] W (FormZ W V ge gx.length)) := Lib.hid (fun W V hV => racc_any gd ge V W _ _ (Nat.le_refl _) hV TG0.out.db.out hex.2.2 g1.symm hex.1 hex.2.1)
        have HLEN := Lib.hid hlen
        have HDD := Lib.hid hdd
        have HG3 := Lib.hid g3
        have HP3 := Lib.hid p3
        have HGE := Lib.hid hex
        clear g1 p1 p2 p3 g3 hl2 hlen hdd hex
        by_cases hee : ge = xe
        · have hxx : (ge != xe) = false := by simpa using hee
          have HEX := Lib.hid hee
          clear hee
          have hBW : B ≤ w6.heap.size := by omega
          obtain ⟨ys, hys⟩ : ∃ ys, sumI gx xx = ys := ⟨_, rfl⟩
          have hyl : ys.length = gx.length := by rw [← hys]; exact sum_length gx xx HLEN.out
          have HYS := Lib.hid hys
          have HYL := Lib.hid hyl
          have HAE : Hid (accErr gd ge gx xd xe xx = if ys.all inB = true then 0 else 3) := Lib.hid (by unfold accErr; rw [if_pos ⟨HMG.out, HMX.out⟩, if_pos HDD.out, if_pos HEX.out, hys])
          clear hys hyl
          go_upto_region 9 with fail
          go_cut [10] (fun s wx => ∃ (q g0 : Nat) (A7 : Option Addr) (c7 : Nat), s = .pointer (some ⟨q, 0, none⟩) ∧ RAccI w b q g0 [.slice A gd.length c, .int .i64 ge, .slice A' gx.length c'] [.slice A2 xd.length c2, .int .i64 xe, .slice A2' xx.length c2'] ge (.slice A7 gd.length c7) gd (List.replicate gx.length 0) gx.length wx)
          case first =>
            have HS00 : Hid (RBase w b [.slice A gd.length c, .int .i64 ge, .slice A' gx.length c'] [.slice A2 xd.length c2, .int .i64 xe, .slice A2' xx.length c2'] w6) := Lib.hid ⟨KG.out, KX.out, KR.out, HBE.out, by rw [← HBE.out]; exact BB.out⟩
            clear TG TX BB KG KX KR r0 r1 r2 f0 f1 f2 s1 hxx t0 t1
            have HS0 := Lib.hid HS00.out.dr
            have hw6 : w6.drew.heap.size = w6.heap.size := rfl
            have hb2w : b + 2 < w6.heap.size := HS0.out.res.lt
            refine wp_region_held_drew (S := (fun w' => w'.cell? ⟨b, 0, none⟩ = some (.slice A gd.length c) ∧ w'.cell? ⟨b, 1, none⟩ = some (.int .i64 ge))) (by kernel_rfl) (HS0.out.s) (fun hHeld => ?_)
            refine' wpAnyH_take (i := 0) (v := _) rfl (by kernel_rfl) (by kernel_rfl) (by kernel_rfl) (fun _ _ _ h => h) (Or.inl ⟨by rfl, ?taq1⟩) (by assumption) ?tbq1
            case taq1 =>
              intro wS hSw
              (try dsimp only at hSw)
              go_simp
              (try (with_reducible rfl))
            (try simp only [List.getElem_toArray, List.getElem_cons_zero, List.getElem_cons_succ, Act.put, List.setIfInBounds_toArray, List.set_cons_zero, List.set_cons_succ])
            refine' wpAnyH_take (i := 1) (v := _) rfl (by kernel_rfl) (by kernel_rfl) (by kernel_rfl) (fun _ _ _ h => h) (Or.inl ⟨by rfl, ?taq2⟩) (by assumption) ?tbq2
            case taq2 =>
              intro wS hSw
              (try dsimp only at hSw)
              go_simp
              (try (with_reducible rfl))
            (try simp only [List.getElem_toArray, List.getElem_cons_zero, List.getElem_cons_succ, Act.put, List.setIfInBounds_toArray, List.set_cons_zero, List.set_cons_succ])
            refine' wpAnyH_take (i := 3) (v := _) rfl (by kernel_rfl) (by kernel_rfl) (by kernel_rfl) (fun _ _ _ h => h) (Or.inl ⟨by rfl, ?taq3⟩) (by assumption) ?tbq3
            case taq3 =>
              intro wS hSw
              (try dsimp only at hSw)
              go_simp
              (try (with_reducible rfl))
            (try simp only [List.getElem_toArray, List.getElem_cons_zero, List.getElem_cons_succ, Act.put, List.setIfInBounds_toArray, List.set_cons_zero, List.set_cons_succ])
            refine' wpAnyH_take (i := 4) (v := _) rfl (by kernel_rfl) (by kernel_rfl) (by kernel_rfl) (fun _ _ _ h => h) (Or.inl ⟨by rfl, ?taq4⟩) (by assumption) ?tbq4
            case taq4 =>
              intro wS hSw
              (try dsimp only at hSw)
              go_simp
              (try (with_reducible rfl))
            (try simp only [List.getElem_toArray, List.getElem_cons_zero, List.getElem_cons_succ, Act.put, List.setIfInBounds_toArray, List.set_cons_zero, List.set_cons_succ])
            refine wpAnyH_ready (rs := [2, 9]) (by kernel_rfl) (by simp) ?_
            refine AllReadyH.cons rfl (fun K9 hK9 => ?_) (AllReadyH.cons rfl (fun K9 hK9 => ?_) AllReadyH.nil)
            · (try simp only [List.getElem_toArray, List.getElem_cons_zero, List.getElem_cons_succ])
              rw [if_pos (by rfl)]
              refine wp_extend elem_int (w6.drew) _ _ (by rfl) (w6.drew.heap.size) 0 (.slice none 0 0) [] (by rfl) (World.ownsRow_nil _ _ _ _) B _ (ints .i64 gd) (by rfl) (TG0.out.below (HS0.out.wbel (by omega))).d (ints_one _ _) (by rw [length_ints]; unfold maxLen; omega) (by rw [length_ints]; omega) (Nat.le_refl _) ?_
              intro A7 c7 w7 hown7 hgrow7 hfr7
              rw [Nat.zero_add, List.nil_append, length_ints] at hown7
              have hb7 : Below (w6.drew).heap.size (w6.drew) w7 := (Below.refl _ _).grown hgrow7 (Nat.le_refl _) (fun k hk => by cases hk)
              rw [Nat.zero_add, length_ints]
              have hs7 := hb7.size
              have HS1 := Lib.hid (HS0.out.go hb7)
              have HO7 := Lib.hid hown7
              clear hgrow7 hfr7
              refine hK9.out _ _ (HS1.out.s) (fun hHeld9 => ?_)
              clear hK9 K9
              (try simp only [List.getElem_toArray, List.getElem_cons_zero, List.getElem_cons_succ, Act.put, List.setIfInBounds_toArray, List.set_cons_zero, List.set_cons_succ])
              refine wpAnyH_ready (rs := [5, 9]) (by kernel_rfl) (by simp) ?_
              refine AllReadyH.cons rfl (fun K9 hK9 => ?_) (AllReadyH.cons rfl (fun K9 hK9 => ?_) AllReadyH.nil)
              · (try simp only [List.getElem_toArray, List.getElem_cons_zero, List.getElem_cons_succ])
                go_simp
                with_reducible refine (HACC.out (w7) _ (Reads.of_own hown7)).mono ?_
                rintro en w8 ⟨g0, rfl, kz, hg8, hb8⟩
                rw [ints_replicateZ] at kz
                have hs8 := hb8.size
                have HS2 := Lib.hid (HS1.out.go hb8)
                refine hK9.out _ _ (HS2.out.s) (fun hHeld9 => ?_)
                clear hK9 K9
                (try simp only [List.getElem_toArray, List.getElem_cons_zero, List.getElem_cons_succ, Act.put, List.setIfInBounds_toArray, List.set_cons_zero, List.set_cons_succ])
                refine' wpAnyH_take (i := 6) (v := _) rfl (by kernel_rfl) (by kernel_rfl) (by kernel_rfl) (fun _ _ _ h => h) (Or.inl ⟨by rfl, ?taq5⟩) (by assumption) ?tbq5
                case taq5 =>
                  intro wS hSw
                  (try dsimp only at hSw)
                  go_simp
                  (try (with_reducible rfl))
                (try simp only [List.getElem_toArray, List.getElem_cons_zero, List.getElem_cons_succ, Act.put, List.setIfInBounds_toArray, List.set_cons_zero, List.set_cons_succ])
                refine' wpAnyH_take (i := 7) (v := _) rfl (by kernel_rfl) (by kernel_rfl) (by kernel_rfl) (fun _ _ _ h => h) (Or.inl ⟨by rfl, ?taq6⟩) (by assumption) ?tbq6
                case taq6 =>
                  intro wS hSw
                  (try dsimp only at hSw)
                  go_simp
                  (try (with_reducible rfl))
                (try simp only [List.getElem_toArray, List.getElem_cons_zero, List.getElem_cons_succ, Act.put, List.setIfInBounds_toArray, List.set_cons_zero, List.set_cons_succ])
                refine' wpAnyH_take (i := 8) (v := _) rfl (by kernel_rfl) (by kernel_rfl) (by kernel_rfl) (fun _ _ _ h => h) (Or.inl ⟨by rfl, ?taq7⟩) (by assumption) ?tbq7
                case taq7 =>
                  intro wS hSw
                  (try dsimp only at hSw)
                  go_simp
                  (try (with_reducible rfl))
                (try simp only [List.getElem_toArray, List.getElem_cons_zero, List.getElem_cons_succ, Act.put, List.setIfInBounds_toArray, List.set_cons_zero, List.set_cons_succ])
                refine wpAnyH_ready (rs := [9]) (by kernel_rfl) (by simp) ?_
                refine AllReadyH.cons rfl (fun K9 hK9 => ?_) AllReadyH.nil
                (try simp only [List.getElem_toArray, List.getElem_cons_zero, List.getElem_cons_succ])
                go_simp
                refine hK9.out _ _ ((HS2.out.al _).s) (fun hHeld9 => ?_)
                clear hK9 K9
                (try simp only [List.getElem_toArray, List.getElem_cons_zero, List.getElem_cons_succ, Act.put, List.setIfInBounds_toArray, List.set_cons_zero, List.set_cons_succ])
                refine wpAnyH_ready (rs := [10]) (by kernel_rfl) (by simp) ?_
                refine AllReadyH.cons rfl (fun K9 hK9 => ?_) AllReadyH.nil
                (try simp only [List.getElem_toArray, List.getElem_cons_zero, List.getElem_cons_succ])
                go_simp
                refine hK9.out _ _ ((HS2.out.al _).s) (fun hHeld9 => ?_)
                clear hK9 K9
                (try simp only [List.getElem_toArray, List.getElem_cons_zero, List.getElem_cons_succ, Act.put, List.setIfInBounds_toArray, List.set_cons_zero, List.set_cons_succ])
                refine' wpAnyH_take (i := 11) (v := _) rfl (by kernel_rfl) (by kernel_rfl) (by kernel_rfl) (fun _ _ _ h => h) (Or.inl ⟨by rfl, ?taq8⟩) (by assumption) ?tbq8
                case taq8 =>
                  intro wS hSw
                  (try dsimp only at hSw)
                  go_simp
                  (try (with_reducible rfl))
                (try simp only [List.getElem_toArray, List.getElem_cons_zero, List.getElem_cons_succ, Act.put, List.setIfInBounds_toArray, List.set_cons_zero, List.set_cons_succ])
                refine wpAnyH_done (by kernel_rfl) ?_ _
                go_wp2_with fail
                go_meet
                exact ⟨_, _, _, _, rfl, HS2.out.fin (Below.refl _ _ |>.alloc (Nat.le_refl _) _) (Blk.fresh w8 39 _) (kz.alloc _) (own_lower (own_off (own_bel3 hown7 hb8) ((Off.refl (fun _ => False) w8).alloc _) (fun _ _ h => h)) (by omega)) (fun k hk => by have := (hown7.lt k hk).2; omega) (by omega) (by omega) (by have := kz.lt; omega)⟩
              · (try simp only [List.getElem_toArray, List.getElem_cons_zero, List.getElem_cons_succ])
                go_simp
                have HA := Lib.hid (HS1.out.al (.cells #[.slice none 0 0, .int .i64 0, .slice none 0 0] 39))
                have kq := Lib.hid (Blk.fresh w7 39 [.slice none 0 0, .int .i64 0, .slice none 0 0])
                have hoa := own_off hown7 ((Off.refl (fun _ => False) w7).alloc (.cells #[.slice none 0 0, .int .i64 0, .slice none 0 0] 39)) (fun _ _ h => h)
                refine hK9.out _ _ (HA.out.s) (fun hHeld9 => ?_)
                clear hK9 K9
                (try simp only [List.getElem_toArray, List.getElem_cons_zero, List.getElem_cons_succ, Act.put, List.setIfInBounds_toArray, List.set_cons_zero, List.set_cons_succ])
                refine wpAnyH_ready (rs := [5]) (by kernel_rfl) (by simp) ?_
                refine AllReadyH.cons rfl (fun K9 hK9 => ?_) AllReadyH.nil
                (try simp only [List.getElem_toArray, List.getElem_cons_zero, List.getElem_cons_succ])
                go_simp
                with_reducible refine (HACC.out (w7.alloc (.cells #[.slice none 0 0, .int .i64 0, .slice none 0 0] 39)) _ (Reads.of_own hoa)).mono ?_
                rintro en w8 ⟨g0, rfl, kz, hg8, hb8⟩
                rw [ints_replicateZ] at kz
                have hs8 := hb8.size
                have HS2 := Lib.hid (HA.out.go hb8)
                have hsz : (w7.alloc (.cells #[.slice none 0 0, .int .i64 0, .slice none 0 0] 39)).heap.size = w7.heap.size + 1 := by simp
                have kq8 := kq.out.below hb8 kq.out.lt
                have z0 := kq8.cell 0
                have z1 := kq8.cell 1
                have z2 := kq8.cell 2
                have y0 := kq8.free 0
                have y1 := kq8.free 1
                have y2 := kq8.free 2
                have HQ8 := Lib.hid kq8
                clear kq8
                refine hK9.out _ _ (HS2.out.s) (fun hHeld9 => ?_)
                clear hK9 K9
                (try simp only [List.getElem_toArray, List.getElem_cons_zero, List.getElem_cons_succ, Act.put, List.setIfInBounds_toArray, List.set_cons_zero, List.set_cons_succ])
                refine' wpAnyH_take (i := 6) (v := _) rfl (by kernel_rfl) (by kernel_rfl) (by kernel_rfl) (fun _ _ _ h => h) (Or.inl ⟨by rfl, ?taq9⟩) (by assumption) ?tbq9
                case taq9 =>
                  intro wS hSw
                  (try dsimp only at hSw)
                  go_simp
                  (try (with_reducible rfl))
                (try simp only [List.getElem_toArray, List.getElem_cons_zero, List.getElem_cons_succ, Act.put, List.setIfInBounds_toArray, List.set_cons_zero, List.set_cons_succ])
                refine' wpAnyH_take (i := 7) (v := _) rfl (by kernel_rfl) (by kernel_rfl) (by kernel_rfl) (fun _ _ _ h => h) (Or.inl ⟨by rfl, ?taq10⟩) (by assumption) ?tbq10
                case taq10 =>
                  intro wS hSw
                  (try dsimp only at hSw)
                  go_simp
                  (try (with_reducible rfl))
                (try simp only [List.getElem_toArray, List.getElem_cons_zero, List.getElem_cons_succ, Act.put, List.setIfInBounds_toArray, List.set_cons_zero, List.set_cons_succ])
                refine' wpAnyH_take (i := 8) (v := _) rfl (by kernel_rfl) (by kernel_rfl) (by kernel_rfl) (fun _ _ _ h => h) (Or.inl ⟨by rfl, ?taq11⟩) (by assumption) ?tbq11
                case taq11 =>
                  intro wS hSw
                  (try dsimp only at hSw)
                  go_simp
                  (try (with_reducible rfl))
                (try simp only [List.getElem_toArray, List.getElem_cons_zero, List.getElem_cons_succ, Act.put, List.setIfInBounds_toArray, List.set_cons_zero, List.set_cons_succ])
                refine wpAnyH_ready (rs := [10]) (by kernel_rfl) (by simp) ?_
                refine AllReadyH.cons rfl (fun K9 hK9 => ?_) AllReadyH.nil
                (try simp only [List.getElem_toArray, List.getElem_cons_zero, List.getElem_cons_succ])
                go_simp
                refine hK9.out _ _ ((HS2.out.set3 w7.heap.size (by omega) _ _ _).s) (fun hHeld9 => ?_)
                clear hK9 K9
                (try simp only [List.getElem_toArray, List.getElem_cons_zero, List.getElem_cons_succ, Act.put, List.setIfInBounds_toArray, List.set_cons_zero, List.set_cons_succ])
                refine' wpAnyH_take (i := 11) (v := _) rfl (by kernel_rfl) (by kernel_rfl) (by kernel_rfl) (fun _ _ _ h => h) (Or.inl ⟨by rfl, ?taq12⟩) (by assumption) ?tbq12
                case taq12 =>
                  intro wS hSw
                  (try dsimp only at hSw)
                  go_simp
                  (try (with_reducible rfl))
                (try simp only [List.getElem_toArray, List.getElem_cons_zero, List.getElem_cons_succ, Act.put, List.setIfInBounds_toArray, List.set_cons_zero, List.set_cons_succ])
                refine wpAnyH_done (by kernel_rfl) ?_ _
                go_wp2_with fail
                go_meet
                have hof := off_set3 w8 w7.heap.size (.slice A7 gd.length c7) (.int .i64 ge) (.slice (some ⟨g0, 0, none⟩) gx.length gx.length)
                exact ⟨_, _, _, _, rfl, HS2.out.finO (q := w7.heap.size) hof (((HQ8.out.put 0 _).put 1 _).put 2 _) (kz.off hof (by omega)) (own_lower (own_off (own_bel3 hoa hb8) hof (fun k hk he => by have := (hown7.lt k hk).2; omega)) (by omega)) (fun k hk => by have := (hown7.lt k hk).2; omega) (by omega) (by omega) (by omega)⟩
            · (try simp only [List.getElem_toArray, List.getElem_cons_zero, List.getElem_cons_succ])
              go_simp
              have HA : Hid (RBase w b [.slice A gd.length c, .int .i64 ge, .slice A' gx.length c'] [.slice A2 xd.length c2, .int .i64 xe, .slice A2' xx.length c2'] ((w6.alloc (.cells #[.slice none 0 0, .int .i64 0, .slice none 0 0] 39)).drew)) := Lib.hid (HS00.out.al (.cells #[.slice none 0 0, .int .i64 0, .slice none 0 0] 39)).dr
              have kq : Hid (Blk ((w6.alloc (.cells #[.slice none 0 0, .int .i64 0, .slice none 0 0] 39)).drew) w6.heap.size 39 [.slice none 0 0, .int .i64 0, .slice none 0 0]) := Lib.hid (Blk.fresh w6 39 [.slice none 0 0, .int .i64 0, .slice none 0 0])
              refine hK9.out _ _ (HA.out.s) (fun hHeld9 => ?_)
              clear hK9 K9
              (try simp only [List.getElem_toArray, List.getElem_cons_zero, List.getElem_cons_succ, Act.put, List.setIfInBounds_toArray, List.set_cons_zero, List.set_cons_succ])
              refine wpAnyH_ready (rs := [2]) (by kernel_rfl) (by simp) ?_
              refine AllReadyH.cons rfl (fun K9 hK9 => ?_) AllReadyH.nil
              (try simp only [List.getElem_toArray, List.getElem_cons_zero, List.getElem_cons_succ])
              rw [if_pos (by rfl)]
              have hsz : ((w6.alloc (.cells #[.slice none 0 0, .int .i64 0, .slice none 0 0] 39)).drew).heap.size = w6.heap.size + 1 := by show (w6.alloc _).heap.size = _; simp
              refine wp_extend elem_int ((w6.alloc (.cells #[.slice none 0 0, .int .i64 0, .slice none 0 0] 39)).drew) _ _ (by rfl) (((w6.alloc (.cells #[.slice none 0 0, .int .i64 0, .slice none 0 0] 39)).drew).heap.size) 0 (.slice none 0 0) [] (by rfl) (World.ownsRow_nil _ _ _ _) B _ (ints .i64 gd) (by rfl) (TG0.out.below (HA.out.wbel (by omega))).d (ints_one _ _) (by rw [length_ints]; unfold maxLen; omega) (by rw [length_ints]; omega) (Nat.le_refl _) ?_
              intro A7 c7 w7 hown7 hgrow7 hfr7
              rw [Nat.zero_add, List.nil_append, length_ints] at hown7
              have hb7 : Below ((w6.alloc (.cells #[.slice none 0 0, .int .i64 0, .slice none 0 0] 39)).drew).heap.size ((w6.alloc (.cells #[.slice none 0 0, .int .i64 0, .slice none 0 0] 39)).drew) w7 := (Below.refl _ _).grown hgrow7 (Nat.le_refl _) (fun k hk => by cases hk)
              rw [Nat.zero_add, length_ints]
              have hs7 := hb7.size
              have HS1 := Lib.hid (HA.out.go hb7)
              have HO7 := Lib.hid hown7
              have HQ7 := Lib.hid (kq.out.below hb7 kq.out.lt)
              clear hgrow7 hfr7
              refine hK9.out _ _ (HS1.out.s) (fun hHeld9 => ?_)
              clear hK9 K9
              (try simp only [List.getElem_toArray, List.getElem_cons_zero, List.getElem_cons_succ, Act.put, List.setIfInBounds_toArray, List.set_cons_zero, List.set_cons_succ])
              refine wpAnyH_ready (rs := [5]) (by kernel_rfl) (by simp) ?_
              refine AllReadyH.cons rfl (fun K9 hK9 => ?_) AllReadyH.nil
              (try simp only [List.getElem_toArray, List.getElem_cons_zero, List.getElem_cons_succ])
              go_simp
              with_reducible refine (HACC.out (w7) _ (Reads.of_own hown7)).mono ?_
              rintro en w8 ⟨g0, rfl, kz, hg8, hb8⟩
              rw [ints_replicateZ] at kz
              have hs8 := hb8.size
              have HS2 := Lib.hid (HS1.out.go hb8)
              have kq8 := HQ7.out.below hb8 (by omega)
              have z0 := kq8.cell 0
              have z1 := kq8.cell 1
              have z2 := kq8.cell 2
              have y0 := kq8.free 0
              have y1 := kq8.free 1
              have y2 := kq8.free 2
              have HQ8 := Lib.hid kq8
              clear kq8
              refine hK9.out _ _ (HS2.out.s) (fun hHeld9 => ?_)
              clear hK9 K9
              (try simp only [List.getElem_toArray, List.getElem_cons_zero, List.getElem_cons_succ, Act.put, List.setIfInBounds_toArray, List.set_cons_zero, List.set_cons_succ])
              refine' wpAnyH_take (i := 6) (v := _) rfl (by kernel_rfl) (by kernel_rfl) (by kernel_rfl) (fun _ _ _ h => h) (Or.inl ⟨by rfl, ?taq13⟩) (by assumption) ?tbq13
              case taq13 =>
                intro wS hSw
                (try dsimp only at hSw)
                go_simp
                (try (with_reducible rfl))
              (try simp only [List.getElem_toArray, List.getElem_cons_zero, List.getElem_cons_succ, Act.put, List.setIfInBounds_toArray, List.set_cons_zero, List.set_cons_succ])
              refine' wpAnyH_take (i := 7) (v := _) rfl (by kernel_rfl) (by kernel_rfl) (by kernel_rfl) (fun _ _ _ h => h) (Or.inl ⟨by rfl, ?taq14⟩) (by assumption) ?tbq14
              case taq14 =>
                intro wS hSw
                (try dsimp only at hSw)
                go_simp
                (try (with_reducible rfl))
              (try simp only [List.getElem_toArray, List.getElem_cons_zero, List.getElem_cons_succ, Act.put, List.setIfInBounds_toArray, List.set_cons_zero, List.set_cons_succ])
              refine' wpAnyH_take (i := 8) (v := _) rfl (by kernel_rfl) (by kernel_rfl) (by kernel_rfl) (fun _ _ _ h => h) (Or.inl ⟨by rfl, ?taq15⟩) (by assumption) ?tbq15
              case taq15 =>
                intro wS hSw
                (try dsimp only at hSw)
                go_simp
                (try (with_reducible rfl))
              (try simp only [List.getElem_toArray, List.getElem_cons_zero, List.getElem_cons_succ, Act.put, List.setIfInBounds_toArray, List.set_cons_zero, List.set_cons_succ])
              refine wpAnyH_ready (rs := [10]) (by kernel_rfl) (by simp) ?_
              refine AllReadyH.cons rfl (fun K9 hK9 => ?_) AllReadyH.nil
              (try simp only [List.getElem_toArray, List.getElem_cons_zero, List.getElem_cons_succ])
              go_simp
              refine hK9.out _ _ ((HS2.out.set3 w6.heap.size (by omega) _ _ _).s) (fun hHeld9 => ?_)
              clear hK9 K9
              (try simp only [List.getElem_toArray, List.getElem_cons_zero, List.getElem_cons_succ, Act.put, List.setIfInBounds_toArray, List.set_cons_zero, List.set_cons_succ])
              refine' wpAnyH_take (i := 11) (v := _) rfl (by kernel_rfl) (by kernel_rfl) (by kernel_rfl) (fun _ _ _ h => h) (Or.inl ⟨by rfl, ?taq16⟩) (by assumption) ?tbq16
              case taq16 =>
                intro wS hSw
                (try dsimp only at hSw)
                go_simp
                (try (with_reducible rfl))
              (try simp only [List.getElem_toArray, List.getElem_cons_zero, List.getElem_cons_succ, Act.put, List.setIfInBounds_toArray, List.set_cons_zero, List.set_cons_succ])
              refine wpAnyH_done (by kernel_rfl) ?_ _
              go_wp2_with fail
              go_meet
              have hof := off_set3 w8 w6.heap.size (.slice A7 gd.length c7) (.int .i64 ge) (.slice (some ⟨g0, 0, none⟩) gx.length gx.length)
              exact ⟨_, _, _, _, rfl, HS2.out.finO (q := w6.heap.size) hof (((HQ8.out.put 0 _).put 1 _).put 2 _) (kz.off hof (by omega)) (own_lower (own_off (own_bel3 hown7 hb8) hof (fun k hk he => by have := (hown7.lt k hk).1; omega)) (by omega)) (fun k hk => by have := (hown7.lt k hk).2; omega) (by omega) (by omega) (by omega)⟩
          case rest =>
            obtain ⟨q, g0, A7, c7, rfl, hst⟩ := hcut
            have b2 : wc.cell? ⟨q, 2, none⟩ = some (.slice (some ⟨g0, 0, none⟩) gx.length gx.length) := hst.out.cell 2
            have HST := Lib.hid hst
            clear hst t0 t1 s1 r0 r1 r2 f0 f1 f2 TG TX BB KG KX KR HACC
            go_wp2_with fail
            go_loopw [66] (fun i wr => ∃ (k : Nat) (zs : List Int), k ≤ gx.length ∧ i = .int .i64 k ∧ zs.length = gx.length ∧ zs.take k = ys.take k ∧ (ys.take k).all inB = true ∧ RAccI w b q g0 [.slice A gd.length c, .int .i64 ge, .slice A' gx.length c'] [.slice A2 xd.length c2, .int .i64 xe, .slice A2' xx.length c2'] ge (.slice A7 gd.length c7) gd zs gx.length wr) (fun i _ => gx.length - (intOf i).toNat)
            case atStart => exact ⟨0, _, by omega, rfl, by simp, by simp, by simp, HST.out⟩
            case round =>
              obtain ⟨k, zs, hk, rfl, hzl, hzk, hall, hwr⟩ := hrel
              by_cases hlt : k < gx.length
              · have hlen := HLEN.out
                obtain ⟨x1, hx1⟩ : ∃ x1, gx[k]? = some x1 := ⟨gx[k], List.getElem?_eq_getElem (by omega)⟩
                obtain ⟨y1, hy1⟩ : ∃ y1, xx[k]? = some y1 := ⟨xx[k]'(by omega), List.getElem?_eq_getElem (by omega)⟩
                have hyk := sum_at gx xx k x1 y1 hx1 hy1
                rw [HYS.out] at hyk
                have hxb := inB_of (List.all_eq_true.1 HG3.out x1 (List.mem_of_getElem? hx1))
                have hyb := inB_of (List.all_eq_true.1 HP3.out y1 (List.mem_of_getElem? hy1))
                obtain ⟨xb0, xb1⟩ := hxb
                obtain ⟨yb0, yb1⟩ := hyb
                have hxr := (TG0.out.below (hwr.bel.mono (by have := HBE.out; omega))).x
                have hyr := (TX0.out.below (hwr.bel.mono (by have := HBE.out; omega))).x
                obtain ⟨AA, n1, c9a, hva, hn, hcc, hmm, ha⟩ := hxr
                injection hva with q1 q2 q3
                subst q1 q2 q3
                obtain ⟨AA', n1', c9b, hva', hn', hcc', hmm', ha'⟩ := hyr
                injection hva' with q1 q2 q3
                subst q1 q2 q3
                obtain ⟨g, o, rfl, hg, hx⟩ := ha.out (by omega)
                obtain ⟨g', o', rfl, hg', hy⟩ := ha'.out (by omega)
                have z1 := hx k (.int .i32 x1) (by rw [ints, List.getElem?_map, hx1]; rfl)
                have z2 := hy k (.int .i32 y1) (by rw [ints, List.getElem?_map, hy1]; rfl)
                have i1 : (0 : Int) ≤ (k : Int) := by omega
                have i2 : (k : Int) < (gx.length : Int) := by omega
                have i2' : (k : Int) < (xx.length : Int) := by omega
                have i3 : (k : Int) ≤ 9223372036854775806 := by omega
                have c1 : wr.cell? ⟨b, 2, none⟩ = some (.slice (some ⟨g, o, none⟩) gx.length c') := hwr.box.cell 2
                have c4 : wr.cell? ⟨b + 1, 2, none⟩ = some (.slice (some ⟨g', o', none⟩) xx.length c2') := hwr.box2.cell 2
                have HYK := Lib.hid hyk
                have HALL := Lib.hid hall
                have HNX := Lib.hid (set_next hzk hyk (by have := HYL.out; omega))
                have HZL := Lib.hid hzl
                obtain ⟨s1, hs1⟩ : ∃ s, zs[k]? = some s := ⟨zs[k]'(by omega), List.getElem?_eq_getElem (by omega)⟩
                have d1 : wr.cell? ⟨g0, k, none⟩ = some (.int .i32 s1) := (hwr.dat.cell k).trans (by rw [ints, List.getElem?_map, hs1]; rfl)
                have f1 : wr.frozen? ⟨g0, k, none⟩ = false := hwr.dat.free k
                have c6' : wr.cell? ⟨q, 2, none⟩ = some (.slice (some ⟨g0, 0, none⟩) gx.length gx.length) := hwr.out.cell 2
                have HWN : Hid (∀ m : Nat, RAccI w b q g0 [.slice A gd.length c, .int .i64 ge, .slice (some ⟨g, o, none⟩) gx.length c'] [.slice A2 xd.length c2, .int .i64 xe, .slice (some ⟨g', o', none⟩) xx.length c2'] ge (.slice A7 gd.length c7) gd (zs.set k (x1 + y1)) gx.length ((wr.drewN m).setCell ⟨g0, k, none⟩ (.int .i32 (x1 + y1)))) := Lib.hid (fun m => (hwr.drewN m).next k (x1 + y1))
                have h0 : wr.cell? ⟨b + 2, 0, none⟩ = some (.slice none 0 0) := hwr.res.cell 0
                have h1 : wr.cell? ⟨b + 2, 1, none⟩ = some (.int .i64 0) := hwr.res.cell 1
                have h2 : wr.cell? ⟨b + 2, 2, none⟩ = some (.slice none 0 0) := hwr.res.cell 2
                have hf0 := hwr.res.free 0
                have hf1 := hwr.res.free 1
                have hf2 := hwr.res.free 2
                have HWR := Lib.hid hwr
                clear hyk hall hwr hlen hx1 hy1 hx hy ha ha' hg hg' hcc hcc' hmm hmm' hn hn' b2 HST hzk hzl hs1
                by_cases hib : -16777216 < x1 + y1 ∧ x1 + y1 < 16777216
                · have t1 : decide (16777216 ≤ x1 + y1) = false := by simp; omega
                  have t2 : decide (x1 + y1 ≤ -16777216) = false := by simp; omega
                  have hin : inB (x1 + y1) = true := by unfold inB; simp; omega
                  have HA2 := Lib.hid (all_take_next HALL.out HYK.out hin)
                  clear hin hib
                  go_wp2_with fail
                  go_quiet (fail)
                  go_wp2
                  go_roundw
                  case rel => exact ⟨k + 1, _, by omega, by go_num, by rw [List.length_set]; exact HZL.out, HNX.out, HA2.out, HWN.out _⟩
                  case measure => simp [intOf]; omega
                · have hin : inB (x1 + y1) = false := by unfold inB; simp; omega
                  have hae : accErr gd ge gx xd xe xx = 3 := by rw [HAE.out, if_neg (by rw [not_all HYK.out hin]; simp)]
                  have HNE := Lib.hid hae
                  clear hin hae
                  by_cases h16 : 16777216 ≤ x1 + y1
                  · have t1 : decide (16777216 ≤ x1 + y1) = true := by simp; omega
                    clear hib h16
                    go_wp2_with fail
                    go_quiet (fail)
                    go_wp2
                    refine bodyPost_ret (v := .tuple #[.agg #[.slice none 0 0, .int .i64 0, .slice none 0 0], .int .i64 3]) (by simp [results, Try.results29, go_sem, h0, h1, h2]) rfl ?_
                    exact acc_no (by have := (HWR.out.drewN nq).bel; rw [HBE.out]; exact this) HBE.out (HWR.out.drewN nq).res.lt (by rw [← HDE.out, HNE.out]; rfl) (by rw [← HEE.out, HNE.out]; rfl) (by rw [← HXE.out, HNE.out]; rfl) (by rw [← HER.out, HNE.out]) _ _ _
                  · have t1 : decide (16777216 ≤ x1 + y1) = false := by simp; omega
                    have t2 : decide (x1 + y1 ≤ -16777216) = true := by simp; omega
                    clear hib h16
                    go_wp2_with fail
                    go_quiet (fail)
                    go_wp2
                    refine bodyPost_ret (v := .tuple #[.agg #[.slice none 0 0, .int .i64 0, .slice none 0 0], .int .i64 3]) (by simp [results, Try.results29, go_sem, h0, h1, h2]) rfl ?_
                    exact acc_no (by have := (HWR.out.drewN nq).bel; rw [HBE.out]; exact this) HBE.out (HWR.out.drewN nq).res.lt (by rw [← HDE.out, HNE.out]; rfl) (by rw [← HEE.out, HNE.out]; rfl) (by rw [← HXE.out, HNE.out]; rfl) (by rw [← HER.out, HNE.out]) _ _ _
              · obtain rfl : k = gx.length := by omega
                have e0' : zs = ys := by
                  rw [List.take_of_length_le (by omega), List.take_of_length_le (by have := HYL.out; omega)] at hzk
                  exact hzk
                subst e0'
                rw [List.take_of_length_le (by omega)] at hall
                have hae : accErr gd ge gx xd xe xx = 0 := by rw [HAE.out, if_pos hall]
                have HNE := Lib.hid hae
                have HALL := Lib.hid hall
                have h0 : wr.cell? ⟨q, 0, none⟩ = some (.slice A7 gd.length c7) := hwr.out.cell 0
                have h1 : wr.cell? ⟨q, 1, none⟩ = some (.int .i64 ge) := hwr.out.cell 1
                have h2 : wr.cell? ⟨q, 2, none⟩ = some (.slice (some ⟨g0, 0, none⟩) gx.length gx.length) := hwr.out.cell 2
                have z0 : wr.cell? ⟨b + 2, 0, none⟩ = some (.slice none 0 0) := hwr.res.cell 0
                have z1 : wr.cell? ⟨b + 2, 1, none⟩ = some (.int .i64 0) := hwr.res.cell 1
                have z2 : wr.cell? ⟨b + 2, 2, none⟩ = some (.slice none 0 0) := hwr.res.cell 2
                have y0 := hwr.res.free 0
                have y1 := hwr.res.free 1
                have y2 := hwr.res.free 2
                have HWR := Lib.hid hwr
                clear hwr b2 HST hall hae hzk hzl
                go_wp2
                refine bodyPost_ret (v := .tuple #[.agg #[.slice A7 gd.length c7, .int .i64 ge, .slice (some ⟨g0, 0, none⟩) gx.length gx.length], .int .i64 0]) (by simp [results, Try.results29, go_sem, z0, z1, z2]) rfl ?_
                have e1 : gd = D := by have := HDE.out; rwa [if_pos HNE.out] at this
                have e2 : ge = E := by have := HEE.out; rwa [if_pos HNE.out] at this
                have e3 : zs = X := by have := HXE.out; rw [if_pos HNE.out] at this; rw [← HYS.out]; exact this
                have e4 : err = 0 := by rw [← HER.out]; exact HNE.out
                rw [← e1, ← e2, ← e3, e4]
                exact HWR.out.fin HYL.out (by omega) _ _ _ TG0.out.db (Lib.hid (fun x hx => by have := inB_of (List.all_eq_true.1 HALL.out x hx); omega)) TG0.out.e0 TG0.out.e1
        · have hxx : (ge != xe) = true := by simpa using hee
          have hne : accErr gd ge gx xd xe xx = 2 := by unfold accErr; rw [if_pos ⟨HMG.out, HMX.out⟩, if_pos HDD.out, if_neg hee]
          have HNE := Lib.hid hne
          clear hne hee
          go_wp2
          refine bodyPost_ret (v := .tuple #[.agg #[.slice none 0 0, .int .i64 0, .slice none 0 0], .int .i64 2]) (by simp [results, Try.results29, go_sem, r0, r1, r2]) rfl ?_
          exact acc_no BB.out HBE.out KR.out.lt (by rw [← HDE.out, HNE.out]; rfl) (by rw [← HEE.out, HNE.out]; rfl) (by rw [← HXE.out, HNE.out]; rfl) (by rw [← HER.out, HNE.out]) _ _ _
end Go.Proofs.Ythdahnjghpiheaa
