/- Contracts of the reference's ReluBack and Relu. -/
import Derived.Test.YthdahnjghpiheaaRefMay
import Derived.Test.YthdahnjghpiheaaAccP
import Derived.Test.YthdahnjghpiheaaReluP
import Derived.Deep.RegionHeld3
import Derived.Deep.DrawnRows
import Derived.Deep.DeepCutAuto
namespace Go.Proofs.Ythdahnjghpiheaa
open Go.RowKit
set_option linter.unusedVariables false

theorem back_noO {w w3 : World} {D : List Int} {E : Int} {X : List Int} {err e : Int} {b : Nat} (k : Nat) (hb : Below w.heap.size w w3) (hbe : w.heap.size = b) (hk : b + k < w3.heap.size) (hD : D = []) (hE : E = 0) (hX : X = []) (he : err = e) (u0 u1 u2 : Value) :
    FormO w D E X err (.returned (.tuple #[.agg #[.slice none 0 0, .int .i64 0, .slice none 0 0], .int .i64 e])) (((w3.setCell ⟨b + k, 0, none⟩ u0).setCell ⟨b + k, 1, none⟩ u1).setCell ⟨b + k, 2, none⟩ u2) := by
  subst hD hE hX he
  exact ⟨_, _, _, _, rfl, IsT.zero _ _, hb.trans ((off_set3 w3 (b + k) _ _ _).below (by have := hb.size; omega) (fun i hi => by omega)), World.ownsRow_nil _ _ _ _, World.ownsRow_nil _ _ _ _⟩
structure BakI (w : World) (b q B0 : Nat) (G X : List Value) (exp : Int) (d6 : Value) (dims : List Int) (u : Value) (ys : List Int) (wr : World) : Prop where
  box : Blk wr b 25 G
  box2 : Blk wr (b + 1) 25 X
  res : Blk wr (b + 2) 25 [.slice none 0 0, .int .i64 0, .slice none 0 0]
  out : Blk wr q 25 [d6, .int .i64 exp, u]
  own : wr.ownsRow B0 34 1 u ys.length (ints .i8 ys)
  dim : wr.ownsRow (b + 3) 3 1 d6 dims.length (ints .i64 dims)
  dlt : ∀ k, d6.ownBlock = some k → k < B0 ∧ k ≠ q
  q0 : b + 2 < q
  q1 : q < B0
  sz : B0 ≤ wr.heap.size
  wb : w.heap.size = b
  bel : Below b w wr
section
variable {w wA wr w1 w5 : World} {b q B0 : Nat} {G X : List Value} {exp : Int} {d6 : Value} {dims : List Int} {u : Value} {ys : List Int}
theorem BakI.ulow (h : BakI w b q B0 G X exp d6 dims u ys wr) {k : Nat} (hk : u.ownBlock = some k) : B0 ≤ k := (h.own.lt k hk).1
theorem BakI.drewN (h : BakI w b q B0 G X exp d6 dims u ys wr) (n : Nat) : BakI w b q B0 G X exp d6 dims u ys (wr.drewN n) :=
  ⟨h.box, h.box2, h.res, h.out, h.own, h.dim, h.dlt, h.q0, h.q1, h.sz, h.wb, below_drewN h.bel n⟩
theorem BakI.next {o : Obj} {A : Option Addr} {c : Nat} {y : Int} (h : BakI w b q B0 G X exp d6 dims u ys wr)
    (hg : (wr.alloc o).grownBy w1 u.ownBlock) (hown : w1.ownsRow B0 34 1 (.slice A (ys.length + 1) c) (ys.length + 1) (ints .i8 ys ++ [.int .i8 y])) :
    BakI w b q B0 G X exp d6 dims (.slice A (ys.length + 1) c) (ys ++ [y]) (w1.setCell ⟨q, 2, none⟩ (.slice A (ys.length + 1) c)) := by
  have q0 := h.q0
  have q1 := h.q1
  have hlow : ∀ k, u.ownBlock = some k → B0 ≤ k := fun k hk => h.ulow hk
  have hne : ∀ g, g < B0 → some g ≠ u.ownBlock := fun g hg he => by have := hlow g he.symm; omega
  have hoff : Off (fun i => i = q ∨ u.ownBlock = some i) wr (w1.setCell ⟨q, 2, none⟩ (.slice A (ys.length + 1) c)) :=
    Off.setCell (p := ⟨q, 2, none⟩) ((((Off.refl (fun i => i = q ∨ u.ownBlock = some i) wr).alloc o).grown hg (fun k hk => .inl (.inr hk)))) (.inl (.inl rfl)) _
  refine ⟨?_, ?_, ?_, ?_, ?_, ?_, ?_, h.q0, h.q1, ?_, h.wb, ?_⟩
  · exact ((h.box.alloc o).grown hg (hne b (by omega))).far (by show b ≠ q; omega) _
  · exact ((h.box2.alloc o).grown hg (hne (b + 1) (by omega))).far (by show b + 1 ≠ q; omega) _
  · exact ((h.res.alloc o).grown hg (hne (b + 2) (by omega))).far (by show b + 2 ≠ q; omega) _
  · exact ((h.out.alloc o).grown hg (hne q (by omega))).put 2 _
  · have h1 := own_off (w' := w1.setCell ⟨q, 2, none⟩ (.slice A (ys.length + 1) c)) hown (Off.setCell (p := ⟨q, 2, none⟩) (Off.refl (fun i => i = q) w1) (.inl rfl) _) (fun k hk he => by have := (hown.lt k hk).1; omega)
    have e : ints .i8 (ys ++ [y]) = ints .i8 ys ++ [.int .i8 y] := by simp [ints]
    rw [e, List.length_append]
    exact h1
  · exact own_off h.dim hoff (fun k hk he => by
      have := h.dlt k hk
      rcases he with he | he
      · exact this.2 he
      · have := hlow k he; omega)
  · exact h.dlt
  · exact Nat.le_trans h.sz hoff.size
  · exact h.bel.trans (hoff.below (by have := h.sz; omega) (fun i hi => by
      rcases hi with hi | hi
      · omega
      · have := hlow i hi; omega))
theorem BakI.start1 (hb : w.heap.size = b) (hs : b + 3 ≤ wA.heap.size) (K2 : Blk wA (b + 2) 25 [.slice none 0 0, .int .i64 0, .slice none 0 0])
    (HB : Below b w wA) (KG : Blk w5 b 25 G) (KX : Blk w5 (b + 1) 25 X) (HO : w5.ownsRow wA.drew.heap.size 3 1 d6 dims.length (ints .i64 dims)) (HW : Below wA.drew.heap.size wA.drew w5) :
    BakI w b w5.heap.size (w5.alloc (.cells #[d6, .int .i64 exp, .slice none 0 0] 25)).heap.size G X exp d6 dims (.slice none 0 0) [] (w5.alloc (.cells #[d6, .int .i64 exp, .slice none 0 0] 25)) := by
  have h2 := HW.size
  have h1 : wA.drew.heap.size = wA.heap.size := rfl
  rw [h1] at HO HW h2
  have h3 : Off (fun _ => False) w5 (w5.alloc (.cells #[d6, .int .i64 exp, .slice none 0 0] 25)) := (Off.refl _ _).alloc _
  refine ⟨KG.alloc _, KX.alloc _, ((K2.drew).below HW (by omega)).alloc _, Blk.freshA _ _ _, World.ownsRow_nil _ _ _ _, own_lower (own_off HO h3 (fun _ _ h => h)) (by omega), ?_, by omega, by simp, Nat.le_refl _, hb, ?_⟩
  · intro k hk
    have := (HO.lt k hk)
    simp
    omega
  · exact ((HB.drew).trans (HW.mono (by omega))).alloc (by omega) _
theorem BakI.start2 (o : Obj) (hb : w.heap.size = b) (hs : b + 3 ≤ wA.heap.size) (K2 : Blk wA (b + 2) 25 [.slice none 0 0, .int .i64 0, .slice none 0 0])
    (HB : Below b w wA) (KG : Blk w5 b 25 G) (KX : Blk w5 (b + 1) 25 X) (HM : Blk w5 wA.heap.size 25 [.slice none 0 0, .int .i64 0, .slice none 0 0]) (HO : w5.ownsRow ((wA.alloc o).drew).heap.size 3 1 d6 dims.length (ints .i64 dims)) (HW : Below ((wA.alloc o).drew).heap.size ((wA.alloc o).drew) w5) :
    BakI w b wA.heap.size w5.heap.size G X exp d6 dims (.slice none 0 0) [] (((w5.setCell ⟨wA.heap.size, 0, none⟩ d6).setCell ⟨wA.heap.size, 1, none⟩ (.int .i64 exp)).setCell ⟨wA.heap.size, 2, none⟩ (.slice none 0 0)) := by
  have h1 : ((wA.alloc o).drew).heap.size = wA.heap.size + 1 := by show (wA.alloc o).heap.size = _; simp
  have h2 := HW.size
  rw [h1] at HO HW h2
  have h3 := off_set3 w5 wA.heap.size d6 (.int .i64 exp) (.slice none 0 0)
  refine ⟨KG.off h3 (by omega), KX.off h3 (by omega), (((K2.alloc o).drew).below HW (by omega)).off h3 (by omega), ((HM.put 0 _).put 1 _).put 2 _, World.ownsRow_nil _ _ _ _, own_lower (own_off HO h3 (fun k hk he => by have := (HO.lt k hk).1; omega)) (by omega), ?_, by omega, by have := HM.lt; omega, h3.size, hb, ?_⟩
  · intro k hk
    have := (HO.lt k hk)
    omega
  · exact ((((HB.alloc (by omega) o).drew).trans (HW.mono (by omega)))).trans (h3.below (by omega) (fun i hi => by omega))
theorem BakI.fin (h : BakI w b q B0 G X exp d6 dims u ys wr) (u0 u1 u2 : Value) {A : Option Addr} {c : Nat} {A' : Option Addr} {c' : Nat} (hd : d6 = .slice A dims.length c) (hu : u = .slice A' ys.length c')
    (db : Hid (∀ x ∈ dims, -9223372036854775808 ≤ x ∧ x ≤ 9223372036854775807)) (xb : Hid (∀ x ∈ ys, -128 ≤ x ∧ x ≤ 127)) (e0 : -9223372036854775808 ≤ exp) (e1 : exp ≤ 9223372036854775807) :
    FormO w dims exp ys 0 (.returned (.tuple #[.agg #[.slice A dims.length c, .int .i64 exp, .slice A' ys.length c'], .int .i64 0])) (((wr.setCell ⟨b + 2, 0, none⟩ u0).setCell ⟨b + 2, 1, none⟩ u1).setCell ⟨b + 2, 2, none⟩ u2) := by
  subst hd hu
  have hoff := off_set3 wr (b + 2) u0 u1 u2
  have hb := h.wb
  have q0 := h.q0
  have q1 := h.q1
  have g6 := own_off h.dim hoff (fun k hk he => by have := (h.dim.lt k hk).1; omega)
  have g7 := own_off h.own hoff (fun k hk he => by have := h.ulow hk; omega)
  refine ⟨_, _, _, _, rfl, ⟨Reads.of_own g6, Reads.of_own g7, db, xb, e0, e1⟩, ?_, own_lower g6 (by omega), own_lower g7 (by omega)⟩
  rw [hb]
  exact h.bel.trans (hoff.below (by have := h.sz; omega) (fun i hi => by omega))
end
set_option maxHeartbeats 8000000 in
set_option maxRecDepth 100000 in
theorem rback_any (gd : List Int) (ge : Int) (gx xd : List Int) (xe : Int) (xx : List Int) (gv gw xv xw : Value) (w : World) (B : Nat) (hB : B ≤ w.heap.size) (h : IsT w B gv gw gd ge gx) (h' : IsT w B xv xw xd xe xx) (D : List Int) (E : Int) (X : List Int) (err : Int)
    (hD : (if backErr gd ge gx xd xe xx = 0 then gd else []) = D) (hE : (if backErr gd ge gx xd xe xx = 0 then ge else 0) = E) (hX : (if backErr gd ge gx xd xe xx = 0 then slopeI gx xx else []) = X) (he : backErr gd ge gx xd xe xx = err) :
    Calls Try.prog 24 #[.agg #[gv, .int .i64 ge, gw], .agg #[xv, .int .i64 xe, xw]] w (FormO w D E X err) := by
  obtain ⟨A, c, rfl, _, _⟩ := h.d.form
  obtain ⟨A', c', rfl, _, _⟩ := h.x.form
  obtain ⟨A2, c2, rfl, _, _⟩ := h'.d.form
  obtain ⟨A2', c2', rfl, _, _⟩ := h'.x.form
  simp only [length_ints] at *
  have hb0 := three_alloc0 w (.cells #[.slice A gd.length c, .int .i64 ge, .slice A' gx.length c'] 25) (.cells #[.slice A2 xd.length c2, .int .i64 xe, .slice A2' xx.length c2'] 25) (.cells #[.slice none 0 0, .int .i64 0, .slice none 0 0] 25)
  have TG := Lib.hid (h.below (hb0.mono hB))
  have TX := Lib.hid (h'.below (hb0.mono hB))
  have BB := Lib.hid hb0
  have KG := Lib.hid (((Blk.fresh w 25 [.slice A gd.length c, .int .i64 ge, .slice A' gx.length c']).alloc (.cells #[.slice A2 xd.length c2, .int .i64 xe, .slice A2' xx.length c2'] 25)).alloc (.cells #[.slice none 0 0, .int .i64 0, .slice none 0 0] 25))
  have kx := (Blk.fresh (w.alloc (.cells #[.slice A gd.length c, .int .i64 ge, .slice A' gx.length c'] 25)) 25 [.slice A2 xd.length c2, .int .i64 xe, .slice A2' xx.length c2']).alloc (.cells #[.slice none 0 0, .int .i64 0, .slice none 0 0] 25)
  have kr := Blk.fresh ((w.alloc (.cells #[.slice A gd.length c, .int .i64 ge, .slice A' gx.length c'] 25)).alloc (.cells #[.slice A2 xd.length c2, .int .i64 xe, .slice A2' xx.length c2'] 25)) 25 [.slice none 0 0, .int .i64 0, .slice none 0 0]
  simp only [World.size_alloc] at kx kr
  have KX := Lib.hid kx
  have KR := Lib.hid kr
  have HDE := Lib.hid hD
  have HEE := Lib.hid hE
  have HXE := Lib.hid hX
  have HER := Lib.hid he
  have TG0 := Lib.hid h
  have TX0 := Lib.hid h'
  clear hb0 h h' kx kr hD hE hX he
  obtain ⟨mg, hmg⟩ : ∃ m, mayB gd ge gx = m := ⟨_, rfl⟩
  obtain ⟨mx, hmx⟩ : ∃ m, mayB xd xe xx = m := ⟨_, rfl⟩
  have HMG := Lib.hid hmg
  have HMX := Lib.hid hmx
  go_enter Try.func24, Try.ntmps24
  go_wp2_with fail
  have hsz1 : (((w.alloc (.cells #[.slice A gd.length c, .int .i64 ge, .slice A' gx.length c'] 25)).alloc (.cells #[.slice A2 xd.length c2, .int .i64 xe, .slice A2' xx.length c2'] 25)).alloc (.cells #[.slice none 0 0, .int .i64 0, .slice none 0 0] 25)).heap.size = w.heap.size + 1 + 1 + 1 := by simp only [World.size_alloc]
  generalize (((w.alloc (.cells #[.slice A gd.length c, .int .i64 ge, .slice A' gx.length c'] 25)).alloc (.cells #[.slice A2 xd.length c2, .int .i64 xe, .slice A2' xx.length c2'] 25)).alloc (.cells #[.slice none 0 0, .int .i64 0, .slice none 0 0] 25)) = w1 at TG TX BB KG KX KR hsz1 ⊢
  have hsb := BB.out.size
  have hal : Below w1.heap.size w1 (w1.alloc (.cells #[.slice A gd.length c, .int .i64 ge, .slice A' gx.length c', .slice A2 xd.length c2, .int .i64 xe, .slice A2' xx.length c2'] 25)) := (Below.refl _ _).alloc (Nat.le_refl _) _
  have hM := may2t_any gd ge gx xd xe xx _ _ _ _ (w1.alloc (.cells #[.slice A gd.length c, .int .i64 ge, .slice A' gx.length c', .slice A2 xd.length c2, .int .i64 xe, .slice A2' xx.length c2'] 25)) B (w.heap.size + 1 + 1 + 1) (by simp; omega) (TG.out.below (hal.mono (by omega))) (TX.out.below (hal.mono (by omega))) (hsz1 ▸ Blk.fresh w1 25 [.slice A gd.length c, .int .i64 ge, .slice A' gx.length c', .slice A2 xd.length c2, .int .i64 xe, .slice A2' xx.length c2'])
  rw [hmg, hmx] at hM
  clear hmg hmx
  refine hM.mono ?_
  rintro e w4 ⟨rfl, hb4'⟩
  have hb4 := hal.trans (hb4'.mono (by simp))
  have hs4 := hb4.size
  have TG := Lib.hid (TG.out.below (hb4.mono (by omega)))
  have TX := Lib.hid (TX.out.below (hb4.mono (by omega)))
  have BB := Lib.hid (BB.out.trans (hb4.mono (by omega)))
  have KG := Lib.hid (KG.out.below hb4 KG.out.lt)
  have KX := Lib.hid (KX.out.below hb4 KX.out.lt)
  have KR := Lib.hid (KR.out.below hb4 KR.out.lt)
  clear hM hb4 hb4' hal hsz1
  obtain ⟨b, hb⟩ : ∃ b, w.heap.size = b := ⟨_, rfl⟩
  simp only [hb, Nat.add_assoc, Nat.reduceAdd] at KG KX KR ⊢
  have HBE := Lib.hid hb
  clear hb
  have s0 : w4.cell? ⟨b + 1, 0, none⟩ = some (.slice A2 xd.length c2) := KX.out.cell 0
  have t0 : w4.cell? ⟨b, 0, none⟩ = some (.slice A gd.length c) := KG.out.cell 0
  have t1 : w4.cell? ⟨b, 1, none⟩ = some (.int .i64 ge) := KG.out.cell 1
  have r0 : w4.cell? ⟨b + 2, 0, none⟩ = some (.slice none 0 0) := KR.out.cell 0
  have r1 : w4.cell? ⟨b + 2, 1, none⟩ = some (.int .i64 0) := KR.out.cell 1
  have r2 : w4.cell? ⟨b + 2, 2, none⟩ = some (.slice none 0 0) := KR.out.cell 2
  have f0 := KR.out.free 0
  have f1 := KR.out.free 1
  have f2 := KR.out.free 2
  by_cases hmm : mg = true ∧ mx = true
  · obtain ⟨rfl, rfl⟩ := hmm
    go_wp2_with fail
    obtain ⟨sm, hsm⟩ : ∃ m, (gd == xd) = m := ⟨_, rfl⟩
    have hS := sameints_any gd xd _ _ w4 _ _ TG.out.d TX.out.d
    rw [hsm] at hS
    have HSM := Lib.hid hsm
    clear hsm
    refine hS.mono ?_
    rintro e w5 hq
    obtain ⟨rfl, m, rfl⟩ := hq
    clear hS
    have s0 : (w4.drewN m).cell? ⟨b + 1, 0, none⟩ = some (.slice A2 xd.length c2) := s0
    have t0 : (w4.drewN m).cell? ⟨b, 0, none⟩ = some (.slice A gd.length c) := t0
    have t1 : (w4.drewN m).cell? ⟨b, 1, none⟩ = some (.int .i64 ge) := t1
    have r0 : (w4.drewN m).cell? ⟨b + 2, 0, none⟩ = some (.slice none 0 0) := r0
    have r1 : (w4.drewN m).cell? ⟨b + 2, 1, none⟩ = some (.int .i64 0) := r1
    have r2 : (w4.drewN m).cell? ⟨b + 2, 2, none⟩ = some (.slice none 0 0) := r2
    have f0 : (w4.drewN m).frozen? ⟨b + 2, 0, none⟩ = false := f0
    have f1 : (w4.drewN m).frozen? ⟨b + 2, 1, none⟩ = false := f1
    have f2 : (w4.drewN m).frozen? ⟨b + 2, 2, none⟩ = false := f2
    have TG : Hid (IsT (w4.drewN m) B _ _ _ _ _) := Lib.hid (TG.out.below (below_drewN (Below.refl _ _) _))
    have TX : Hid (IsT (w4.drewN m) B _ _ _ _ _) := Lib.hid (TX.out.below (below_drewN (Below.refl _ _) _))
    have BB := Lib.hid (below_drewN BB.out m)
    have KG := Lib.hid (KG.out.drewN m)
    have KX := Lib.hid (KX.out.drewN m)
    have KR := Lib.hid (KR.out.drewN m)
    have hs5 : w4.heap.size = (w4.drewN m).heap.size := rfl
    generalize w4.drewN m = w6 at *
    cases sm with
    | false =>
      have hne : backErr gd ge gx xd xe xx = 2 := by unfold backErr; rw [if_pos ⟨HMG.out, HMX.out⟩, if_neg (by have := HSM.out; simpa using this)]
      have HNE := Lib.hid hne
      clear hne
      go_wp2
      refine bodyPost_ret (v := .tuple #[.agg #[.slice none 0 0, .int .i64 0, .slice none 0 0], .int .i64 2]) (by simp [results, Try.results24, go_sem, r0, r1, r2]) rfl ?_
      exact back_noO 2 BB.out HBE.out KR.out.lt (by rw [← HDE.out, HNE.out]; rfl) (by rw [← HEE.out, HNE.out]; rfl) (by rw [← HXE.out, HNE.out]; rfl) (by rw [← HER.out, HNE.out]) _ _ _

    | true =>
      have hdd : gd = xd := by have := HSM.out; simpa using this
      have hne : backErr gd ge gx xd xe xx = 0 := by unfold backErr; rw [if_pos ⟨HMG.out, HMX.out⟩, if_pos hdd]
      have hlen : gx.length = xx.length := by
        have h1 := may_len HMG.out
        have h2 := may_len HMX.out
        rw [hdd] at h1
        omega
      have hl1 := may_len HMG.out
      have hl2 := sizeI_bound gd
      have hl3 := may_dims HMG.out
      have ld : gd.length * 8 ≤ 140737488355328 := by omega
      have hgl : gx.length ≤ 8192 := by omega
      have hgd4 : gd.length ≤ 4 := hl3
      have HLEN := Lib.hid hlen
      have HNE := Lib.hid hne
      clear hdd hne hl1 hl2 hl3 hlen s0 r0 r1 r2 f0 f1 f2
      have hBW : B ≤ w6.heap.size := by omega
      have hn0 : ¬ b = w6.heap.size := by have := KG.out.lt; omega
      have dd0 : w6.drew.cell? ⟨b, 0, none⟩ = some (.slice A gd.length c) := t0
      have dd1 : w6.drew.cell? ⟨b, 1, none⟩ = some (.int .i64 ge) := t1
      have ee0 : (w6.alloc (.cells #[.slice none 0 0, .int .i64 0, .slice none 0 0] 25)).drew.cell? ⟨b, 0, none⟩ = some (.slice A gd.length c) := (KG.out.alloc _).cell 0
      have ee1 : (w6.alloc (.cells #[.slice none 0 0, .int .i64 0, .slice none 0 0] 25)).drew.cell? ⟨b, 1, none⟩ = some (.int .i64 ge) := (KG.out.alloc _).cell 1
      have HS3 : Hid (b + 3 ≤ w6.heap.size) := Lib.hid (by have := KR.out.lt; omega)
      have HMB := Lib.hid (Blk.freshA w6 25 #[.slice none 0 0, .int .i64 0, .slice none 0 0])
      have hds : w6.heap.size ≤ w6.drew.heap.size := Nat.le_refl _
      have hes : w6.heap.size ≤ ((w6.alloc (.cells #[.slice none 0 0, .int .i64 0, .slice none 0 0] 25)).drew).heap.size := by show w6.heap.size ≤ (w6.alloc (.cells #[.slice none 0 0, .int .i64 0, .slice none 0 0] 25)).heap.size; simp
      have HBW := Lib.hid hBW
      clear hs4 hs5 hsb
      go_upto_region 5 with fail
      go_cut [6] (fun s wx => ∃ (q B0 : Nat) (A6 : Option Addr) (c6 : Nat), s = .pointer (some ⟨q, 0, none⟩) ∧ BakI w b q B0 [.slice A gd.length c, .int .i64 ge, .slice A' gx.length c'] [.slice A2 xd.length c2, .int .i64 xe, .slice A2' xx.length c2'] ge (.slice A6 gd.length c6) gd (.slice none 0 0) [] wx)
      case first =>
        refine wp_region_held_drew (S := (fun w' => w'.cell? ⟨b, 0, none⟩ = some (.slice A gd.length c) ∧ w'.cell? ⟨b, 1, none⟩ = some (.int .i64 ge))) (by kernel_rfl) ⟨dd0, dd1⟩ (fun hHeld => ?_)
        refine' wpAnyH_take (i := 0) (v := _) rfl (by kernel_rfl) (by kernel_rfl) (by kernel_rfl) (fun _ _ _ h => h) (Or.inl ⟨by rfl, ?tc0⟩) (by assumption) ?td0
        case tc0 =>
          intro wS hSw
          (try dsimp only at hSw)
          go_simp
          (try (with_reducible rfl))
        (try simp only [List.getElem_toArray, List.getElem_cons_zero, Act.put, List.setIfInBounds_toArray, List.set_cons_zero, List.set_cons_succ])
        refine' wpAnyH_take (i := 1) (v := _) rfl (by kernel_rfl) (by kernel_rfl) (by kernel_rfl) (fun _ _ _ h => h) (Or.inl ⟨by rfl, ?tc1⟩) (by assumption) ?td1
        case tc1 =>
          intro wS hSw
          (try dsimp only at hSw)
          go_simp
          (try (with_reducible rfl))
        (try simp only [List.getElem_toArray, List.getElem_cons_zero, List.getElem_cons_succ, Act.put, List.setIfInBounds_toArray, List.set_cons_zero, List.set_cons_succ])
        refine' wpAnyH_take (i := 3) (v := _) rfl (by kernel_rfl) (by kernel_rfl) (by kernel_rfl) (fun _ _ _ h => h) (Or.inl ⟨by rfl, ?tc3⟩) (by assumption) ?td3
        case tc3 =>
          intro wS hSw
          (try dsimp only at hSw)
          go_simp
          (try (with_reducible rfl))
        (try simp only [List.getElem_toArray, List.getElem_cons_zero, List.getElem_cons_succ, Act.put, List.setIfInBounds_toArray, List.set_cons_zero, List.set_cons_succ])
        refine' wpAnyH_take (i := 4) (v := _) rfl (by kernel_rfl) (by kernel_rfl) (by kernel_rfl) (fun _ _ _ h => h) (Or.inl ⟨by rfl, ?tc4⟩) (by assumption) ?td4
        case tc4 =>
          intro wS hSw
          (try dsimp only at hSw)
          go_simp
          (try (with_reducible rfl))
        (try simp only [List.getElem_toArray, List.getElem_cons_zero, List.getElem_cons_succ, Act.put, List.setIfInBounds_toArray, List.set_cons_zero, List.set_cons_succ])
        refine wpAnyH_ready (rs := [2, 6]) (by kernel_rfl) (by simp) ?_
        refine AllReadyH.cons rfl (fun K9 hK9 => ?_) (AllReadyH.cons rfl (fun K9 hK9 => ?_) AllReadyH.nil)
        · (try simp only [List.getElem_toArray, List.getElem_cons_zero, List.getElem_cons_succ])
          rw [if_pos (by rfl)]
          refine wp_extend elem_int w6.drew _ _ (by rfl) w6.heap.size 0 (.slice none 0 0) [] (by rfl) (World.ownsRow_nil _ _ _ _) B _ (ints .i64 gd) (by rfl) TG.out.d.drew (ints_one _ _) (by rw [length_ints]; unfold maxLen; omega) (by rw [length_ints]; omega) hds ?_
          intro A6 c6 w7 hown6 hgrow hfr
          have hb6 := (Below.refl (w6.drew).heap.size (w6.drew)).grown hgrow (Nat.le_refl _) (fun k hk => by cases hk)
          rw [Nat.zero_add, List.nil_append, length_ints] at hown6
          have hown6 := hown6
          have k5 := KG.out.drew.below hb6 KG.out.drew.lt
          have k6 := KX.out.drew.below hb6 KX.out.drew.lt
          have c51 : w7.cell? ⟨b, 1, none⟩ = some (.int .i64 ge) := k5.cell 1
          have c50 : w7.cell? ⟨b, 0, none⟩ = some (.slice A gd.length c) := k5.cell 0
          have HKG := Lib.hid k5
          have HKX := Lib.hid k6
          clear k5 k6 hgrow hfr
          have HO6 := Lib.hid hown6
          have HW6 := Lib.hid hb6
          clear hown6 hb6
          rw [Nat.zero_add, length_ints]
          refine hK9.out _ _ ⟨c50, c51⟩ (fun hHeld9 => ?_)
          clear hK9 K9
          (try simp only [Act.put, List.setIfInBounds_toArray, List.set_cons_zero, List.set_cons_succ])
          refine' wpAnyH_take (i := 5) (v := _) rfl (by kernel_rfl) (by kernel_rfl) (by kernel_rfl) (fun _ _ _ h => h) (Or.inl ⟨by rfl, ?tca⟩) (by assumption) ?tda
          case tca =>
            intro wS hSw
            (try dsimp only at hSw)
            go_simp
            (try (with_reducible rfl))
          (try simp only [List.getElem_toArray, List.getElem_cons_zero, List.getElem_cons_succ, Act.put, List.setIfInBounds_toArray, List.set_cons_zero, List.set_cons_succ])
          refine wpAnyH_ready (rs := [6]) (by kernel_rfl) (by simp) ?_
          refine AllReadyH.cons rfl (fun K9 hK9 => ?_) AllReadyH.nil
          (try simp only [List.getElem_toArray, List.getElem_cons_zero, List.getElem_cons_succ])
          go_simp
          refine hK9.out _ _ ⟨(HKG.out.alloc _).cell 0, (HKG.out.alloc _).cell 1⟩ (fun hHeld9 => ?_)
          clear hK9 K9
          (try simp only [List.getElem_toArray, List.getElem_cons_zero, List.getElem_cons_succ, Act.put, List.setIfInBounds_toArray, List.set_cons_zero, List.set_cons_succ])
          refine wpAnyH_ready (rs := [7]) (by kernel_rfl) (by simp) ?_
          refine AllReadyH.cons rfl (fun K9 hK9 => ?_) AllReadyH.nil
          (try simp only [List.getElem_toArray, List.getElem_cons_zero, List.getElem_cons_succ])
          go_simp
          refine hK9.out _ _ ⟨(HKG.out.alloc _).cell 0, (HKG.out.alloc _).cell 1⟩ (fun hHeld9 => ?_)
          clear hK9 K9
          (try simp only [List.getElem_toArray, List.getElem_cons_zero, List.getElem_cons_succ, Act.put, List.setIfInBounds_toArray, List.set_cons_zero, List.set_cons_succ])
          refine wpAnyH_done (by kernel_rfl) ?_ _
          go_wp2_with fail
          go_meet
          exact ⟨_, _, _, _, rfl, BakI.start1 (exp := ge) HBE.out HS3.out KR.out (by rw [← HBE.out]; exact BB.out) HKG.out HKX.out HO6.out HW6.out⟩
        · (try simp only [List.getElem_toArray, List.getElem_cons_zero, List.getElem_cons_succ])
          go_simp
          refine hK9.out _ _ ⟨ee0, ee1⟩ (fun hHeld9 => ?_)
          clear hK9 K9
          (try simp only [List.getElem_toArray, List.getElem_cons_zero, List.getElem_cons_succ, Act.put, List.setIfInBounds_toArray, List.set_cons_zero, List.set_cons_succ])
          refine wpAnyH_ready (rs := [2]) (by kernel_rfl) (by simp) ?_
          refine AllReadyH.cons rfl (fun K9 hK9 => ?_) AllReadyH.nil
          (try simp only [List.getElem_toArray, List.getElem_cons_zero, List.getElem_cons_succ])
          rw [if_pos (by rfl)]
          refine wp_extend elem_int ((w6.alloc (.cells #[.slice none 0 0, .int .i64 0, .slice none 0 0] 25)).drew) _ _ (by rfl) ((w6.alloc (.cells #[.slice none 0 0, .int .i64 0, .slice none 0 0] 25)).drew).heap.size 0 (.slice none 0 0) [] (by rfl) (World.ownsRow_nil _ _ _ _) B _ (ints .i64 gd) (by rfl) ((TG.out.d.alloc (B := B) HBW.out _).drew) (ints_one _ _) (by rw [length_ints]; unfold maxLen; omega) (by rw [length_ints]; omega) (Nat.le_refl _) ?_
          intro A6 c6 w7 hown6 hgrow hfr
          have hb6 := (Below.refl (((w6.alloc (.cells #[.slice none 0 0, .int .i64 0, .slice none 0 0] 25)).drew)).heap.size (((w6.alloc (.cells #[.slice none 0 0, .int .i64 0, .slice none 0 0] 25)).drew))).grown hgrow (Nat.le_refl _) (fun k hk => by cases hk)
          rw [Nat.zero_add, List.nil_append, length_ints] at hown6
          have hown6 := hown6
          have k5 := (KG.out.alloc _).drew.below hb6 (KG.out.alloc _).drew.lt
          have k6 := (KX.out.alloc _).drew.below hb6 (KX.out.alloc _).drew.lt
          have c51 : w7.cell? ⟨b, 1, none⟩ = some (.int .i64 ge) := k5.cell 1
          have c50 : w7.cell? ⟨b, 0, none⟩ = some (.slice A gd.length c) := k5.cell 0
          have m5 := HMB.out.drew.below hb6 HMB.out.lt
          have z0 := m5.cell 0
          have z1 := m5.cell 1
          have z2 := m5.cell 2
          have y0 := m5.free 0
          have y1 := m5.free 1
          have y2 := m5.free 2
          have HM := Lib.hid m5
          clear m5
          have cc0 := Lib.hid (fun (u0 u1 u2 : Value) => ((off_set3 w7 w6.heap.size u0 u1 u2).cell (p := ⟨b, 0, none⟩) k5.lt hn0).trans c50)
          have cc1 := Lib.hid (fun (u0 u1 u2 : Value) => ((off_set3 w7 w6.heap.size u0 u1 u2).cell (p := ⟨b, 1, none⟩) k5.lt hn0).trans c51)
          have HKG := Lib.hid k5
          have HKX := Lib.hid k6
          clear k5 k6 hgrow hfr
          have HO6 := Lib.hid hown6
          have HW6 := Lib.hid hb6
          clear hown6 hb6
          rw [Nat.zero_add, length_ints]
          refine hK9.out _ _ ⟨c50, c51⟩ (fun hHeld9 => ?_)
          clear hK9 K9
          (try simp only [Act.put, List.setIfInBounds_toArray, List.set_cons_zero, List.set_cons_succ])
          refine' wpAnyH_take (i := 5) (v := _) rfl (by kernel_rfl) (by kernel_rfl) (by kernel_rfl) (fun _ _ _ h => h) (Or.inl ⟨by rfl, ?tcb⟩) (by assumption) ?tdb
          case tcb =>
            intro wS hSw
            (try dsimp only at hSw)
            go_simp
            (try (with_reducible rfl))
          (try simp only [List.getElem_toArray, List.getElem_cons_zero, List.getElem_cons_succ, Act.put, List.setIfInBounds_toArray, List.set_cons_zero, List.set_cons_succ])
          refine wpAnyH_ready (rs := [7]) (by kernel_rfl) (by simp) ?_
          refine AllReadyH.cons rfl (fun K9 hK9 => ?_) AllReadyH.nil
          (try simp only [List.getElem_toArray, List.getElem_cons_zero, List.getElem_cons_succ])
          go_simp
          refine hK9.out _ _ ⟨cc0.out _ _ _, cc1.out _ _ _⟩ (fun hHeld9 => ?_)
          clear hK9 K9
          (try simp only [List.getElem_toArray, List.getElem_cons_zero, List.getElem_cons_succ, Act.put, List.setIfInBounds_toArray, List.set_cons_zero, List.set_cons_succ])
          refine wpAnyH_done (by kernel_rfl) ?_ _
          go_wp2_with fail
          go_meet
          exact ⟨_, _, _, _, rfl, BakI.start2 (exp := ge) _ HBE.out HS3.out KR.out (by rw [← HBE.out]; exact BB.out) HKG.out HKX.out HM.out (own_lower (base := ((w6.alloc (.cells #[.slice none 0 0, .int .i64 0, .slice none 0 0] 25)).drew).heap.size) HO6.out (Nat.le_refl _)) HW6.out⟩
      case rest =>
        obtain ⟨q, B0, A6, c6, rfl, hst⟩ := hcut
        have b2 : wc.cell? ⟨b, 2, none⟩ = some (.slice A' gx.length c') := hst.box.cell 2
        have HST := Lib.hid hst
        clear hst dd0 dd1 ee0 ee1 t0 t1 hn0 TG TX BB KG KX KR HS3 HMB HBW hds hes
        obtain ⟨ys, hys⟩ : ∃ ys, slopeI gx xx = ys := ⟨_, rfl⟩
        have hyl : ys.length = gx.length := by rw [← hys]; exact slope_length gx xx HLEN.out
        have HYS := Lib.hid hys
        have HYL := Lib.hid hyl
        clear hys hyl
        go_wp2_with fail
        go_loopw [31] (fun i wr => ∃ (k : Nat) (u : Value), k ≤ gx.length ∧ i = .int .i64 k ∧ BakI w b q B0 [.slice A gd.length c, .int .i64 ge, .slice A' gx.length c'] [.slice A2 xd.length c2, .int .i64 xe, .slice A2' xx.length c2'] ge (.slice A6 gd.length c6) gd u (ys.take k) wr) (fun i _ => gx.length - (intOf i).toNat)
        case atStart => exact ⟨0, _, by omega, rfl, by simpa using HST.out⟩
        case round =>
          obtain ⟨k, u, hk, rfl, hwr⟩ := hrel
          by_cases hlt : k < gx.length
          · have hlen := HLEN.out
            obtain ⟨x1, hx1⟩ : ∃ x1, gx[k]? = some x1 := ⟨gx[k], List.getElem?_eq_getElem (by omega)⟩
            obtain ⟨y1, hy1⟩ : ∃ y1, xx[k]? = some y1 := ⟨xx[k]'(by omega), List.getElem?_eq_getElem (by omega)⟩
            have hyk := slope_at gx xx k x1 y1 hx1 hy1
            rw [HYS.out] at hyk
            have hnx : ys.take (k + 1) = ys.take k ++ [if 0 < y1 then x1 else 0] := by rw [List.take_add_one, hyk]; rfl
            have hlen1 : (ys.take k).length + 1 ≤ 8192 := by rw [List.length_take]; have := HYL.out; omega
            have hxr := (TG0.out.below (hwr.bel.mono (by have := HBE.out; omega))).x
            have hyr := (TX0.out.below (hwr.bel.mono (by have := HBE.out; omega))).x
            obtain ⟨AA, n1, c9a, hva, hn, hcc, hmm, ha⟩ := hxr
            injection hva with q1 q2 q3
            subst q1 q2 q3
            obtain ⟨AA', n1', c9b, hva', hn', hcc', hmm', ha'⟩ := hyr
            injection hva' with q1 q2 q3
            subst q1 q2 q3
            obtain ⟨g, o, rfl, hg, hx⟩ := ha.out (by omega)
            obtain ⟨g', o', rfl, hg', hy⟩ := ha'.out (by omega)
            have z1 := hx k (.int .i8 x1) (by rw [ints, List.getElem?_map, hx1]; rfl)
            have z2 := hy k (.int .i8 y1) (by rw [ints, List.getElem?_map, hy1]; rfl)
            have i1 : (0 : Int) ≤ (k : Int) := by omega
            have i2 : (k : Int) < (gx.length : Int) := by omega
            have i2' : (k : Int) < (xx.length : Int) := by omega
            have i3 : (k : Int) ≤ 9223372036854775806 := by omega
            have c4 : wr.cell? ⟨b + 1, 2, none⟩ = some (.slice (some ⟨g', o', none⟩) xx.length c2') := hwr.box2.cell 2
            generalize ys.take k = zs at hnx hwr hlen1
            have c6' : wr.cell? ⟨q, 2, none⟩ = some u := hwr.out.cell 2
            have hf := hwr.out.free 2
            have hne : some q ≠ u.ownBlock := fun he => by have := hwr.ulow he.symm; have := hwr.q1; omega
            have HWR := Lib.hid hwr
            have hB2 : B0 ≤ wr.heap.size := hwr.sz
            have hqs := hwr.out.lt
            by_cases hv : 0 < y1
            · rw [if_pos hv] at hnx
              have g1 : decide (y1 ≤ 0) = false := by simp; omega
              have HNX := Lib.hid hnx
              clear hnx hyk hwr hlen hx1 hy1 hx hy ha ha' hg hg' hcc hcc' hmm hmm' hn hn' b2 HST hv
              go_wp2_with (at_builtin; refine wpList_extend elem_i8 _ rfl (.tmp 43) (.tmp 45) rfl B0 _ u _ rfl (HWR.out.own.alloc _) _ _ [_] rfl (Reads.one_ wr _ _) (by simp [Value.oneCell']) (by simp only [List.length_cons, List.length_nil, maxLen]; omega) (by simp only [List.length_cons, List.length_nil]; omega) (by simp; omega) ?_; intro A9 c9 w1 hown hgrow hfr'; have hbk := (HWR.out.out.alloc _).grown hgrow hne; have hc1 : w1.cell? ⟨q, 2, none⟩ = some u := hbk.cell 2; have hf1 := hbk.free 2)
              have hl2 := HWR.out.next hgrow hown
              rw [← HNX.out] at hl2
              go_roundw
              case rel => exact ⟨k + 1, _, by omega, by go_num, hl2⟩
              case measure => simp [intOf]; omega
            · rw [if_neg hv] at hnx
              have g1 : decide (y1 ≤ 0) = true := by simp; omega
              have HNX := Lib.hid hnx
              clear hnx hyk hwr hlen hx1 hy1 hx hy ha ha' hg hg' hcc hcc' hmm hmm' hn hn' b2 HST hv
              go_wp2_with (at_builtin; refine wpList_extend elem_i8 _ rfl (.tmp 43) (.tmp 45) rfl B0 _ u _ rfl (HWR.out.own.alloc _) _ _ [_] rfl (Reads.one_ wr _ _) (by simp [Value.oneCell']) (by simp only [List.length_cons, List.length_nil, maxLen]; omega) (by simp only [List.length_cons, List.length_nil]; omega) (by simp; omega) ?_; intro A9 c9 w1 hown hgrow hfr'; have hbk := (HWR.out.out.alloc _).grown hgrow hne; have hc1 : w1.cell? ⟨q, 2, none⟩ = some u := hbk.cell 2; have hf1 := hbk.free 2)
              have hl2 := HWR.out.next hgrow hown
              rw [← HNX.out] at hl2
              go_roundw
              case rel => exact ⟨k + 1, _, by omega, by go_num, hl2⟩
              case measure => simp [intOf]; omega
          · obtain rfl : k = gx.length := by omega
            rw [List.take_of_length_le (by have := HYL.out; omega)] at hwr
            obtain ⟨Au, cu, rfl⟩ := own_form hwr.own
            have h0 : wr.cell? ⟨q, 0, none⟩ = some (.slice A6 gd.length c6) := hwr.out.cell 0
            have h1 : wr.cell? ⟨q, 1, none⟩ = some (.int .i64 ge) := hwr.out.cell 1
            have h2 : wr.cell? ⟨q, 2, none⟩ = some (.slice Au ys.length cu) := hwr.out.cell 2
            have z0 : wr.cell? ⟨b + 2, 0, none⟩ = some (.slice none 0 0) := hwr.res.cell 0
            have z1 : wr.cell? ⟨b + 2, 1, none⟩ = some (.int .i64 0) := hwr.res.cell 1
            have z2 : wr.cell? ⟨b + 2, 2, none⟩ = some (.slice none 0 0) := hwr.res.cell 2
            have y0 := hwr.res.free 0
            have y1 := hwr.res.free 1
            have y2 := hwr.res.free 2
            have HWR := Lib.hid hwr
            clear hwr b2 HST
            go_wp2
            refine bodyPost_ret (v := .tuple #[.agg #[.slice A6 gd.length c6, .int .i64 ge, .slice Au ys.length cu], .int .i64 0]) (by simp [results, Try.results24, go_sem, z0, z1, z2]) rfl ?_
            have e1 : gd = D := by have := HDE.out; rwa [if_pos HNE.out] at this
            have e2 : ge = E := by have := HEE.out; rwa [if_pos HNE.out] at this
            have e3 : ys = X := by have := HXE.out; rw [if_pos HNE.out] at this; rw [← HYS.out]; exact this
            have e4 : err = 0 := by rw [← HER.out]; exact HNE.out
            rw [← e1, ← e2, ← e3, e4]
            exact HWR.out.fin _ _ _ rfl rfl TG0.out.db (Lib.hid (fun y hy => by
              rw [← HYS.out] at hy
              rcases slope_mem gx xx y hy with h | h
              · omega
              · exact TG0.out.xb.out y h)) TG0.out.e0 TG0.out.e1
  · have hne : backErr gd ge gx xd xe xx = 1 := by unfold backErr; rw [if_neg (fun h => hmm ⟨HMG.out.symm.trans h.1, HMX.out.symm.trans h.2⟩)]
    have HNE := Lib.hid hne
    have hmf : (mg && mx) = false := by rw [Bool.eq_false_iff]; intro h; rw [Bool.and_eq_true] at h; exact hmm h
    rw [hmf]
    clear hne hmm hmf
    go_wp2
    refine bodyPost_ret (v := .tuple #[.agg #[.slice none 0 0, .int .i64 0, .slice none 0 0], .int .i64 1]) (by simp [results, Try.results24, go_sem, r0, r1, r2]) rfl ?_
    exact back_noO 2 BB.out HBE.out KR.out.lt (by rw [← HDE.out, HNE.out]; rfl) (by rw [← HEE.out, HNE.out]; rfl) (by rw [← HXE.out, HNE.out]; rfl) (by rw [← HER.out, HNE.out]) _ _ _


set_option maxHeartbeats 1600000 in
set_option maxRecDepth 100000 in
theorem rrelu_any (xd : List Int) (xe : Int) (xx : List Int) (xv xw : Value) (w : World) (B : Nat) (hB : B ≤ w.heap.size) (h : IsT w B xv xw xd xe xx) (D : List Int) (E : Int) (X : List Int) (err : Int)
    (hD : relD xd xe xx = D) (hE : relE xd xe xx = E) (hX : relX xd xe xx (reluI xx) = X) (he : relErr xd xe xx = err) :
    Calls Try.prog 23 #[.agg #[xv, .int .i64 xe, xw]] w (FormO w D E X err) := by
  obtain ⟨A, c, rfl, _, _⟩ := h.d.form
  obtain ⟨A', c', rfl, _, _⟩ := h.x.form
  simp only [length_ints] at *
  have hb0 := two_alloc0 w (.cells #[.slice A xd.length c, .int .i64 xe, .slice A' xx.length c'] 25) (.cells #[.slice none 0 0, .int .i64 0, .slice none 0 0] 25)
  have TX := Lib.hid (h.below (hb0.mono hB))
  have BB := Lib.hid hb0
  have KX := Lib.hid ((Blk.fresh w 25 [.slice A xd.length c, .int .i64 xe, .slice A' xx.length c']).alloc (.cells #[.slice none 0 0, .int .i64 0, .slice none 0 0] 25))
  have kr := Blk.fresh (w.alloc (.cells #[.slice A xd.length c, .int .i64 xe, .slice A' xx.length c'] 25)) 25 [.slice none 0 0, .int .i64 0, .slice none 0 0]
  rw [World.size_alloc] at kr
  have KR := Lib.hid kr
  have hbe : backErr xd xe xx xd xe xx = relErr xd xe xx := by
    unfold backErr relErr
    by_cases hm : mayB xd xe xx = true
    · rw [if_pos ⟨hm, hm⟩, if_pos rfl, if_pos hm]
    · rw [if_neg (fun q => hm q.1), if_neg hm]
  have hrz : relErr xd xe xx = 0 ↔ mayB xd xe xx = true := by
    unfold relErr
    by_cases hm : mayB xd xe xx = true
    · rw [if_pos hm]; simp [hm]
    · rw [if_neg hm]; simp [hm]
  have hC := rback_any xd xe xx xd xe xx _ _ _ _ ((w.alloc (.cells #[.slice A xd.length c, .int .i64 xe, .slice A' xx.length c'] 25)).alloc (.cells #[.slice none 0 0, .int .i64 0, .slice none 0 0] 25)) B (Nat.le_trans hB hb0.size) TX.out TX.out D E X err
    (by rw [hbe, ← hD]; unfold relD; by_cases hm : mayB xd xe xx = true
        · rw [if_pos (hrz.2 hm), if_pos hm]
        · rw [if_neg (fun q => hm (hrz.1 q)), if_neg hm])
    (by rw [hbe, ← hE]; unfold relE; by_cases hm : mayB xd xe xx = true
        · rw [if_pos (hrz.2 hm), if_pos hm]
        · rw [if_neg (fun q => hm (hrz.1 q)), if_neg hm])
    (by rw [hbe, ← hX, slope_self]; unfold relX; by_cases hm : mayB xd xe xx = true
        · rw [if_pos (hrz.2 hm), if_pos hm]
        · rw [if_neg (fun q => hm (hrz.1 q)), if_neg hm])
    (by rw [hbe]; exact he)
  have HC := Lib.hid hC
  clear h hb0 kr hC hbe hrz hD hE hX he
  go_enter Try.func23, Try.ntmps23
  go_wp2_with fail
  refine HC.out.mono ?_
  rintro en w5 ⟨Ad, cd, Ax, cx, rfl, hT5, hb5, o5, o6⟩
  have m5 := KR.out.below hb5 KR.out.lt
  have y0 : w5.cell? ⟨w.heap.size + 1, 0, none⟩ = some (.slice none 0 0) := m5.cell 0
  have y1 : w5.cell? ⟨w.heap.size + 1, 1, none⟩ = some (.int .i64 0) := m5.cell 1
  have y2 : w5.cell? ⟨w.heap.size + 1, 2, none⟩ = some (.slice none 0 0) := m5.cell 2
  have f0 := m5.free 0
  have f1 := m5.free 1
  have f2 := m5.free 2
  have hl := m5.lt
  have HT5 := Lib.hid hT5
  have HB5 := Lib.hid hb5
  have HO5 := Lib.hid o5
  have HO6 := Lib.hid o6
  have hs5 := hb5.size
  have hsw : ((w.alloc (.cells #[.slice A xd.length c, .int .i64 xe, .slice A' xx.length c'] 25)).alloc (.cells #[.slice none 0 0, .int .i64 0, .slice none 0 0] 25)).heap.size = w.heap.size + 2 := by simp
  have HSW := Lib.hid hsw
  clear m5 hT5 hb5 o5 o6 hs5 hsw
  go_wp2
  refine bodyPost_ret (v := .tuple #[.agg #[.slice Ad D.length cd, .int .i64 E, .slice Ax X.length cx], .int .i64 err]) (by simp [results, Try.results23, go_sem, y0, y1, y2]) rfl ?_
  have hsw := HSW.out
  have hoff := off_set3 w5 (w.heap.size + 1) (.slice Ad D.length cd) (.int .i64 E) (.slice Ax X.length cx)
  have i6 := own_off HO5.out hoff (fun k hk he => by have := (HO5.out.lt k hk).1; omega)
  have i7 := own_off HO6.out hoff (fun k hk he => by have := (HO6.out.lt k hk).1; omega)
  exact ⟨Ad, cd, Ax, cx, rfl, ⟨Reads.of_own i6, Reads.of_own i7, HT5.out.db, HT5.out.xb, HT5.out.e0, HT5.out.e1⟩, (BB.out.trans (HB5.out.mono BB.out.size)).trans (hoff.below (by omega) (fun i hi => by omega)), own_lower i6 (by omega), own_lower i7 (by omega)⟩
end Go.Proofs.Ythdahnjghpiheaa
