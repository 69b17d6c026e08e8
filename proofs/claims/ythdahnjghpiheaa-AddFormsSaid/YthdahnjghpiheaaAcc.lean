/- Contract of add.AddAcc. -/
import Derived.Test.YthdahnjghpiheaaSumMay
import Derived.Test.YthdahnjghpiheaaBack2
import Derived.Test.YthdahnjghpiheaaAdd
import Derived.Deep.RegionHeld3
import Derived.Deep.DrawnRows
import Derived.Deep.DeepCutAuto
namespace Go.Proofs.Ythdahnjghpiheaa
open Go.RowKit
set_option linter.unusedVariables false

def sumI : List Int → List Int → List Int
  | x :: xs, y :: ys => (x + y) :: sumI xs ys
  | _, _ => []
theorem sum_length : ∀ xs ys : List Int, xs.length = ys.length → (sumI xs ys).length = xs.length
  | [], [], _ => rfl
  | x :: xs, y :: ys, h => by simp only [sumI, List.length_cons] at h ⊢; rw [sum_length xs ys (by omega)]
theorem sum_at : ∀ (xs ys : List Int) (k : Nat) (u v : Int), xs[k]? = some u → ys[k]? = some v → (sumI xs ys)[k]? = some (u + v)
  | x :: xs, y :: ys, 0, u, v, h1, h2 => by simp at h1 h2; subst h1 h2; rfl
  | x :: xs, y :: ys, k + 1, u, v, h1, h2 => by
    simp only [sumI, List.getElem?_cons_succ] at h1 h2 ⊢
    exact sum_at xs ys k u v h1 h2
theorem inB_of {x : Int} (h : inB x = true) : -16777216 < x ∧ x < 16777216 := by
  unfold inB at h
  simpa using h
theorem mayA_len {d : List Int} {e : Int} {x : List Int} (h : addMay d e x = true) : (x.length : Int) = sizeI d ∧ d.length ≤ 4 ∧ x.all inB = true := by
  unfold addMay mayA at h
  simp only [Bool.and_eq_true, decide_eq_true_eq, beq_iff_eq] at h
  refine ⟨h.1.2.1, ?_, h.2⟩
  have := h.1.1
  unfold sizeI at this
  split at this
  · omega
  · omega
def accErr (gd : List Int) (ge : Int) (gx xd : List Int) (xe : Int) (xx : List Int) : Int :=
  if addMay gd ge gx = true ∧ addMay xd xe xx = true then (if gd = xd then (if ge = xe then (if (sumI gx xx).all inB = true then 0 else 3) else 2) else 2) else 1

structure AccI (w : World) (b q B0 : Nat) (G X : List Value) (exp : Int) (d6 : Value) (dims : List Int) (u : Value) (ys : List Int) (wr : World) : Prop where
  box : Blk wr b 39 G
  box2 : Blk wr (b + 1) 39 X
  res : Blk wr (b + 2) 39 [.slice none 0 0, .int .i64 0, .slice none 0 0]
  out : Blk wr q 39 [d6, .int .i64 exp, u]
  own : wr.ownsRow B0 21 1 u ys.length (ints .i32 ys)
  dim : wr.ownsRow (b + 3) 3 1 d6 dims.length (ints .i64 dims)
  dlt : ∀ k, d6.ownBlock = some k → k < B0 ∧ k ≠ q
  q0 : b + 2 < q
  q1 : q < B0
  sz : B0 ≤ wr.heap.size
  wb : w.heap.size = b
  bel : Below b w wr
section
variable {w wA wr w1 w5 : World} {b q B0 : Nat} {G X : List Value} {exp : Int} {d6 : Value} {dims : List Int} {u : Value} {ys : List Int}
theorem AccI.ulow (h : AccI w b q B0 G X exp d6 dims u ys wr) {k : Nat} (hk : u.ownBlock = some k) : B0 ≤ k := (h.own.lt k hk).1
theorem AccI.drewN (h : AccI w b q B0 G X exp d6 dims u ys wr) (n : Nat) : AccI w b q B0 G X exp d6 dims u ys (wr.drewN n) :=
  ⟨h.box, h.box2, h.res, h.out, h.own, h.dim, h.dlt, h.q0, h.q1, h.sz, h.wb, below_drewN h.bel n⟩
theorem AccI.next {o : Obj} {A : Option Addr} {c : Nat} {y : Int} (h : AccI w b q B0 G X exp d6 dims u ys wr)
    (hg : (wr.alloc o).grownBy w1 u.ownBlock) (hown : w1.ownsRow B0 21 1 (.slice A (ys.length + 1) c) (ys.length + 1) (ints .i32 ys ++ [.int .i32 y])) :
    AccI w b q B0 G X exp d6 dims (.slice A (ys.length + 1) c) (ys ++ [y]) (w1.setCell ⟨q, 2, none⟩ (.slice A (ys.length + 1) c)) := by
  have q0 := h.q0
  have q1 := h.q1
  have hlow : ∀ k, u.ownBlock = some k → B0 ≤ k := fun k hk => h.ulow hk
  have hne : ∀ g, g < B0 → some g ≠ u.ownBlock := fun g hg he => by have := hlow g he.symm; omega
  have hoff : Off (fun i => i = q ∨ u.ownBlock = some i) wr (w1.setCell ⟨q, 2, none⟩ (.slice A (ys.length + 1) c)) :=
    Off.setCell (p := ⟨q, 2, none⟩) ((((Off.refl (fun i => i = q ∨ u.ownBlock = some i) wr).alloc o).grown hg (fun k hk => .inl (.inr hk)))) (.inl (.inl rfl)) _
  refine ⟨?_, ?_, ?_, ?_, ?_, ?_, ?_, h.q0, h.q1, ?_, h.wb, ?_⟩
  · exact ((h.box.alloc o).grown hg (hne b (by omega))).far (by show b ≠ q; omega) _
  · exact ((h.box2.alloc o).grown hg (hne (b + 1) (by omega))).far (by show b + 1 ≠ q; omega) _
  · exact ((h.res.alloc o).grown hg (hne (b + 2) (by omega))).far (by show b + 2 ≠ q; omega) _
  · exact ((h.out.alloc o).grown hg (hne q (by omega))).put 2 _
  · have h1 := own_off (w' := w1.setCell ⟨q, 2, none⟩ (.slice A (ys.length + 1) c)) hown (Off.setCell (p := ⟨q, 2, none⟩) (Off.refl (fun i => i = q) w1) (.inl rfl) _) (fun k hk he => by have := (hown.lt k hk).1; omega)
    have e : ints .i32 (ys ++ [y]) = ints .i32 ys ++ [.int .i32 y] := by simp [ints]
    rw [e, List.length_append]
    exact h1
  · exact own_off h.dim hoff (fun k hk he => by
      have := h.dlt k hk
      rcases he with he | he
      · exact this.2 he
      · have := hlow k he; omega)
  · exact h.dlt
  · exact Nat.le_trans h.sz hoff.size
  · exact h.bel.trans (hoff.below (by have := h.sz; omega) (fun i hi => by
      rcases hi with hi | hi
      · omega
      · have := hlow i hi; omega))
theorem AccI.start1 (hb : w.heap.size = b) (hs : b + 3 ≤ wA.heap.size) (K2 : Blk wA (b + 2) 39 [.slice none 0 0, .int .i64 0, .slice none 0 0])
    (HB : Below b w wA) (KG : Blk w5 b 39 G) (KX : Blk w5 (b + 1) 39 X) (HO : w5.ownsRow wA.drew.heap.size 3 1 d6 dims.length (ints .i64 dims)) (HW : Below wA.drew.heap.size wA.drew w5) :
    AccI w b w5.heap.size (w5.alloc (.cells #[d6, .int .i64 exp, .slice none 0 0] 39)).heap.size G X exp d6 dims (.slice none 0 0) [] (w5.alloc (.cells #[d6, .int .i64 exp, .slice none 0 0] 39)) := by
  have h2 := HW.size
  have h1 : wA.drew.heap.size = wA.heap.size := rfl
  rw [h1] at HO HW h2
  have h3 : Off (fun _ => False) w5 (w5.alloc (.cells #[d6, .int .i64 exp, .slice none 0 0] 39)) := (Off.refl _ _).alloc _
  refine ⟨KG.alloc _, KX.alloc _, ((K2.drew).below HW (by omega)).alloc _, Blk.freshA _ _ _, World.ownsRow_nil _ _ _ _, own_lower (own_off HO h3 (fun _ _ h => h)) (by omega), ?_, by omega, by simp, Nat.le_refl _, hb, ?_⟩
  · intro k hk
    have := (HO.lt k hk)
    simp
    omega
  · exact ((HB.drew).trans (HW.mono (by omega))).alloc (by omega) _
theorem AccI.start2 (o : Obj) (hb : w.heap.size = b) (hs : b + 3 ≤ wA.heap.size) (K2 : Blk wA (b + 2) 39 [.slice none 0 0, .int .i64 0, .slice none 0 0])
    (HB : Below b w wA) (KG : Blk w5 b 39 G) (KX : Blk w5 (b + 1) 39 X) (HM : Blk w5 wA.heap.size 39 [.slice none 0 0, .int .i64 0, .slice none 0 0]) (HO : w5.ownsRow ((wA.alloc o).drew).heap.size 3 1 d6 dims.length (ints .i64 dims)) (HW : Below ((wA.alloc o).drew).heap.size ((wA.alloc o).drew) w5) :
    AccI w b wA.heap.size w5.heap.size G X exp d6 dims (.slice none 0 0) [] (((w5.setCell ⟨wA.heap.size, 0, none⟩ d6).setCell ⟨wA.heap.size, 1, none⟩ (.int .i64 exp)).setCell ⟨wA.heap.size, 2, none⟩ (.slice none 0 0)) := by
  have h1 : ((wA.alloc o).drew).heap.size = wA.heap.size + 1 := by show (wA.alloc o).heap.size = _; simp
  have h2 := HW.size
  rw [h1] at HO HW h2
  have h3 := off_set3 w5 wA.heap.size d6 (.int .i64 exp) (.slice none 0 0)
  refine ⟨KG.off h3 (by omega), KX.off h3 (by omega), (((K2.alloc o).drew).below HW (by omega)).off h3 (by omega), ((HM.put 0 _).put 1 _).put 2 _, World.ownsRow_nil _ _ _ _, own_lower (own_off HO h3 (fun k hk he => by have := (HO.lt k hk).1; omega)) (by omega), ?_, by omega, by have := HM.lt; omega, h3.size, hb, ?_⟩
  · intro k hk
    have := (HO.lt k hk)
    omega
  · exact ((((HB.alloc (by omega) o).drew).trans (HW.mono (by omega)))).trans (h3.below (by omega) (fun i hi => by omega))
theorem AccI.fin (h : AccI w b q B0 G X exp d6 dims u ys wr) (u0 u1 u2 : Value) {A : Option Addr} {c : Nat} {A' : Option Addr} {c' : Nat} (hd : d6 = .slice A dims.length c) (hu : u = .slice A' ys.length c')
    (db : Hid (∀ x ∈ dims, -9223372036854775808 ≤ x ∧ x ≤ 9223372036854775807)) (xb : Hid (∀ x ∈ ys, -16777216 ≤ x ∧ x ≤ 16777216)) (e0 : -9223372036854775808 ≤ exp) (e1 : exp ≤ 9223372036854775807) :
    FormA w dims exp ys 0 (.returned (.tuple #[.agg #[.slice A dims.length c, .int .i64 exp, .slice A' ys.length c'], .int .i64 0])) (((wr.setCell ⟨b + 2, 0, none⟩ u0).setCell ⟨b + 2, 1, none⟩ u1).setCell ⟨b + 2, 2, none⟩ u2) := by
  subst hd hu
  have hoff := off_set3 wr (b + 2) u0 u1 u2
  have hb := h.wb
  have q0 := h.q0
  have q1 := h.q1
  have g6 := own_off h.dim hoff (fun k hk he => by have := (h.dim.lt k hk).1; omega)
  have g7 := own_off h.own hoff (fun k hk he => by have := h.ulow hk; omega)
  refine ⟨_, _, _, _, rfl, ⟨Reads.of_own g6, Reads.of_own g7, db, Lib.hid (fun x hx => by have := xb.out x hx; omega), e0, e1⟩, ?_⟩
  rw [hb]
  exact h.bel.trans (hoff.below (by have := h.sz; omega) (fun i hi => by omega))
end
theorem acc_no {w w3 : World} {D : List Int} {E : Int} {X : List Int} {err e : Int} {b : Nat} (hb : Below w.heap.size w w3) (hbe : w.heap.size = b) (hk : b + 2 < w3.heap.size) (hD : D = []) (hE : E = 0) (hX : X = []) (he : err = e) (u0 u1 u2 : Value) :
    FormA w D E X err (.returned (.tuple #[.agg #[.slice none 0 0, .int .i64 0, .slice none 0 0], .int .i64 e])) (((w3.setCell ⟨b + 2, 0, none⟩ u0).setCell ⟨b + 2, 1, none⟩ u1).setCell ⟨b + 2, 2, none⟩ u2) := by
  subst hD hE hX he
  exact ⟨_, _, _, _, rfl, IsA.zero _ _, hb.trans ((off_set3 w3 (b + 2) _ _ _).below (by have := hb.size; omega) (fun i hi => by omega))⟩

set_option maxHeartbeats 8000000 in
set_option maxRecDepth 100000 in
theorem acc_any (gd : List Int) (ge : Int) (gx xd : List Int) (xe : Int) (xx : List Int) (gv gw xv xw : Value) (w : World) (B : Nat) (hB : B ≤ w.heap.size) (h : IsA w B gv gw gd ge gx) (h' : IsA w B xv xw xd xe xx) (D : List Int) (E : Int) (X : List Int) (err : Int)
    (hD : (if accErr gd ge gx xd xe xx = 0 then gd else []) = D) (hE : (if accErr gd ge gx xd xe xx = 0 then ge else 0) = E) (hX : (if accErr gd ge gx xd xe xx = 0 then sumI gx xx else []) = X) (he : accErr gd ge gx xd xe xx = err) :
    Calls Try.prog 28 #[.agg #[gv, .int .i64 ge, gw], .agg #[xv, .int .i64 xe, xw]] w (FormA w D E X err) := by
  obtain ⟨A, c, rfl, _, _⟩ := h.d.form
  obtain ⟨A', c', rfl, _, _⟩ := h.x.form
  obtain ⟨A2, c2, rfl, _, _⟩ := h'.d.form
  obtain ⟨A2', c2', rfl, _, _⟩ := h'.x.form
  simp only [length_ints] at *
  have hb0 := three_alloc0 w (.cells #[.slice A gd.length c, .int .i64 ge, .slice A' gx.length c'] 39) (.cells #[.slice A2 xd.length c2, .int .i64 xe, .slice A2' xx.length c2'] 39) (.cells #[.slice none 0 0, .int .i64 0, .slice none 0 0] 39)
  have TG := Lib.hid (h.below (hb0.mono hB))
  have TX := Lib.hid (h'.below (hb0.mono hB))
  have BB := Lib.hid hb0
  have KG := Lib.hid (((Blk.fresh w 39 [.slice A gd.length c, .int .i64 ge, .slice A' gx.length c']).alloc (.cells #[.slice A2 xd.length c2, .int .i64 xe, .slice A2' xx.length c2'] 39)).alloc (.cells #[.slice none 0 0, .int .i64 0, .slice none 0 0] 39))
  have kx := (Blk.fresh (w.alloc (.cells #[.slice A gd.length c, .int .i64 ge, .slice A' gx.length c'] 39)) 39 [.slice A2 xd.length c2, .int .i64 xe, .slice A2' xx.length c2']).alloc (.cells #[.slice none 0 0, .int .i64 0, .slice none 0 0] 39)
  have kr := Blk.fresh ((w.alloc (.cells #[.slice A gd.length c, .int .i64 ge, .slice A' gx.length c'] 39)).alloc (.cells #[.slice A2 xd.length c2, .int .i64 xe, .slice A2' xx.length c2'] 39)) 39 [.slice none 0 0, .int .i64 0, .slice none 0 0]
  simp only [World.size_alloc] at kx kr
  have KX := Lib.hid kx
  have KR := Lib.hid kr
  have HDE := Lib.hid hD
  have HEE := Lib.hid hE
  have HXE := Lib.hid hX
  have HER := Lib.hid he
  have TG0 := Lib.hid h
  have TX0 := Lib.hid h'
  clear hb0 h h' kx kr hD hE hX he
  obtain ⟨mg, hmg⟩ : ∃ m, addMay gd ge gx = m := ⟨_, rfl⟩
  obtain ⟨mx, hmx⟩ : ∃ m, addMay xd xe xx = m := ⟨_, rfl⟩
  have HMG := Lib.hid hmg
  have HMX := Lib.hid hmx
  go_enter Try.func28, Try.ntmps28
  go_wp2_with fail
  generalize (((w.alloc (.cells #[.slice A gd.length c, .int .i64 ge, .slice A' gx.length c'] 39)).alloc (.cells #[.slice A2 xd.length c2, .int .i64 xe, .slice A2' xx.length c2'] 39)).alloc (.cells #[.slice none 0 0, .int .i64 0, .slice none 0 0] 39)) = w1 at TG TX BB KG KX KR ⊢
  have hM := addmay_any gd ge gx _ _ w1 B (Nat.le_trans hB BB.out.size) TG.out
  rw [hmg] at hM
  clear hmg
  refine hM.mono ?_
  rintro e w3 ⟨rfl, hb3⟩
  have hsb := BB.out.size
  have hs3 := hb3.size
  have TG := Lib.hid (TG.out.below (hb3.mono (by omega)))
  have TX := Lib.hid (TX.out.below (hb3.mono (by omega)))
  have BB := Lib.hid (BB.out.trans (hb3.mono (by omega)))
  have KG := Lib.hid (KG.out.below hb3 KG.out.lt)
  have KX := Lib.hid (KX.out.below hb3 KX.out.lt)
  have KR := Lib.hid (KR.out.below hb3 KR.out.lt)
  clear hM hb3
  obtain ⟨b, hb⟩ : ∃ b, w.heap.size = b := ⟨_, rfl⟩
  simp only [hb, Nat.add_assoc, Nat.reduceAdd] at KG KX KR ⊢
  have HBE := Lib.hid hb
  have s0 : w3.cell? ⟨b + 1, 0, none⟩ = some (.slice A2 xd.length c2) := KX.out.cell 0
  have s1 : w3.cell? ⟨b + 1, 1, none⟩ = some (.int .i64 xe) := KX.out.cell 1
  have s2 : w3.cell? ⟨b + 1, 2, none⟩ = some (.slice A2' xx.length c2') := KX.out.cell 2
  clear hb
  cases mg with
  | false =>
    have hne : accErr gd ge gx xd xe xx = 1 := by unfold accErr; rw [if_neg (fun h => by have := HMG.out; rw [h.1] at this; cases this)]
    have r0 : w3.cell? ⟨b + 2, 0, none⟩ = some (.slice none 0 0) := KR.out.cell 0
    have r1 : w3.cell? ⟨b + 2, 1, none⟩ = some (.int .i64 0) := KR.out.cell 1
    have r2 : w3.cell? ⟨b + 2, 2, none⟩ = some (.slice none 0 0) := KR.out.cell 2
    have f0 := KR.out.free 0
    have f1 := KR.out.free 1
    have f2 := KR.out.free 2
    have HNE := Lib.hid hne
    clear hne hmx
    go_wp2
    refine bodyPost_ret (v := .tuple #[.agg #[.slice none 0 0, .int .i64 0, .slice none 0 0], .int .i64 1]) (by simp [results, Try.results28, go_sem, r0, r1, r2]) rfl ?_
    exact acc_no BB.out HBE.out KR.out.lt (by rw [← HDE.out, HNE.out]; rfl) (by rw [← HEE.out, HNE.out]; rfl) (by rw [← HXE.out, HNE.out]; rfl) (by rw [← HER.out, HNE.out]) _ _ _
  | true =>
    go_wp2_with fail
    clear s0 s1 s2
    have hM := addmay_any xd xe xx _ _ w3 B (by omega) TX.out
    rw [hmx] at hM
    clear hmx
    refine hM.mono ?_
    rintro e w4 ⟨rfl, hb4⟩
    have hs4 := hb4.size
    have TG := Lib.hid (TG.out.below (hb4.mono (by omega)))
    have TX := Lib.hid (TX.out.below (hb4.mono (by omega)))
    have BB := Lib.hid (BB.out.trans (hb4.mono (by omega)))
    have KG := Lib.hid (KG.out.below hb4 KG.out.lt)
    have KX := Lib.hid (KX.out.below hb4 KX.out.lt)
    have KR := Lib.hid (KR.out.below hb4 KR.out.lt)
    have s0 : w4.cell? ⟨b + 1, 0, none⟩ = some (.slice A2 xd.length c2) := KX.out.cell 0
    have s1 : w4.cell? ⟨b + 1, 1, none⟩ = some (.int .i64 xe) := KX.out.cell 1
    have s2 : w4.cell? ⟨b + 1, 2, none⟩ = some (.slice A2' xx.length c2') := KX.out.cell 2
    have t0 : w4.cell? ⟨b, 0, none⟩ = some (.slice A gd.length c) := KG.out.cell 0
    have t1 : w4.cell? ⟨b, 1, none⟩ = some (.int .i64 ge) := KG.out.cell 1
    have t2 : w4.cell? ⟨b, 2, none⟩ = some (.slice A' gx.length c') := KG.out.cell 2
    have r0 : w4.cell? ⟨b + 2, 0, none⟩ = some (.slice none 0 0) := KR.out.cell 0
    have r1 : w4.cell? ⟨b + 2, 1, none⟩ = some (.int .i64 0) := KR.out.cell 1
    have r2 : w4.cell? ⟨b + 2, 2, none⟩ = some (.slice none 0 0) := KR.out.cell 2
    have f0 := KR.out.free 0
    have f1 := KR.out.free 1
    have f2 := KR.out.free 2
    clear hM hb4
    cases mx with
    | false =>
      have hne : accErr gd ge gx xd xe xx = 1 := by unfold accErr; rw [if_neg (fun h => by have := HMX.out; rw [h.2] at this; cases this)]
      have HNE := Lib.hid hne
      clear hne
      go_wp2
      refine bodyPost_ret (v := .tuple #[.agg #[.slice none 0 0, .int .i64 0, .slice none 0 0], .int .i64 1]) (by simp [results, Try.results28, go_sem, r0, r1, r2]) rfl ?_
      exact acc_no BB.out HBE.out KR.out.lt (by rw [← HDE.out, HNE.out]; rfl) (by rw [← HEE.out, HNE.out]; rfl) (by rw [← HXE.out, HNE.out]; rfl) (by rw [← HER.out, HNE.out]) _ _ _
    | true =>
      go_wp2_with fail
      obtain ⟨sm, hsm⟩ : ∃ m, (gd == xd) = m := ⟨_, rfl⟩
      have hS := same_any gd xd _ _ w4 _ _ TG.out.d TX.out.d
      rw [hsm] at hS
      have HSM := Lib.hid hsm
      clear hsm
      refine hS.mono ?_
      rintro e w5 hq
      obtain ⟨rfl, m, rfl⟩ := hq
      clear hS
      have s0 : (w4.drewN m).cell? ⟨b + 1, 0, none⟩ = some (.slice A2 xd.length c2) := s0
      have s1 : (w4.drewN m).cell? ⟨b + 1, 1, none⟩ = some (.int .i64 xe) := s1
      have s2 : (w4.drewN m).cell? ⟨b + 1, 2, none⟩ = some (.slice A2' xx.length c2') := s2
      have t0 : (w4.drewN m).cell? ⟨b, 0, none⟩ = some (.slice A gd.length c) := t0
      have t1 : (w4.drewN m).cell? ⟨b, 1, none⟩ = some (.int .i64 ge) := t1
      have t2 : (w4.drewN m).cell? ⟨b, 2, none⟩ = some (.slice A' gx.length c') := t2
      have r0 : (w4.drewN m).cell? ⟨b + 2, 0, none⟩ = some (.slice none 0 0) := r0
      have r1 : (w4.drewN m).cell? ⟨b + 2, 1, none⟩ = some (.int .i64 0) := r1
      have r2 : (w4.drewN m).cell? ⟨b + 2, 2, none⟩ = some (.slice none 0 0) := r2
      have f0 : (w4.drewN m).frozen? ⟨b + 2, 0, none⟩ = false := f0
      have f1 : (w4.drewN m).frozen? ⟨b + 2, 1, none⟩ = false := f1
      have f2 : (w4.drewN m).frozen? ⟨b + 2, 2, none⟩ = false := f2
      have TG : Hid (IsA (w4.drewN m) B _ _ _ _ _) := Lib.hid (TG.out.below (below_drewN (Below.refl _ _) _))
      have TX : Hid (IsA (w4.drewN m) B _ _ _ _ _) := Lib.hid (TX.out.below (below_drewN (Below.refl _ _) _))
      have BB := Lib.hid (below_drewN BB.out m)
      have KG := Lib.hid (KG.out.drewN m)
      have KX := Lib.hid (KX.out.drewN m)
      have KR := Lib.hid (KR.out.drewN m)
      have hs5 : w4.heap.size = (w4.drewN m).heap.size := rfl
      generalize w4.drewN m = w6 at *
      cases sm with
      | false =>
        have hne : accErr gd ge gx xd xe xx = 2 := by unfold accErr; rw [if_pos ⟨HMG.out, HMX.out⟩, if_neg (by have := HSM.out; simpa using this)]
        have HNE := Lib.hid hne
        clear hne
        go_wp2
        refine bodyPost_ret (v := .tuple #[.agg #[.slice none 0 0, .int .i64 0, .slice none 0 0], .int .i64 2]) (by simp [results, Try.results28, go_sem, r0, r1, r2]) rfl ?_
        exact acc_no BB.out HBE.out KR.out.lt (by rw [← HDE.out, HNE.out]; rfl) (by rw [← HEE.out, HNE.out]; rfl) (by rw [← HXE.out, HNE.out]; rfl) (by rw [← HER.out, HNE.out]) _ _ _
      | true =>
        have hdd : gd = xd := by have := HSM.out; simpa using this
        obtain ⟨g1, g2, g3⟩ := mayA_len HMG.out
        obtain ⟨p1, p2, p3⟩ := mayA_len HMX.out
        have hlen : gx.length = xx.length := by
          rw [hdd] at g1
          omega
        have hl2 := sizeI_bound gd
        have ld : gd.length * 8 ≤ 140737488355328 := by omega
        have hgl : gx.length ≤ 8192 := by omega
        have HLEN := Lib.hid hlen
        have HDD := Lib.hid hdd
        have HG3 := Lib.hid g3
        have HP3 := Lib.hid p3
        clear g1 g2 g3 p1 p2 p3 hl2 hlen hdd
        by_cases hee : ge = xe
        · have hex : (ge != xe) = false := by simpa using hee
          have HEX := Lib.hid hee
          clear hee
          have hBW : B ≤ w6.heap.size := by omega
          have hn0 : ¬ b = w6.heap.size := by have := KG.out.lt; omega
          have dd0 : w6.drew.cell? ⟨b, 0, none⟩ = some (.slice A gd.length c) := t0
          have dd1 : w6.drew.cell? ⟨b, 1, none⟩ = some (.int .i64 ge) := t1
          have ee0 : (w6.alloc (.cells #[.slice none 0 0, .int .i64 0, .slice none 0 0] 39)).drew.cell? ⟨b, 0, none⟩ = some (.slice A gd.length c) := (KG.out.alloc _).cell 0
          have ee1 : (w6.alloc (.cells #[.slice none 0 0, .int .i64 0, .slice none 0 0] 39)).drew.cell? ⟨b, 1, none⟩ = some (.int .i64 ge) := (KG.out.alloc _).cell 1
          have HS3 : Hid (b + 3 ≤ w6.heap.size) := Lib.hid (by have := KR.out.lt; omega)
          have HMB := Lib.hid (Blk.freshA w6 39 #[.slice none 0 0, .int .i64 0, .slice none 0 0])
          have HBW := Lib.hid hBW
          have HBA : Hid (B ≤ w6.drew.heap.size) := Lib.hid hBW
          have HBB : Hid (B ≤ ((w6.alloc (.cells #[.slice none 0 0, .int .i64 0, .slice none 0 0] 39)).drew).heap.size) := Lib.hid (Nat.le_trans hBW (by simp))
          clear hs3 hs4 hs5 hsb
          go_upto_region 5 with fail
          go_cut [6] (fun s wx => ∃ (q B0 : Nat) (A6 : Option Addr) (c6 : Nat), s = .pointer (some ⟨q, 0, none⟩) ∧ AccI w b q B0 [.slice A gd.length c, .int .i64 ge, .slice A' gx.length c'] [.slice A2 xd.length c2, .int .i64 xe, .slice A2' xx.length c2'] ge (.slice A6 gd.length c6) gd (.slice none 0 0) [] wx)
          case first =>
            go_region_held3 (fun w' => w'.cell? ⟨b, 0, none⟩ = some (.slice A gd.length c) ∧ w'.cell? ⟨b, 1, none⟩ = some (.int .i64 ge)) (first | (with_reducible exact ⟨c50, c51⟩) | (with_reducible exact ⟨dd0, dd1⟩) | (with_reducible exact ⟨ee0, ee1⟩) | (with_reducible exact ⟨((HKG.out.alloc _).cell 0), ((HKG.out.alloc _).cell 1)⟩) | (with_reducible exact ⟨cc0.out _ _ _, cc1.out _ _ _⟩) | (go_keep; done)) (first
              | (go_at_call 33; (with_reducible refine (clone_int w6.drew B _ gd TG.out.d.drew HBA.out ld).mono ?_); rintro e7 w7 ⟨A6, c6, rfl, hown6, hb6⟩; have k5 := KG.out.drew.below hb6 KG.out.lt; have k6 := KX.out.drew.below hb6 KX.out.lt; have c50 : w7.cell? ⟨b, 0, none⟩ = some (.slice A gd.length c) := k5.cell 0; have c51 : w7.cell? ⟨b, 1, none⟩ = some (.int .i64 ge) := k5.cell 1; have HKG := Lib.hid k5; have HKX := Lib.hid k6; clear k5 k6; have HO6 := Lib.hid hown6; have HW6 := Lib.hid hb6; clear hown6 hb6)
              | (go_at_call 33; (with_reducible refine (clone_int ((w6.alloc (.cells #[.slice none 0 0, .int .i64 0, .slice none 0 0] 39)).drew) B _ gd ((TG.out.d.alloc (B := B) HBW.out _).drew) HBB.out ld).mono ?_); rintro e7 w7 ⟨A6, c6, rfl, hown6, hb6⟩; have k5 := (KG.out.alloc _).drew.below hb6 (KG.out.alloc _).lt; have k6 := (KX.out.alloc _).drew.below hb6 (KX.out.alloc _).lt; have c50 : w7.cell? ⟨b, 0, none⟩ = some (.slice A gd.length c) := k5.cell 0; have c51 : w7.cell? ⟨b, 1, none⟩ = some (.int .i64 ge) := k5.cell 1; have m5 := HMB.out.drew.below hb6 HMB.out.lt; have z0 := m5.cell 0; have z1 := m5.cell 1; have z2 := m5.cell 2; have y0 := m5.free 0; have y1 := m5.free 1; have y2 := m5.free 2; have cc0 := Lib.hid (fun (u0 u1 u2 : Value) => ((off_set3 w7 w6.heap.size u0 u1 u2).cell (p := ⟨b, 0, none⟩) k5.lt hn0).trans c50); have cc1 := Lib.hid (fun (u0 u1 u2 : Value) => ((off_set3 w7 w6.heap.size u0 u1 u2).cell (p := ⟨b, 1, none⟩) k5.lt hn0).trans c51); have HKG := Lib.hid k5; have HKX := Lib.hid k6; have HM := Lib.hid m5; clear k5 k6 m5; have HO6 := Lib.hid hown6; have HW6 := Lib.hid hb6; clear hown6 hb6))
            all_goals
              go_wp2_with fail
              go_meet
              first
                | exact ⟨_, _, _, _, rfl, AccI.start1 (exp := ge) HBE.out HS3.out KR.out (by rw [← HBE.out]; exact BB.out) HKG.out HKX.out HO6.out HW6.out⟩
                | exact ⟨_, _, _, _, rfl, AccI.start2 (exp := ge) _ HBE.out HS3.out KR.out (by rw [← HBE.out]; exact BB.out) HKG.out HKX.out HM.out HO6.out HW6.out⟩
          case rest =>
            obtain ⟨q, B0, A6, c6, rfl, hst⟩ := hcut
            have b2 : wc.cell? ⟨b, 2, none⟩ = some (.slice A' gx.length c') := hst.box.cell 2
            have HST := Lib.hid hst
            clear hst dd0 dd1 ee0 ee1 t0 t1 t2 s0 s1 s2 r0 r1 r2 f0 f1 f2 hn0 TG TX BB KG KX KR HS3 HMB HBW HBA HBB
            obtain ⟨ys, hys⟩ : ∃ ys, sumI gx xx = ys := ⟨_, rfl⟩
            have hyl : ys.length = gx.length := by rw [← hys]; exact sum_length gx xx HLEN.out
            have HYS := Lib.hid hys
            have HYL := Lib.hid hyl
            have HAE : Hid (accErr gd ge gx xd xe xx = if ys.all inB = true then 0 else 3) := Lib.hid (by unfold accErr; rw [if_pos ⟨HMG.out, HMX.out⟩, if_pos HDD.out, if_pos HEX.out, hys])
            clear hys hyl
            go_wp2_with fail
            go_loopw [43] (fun i wr => ∃ (k : Nat) (u : Value), k ≤ gx.length ∧ i = .int .i64 k ∧ (ys.take k).all inB = true ∧ AccI w b q B0 [.slice A gd.length c, .int .i64 ge, .slice A' gx.length c'] [.slice A2 xd.length c2, .int .i64 xe, .slice A2' xx.length c2'] ge (.slice A6 gd.length c6) gd u (ys.take k) wr) (fun i _ => gx.length - (intOf i).toNat)
            case atStart => exact ⟨0, _, by omega, rfl, by simp, by simpa using HST.out⟩
            case round =>
              obtain ⟨k, u, hk, rfl, hall, hwr⟩ := hrel
              by_cases hlt : k < gx.length
              · have hlen := HLEN.out
                obtain ⟨x1, hx1⟩ : ∃ x1, gx[k]? = some x1 := ⟨gx[k], List.getElem?_eq_getElem (by omega)⟩
                obtain ⟨y1, hy1⟩ : ∃ y1, xx[k]? = some y1 := ⟨xx[k]'(by omega), List.getElem?_eq_getElem (by omega)⟩
                have hyk := sum_at gx xx k x1 y1 hx1 hy1
                rw [HYS.out] at hyk
                have hxb := inB_of (List.all_eq_true.1 HG3.out x1 (List.mem_of_getElem? hx1))
                have hyb := inB_of (List.all_eq_true.1 HP3.out y1 (List.mem_of_getElem? hy1))
                obtain ⟨xb0, xb1⟩ := hxb
                obtain ⟨yb0, yb1⟩ := hyb
                have hnx : ys.take (k + 1) = ys.take k ++ [x1 + y1] := by rw [List.take_add_one, hyk]; rfl
                have hlen1 : (ys.take k).length + 1 ≤ 8192 := by rw [List.length_take]; have := HYL.out; omega
                obtain ⟨bb, hbb⟩ : ∃ bb, inB (x1 + y1) = bb := ⟨_, rfl⟩
                have HWI : Hid (∀ W : World, Calls Try.prog 46 #[.int .i32 (x1 + y1)] W fun en w' => en = .returned (.bool bb) ∧ W = w') := Lib.hid (fun W => by have := within_any (x1 + y1) W; rwa [hbb] at this)
                have hxr := (TG0.out.below (hwr.bel.mono (by have := HBE.out; omega))).x
                have hyr := (TX0.out.below (hwr.bel.mono (by have := HBE.out; omega))).x
                obtain ⟨AA, n1, c9a, hva, hn, hcc, hmm, ha⟩ := hxr
                injection hva with q1 q2 q3
                subst q1 q2 q3
                obtain ⟨AA', n1', c9b, hva', hn', hcc', hmm', ha'⟩ := hyr
                injection hva' with q1 q2 q3
                subst q1 q2 q3
                obtain ⟨g, o, rfl, hg, hx⟩ := ha.out (by omega)
                obtain ⟨g', o', rfl, hg', hy⟩ := ha'.out (by omega)
                have z1 := hx k (.int .i32 x1) (by rw [ints, List.getElem?_map, hx1]; rfl)
                have z2 := hy k (.int .i32 y1) (by rw [ints, List.getElem?_map, hy1]; rfl)
                have i1 : (0 : Int) ≤ (k : Int) := by omega
                have i2 : (k : Int) < (gx.length : Int) := by omega
                have i2' : (k : Int) < (xx.length : Int) := by omega
                have i3 : (k : Int) ≤ 9223372036854775807 := by omega
                have c1 : wr.cell? ⟨b, 2, none⟩ = some (.slice (some ⟨g, o, none⟩) gx.length c') := hwr.box.cell 2
                have c4 : wr.cell? ⟨b + 1, 2, none⟩ = some (.slice (some ⟨g', o', none⟩) xx.length c2') := hwr.box2.cell 2
                have HYK := Lib.hid hyk
                have HBBB := Lib.hid hbb
                have HALL := Lib.hid hall
                cases bb with
                | false =>
                  have h0 : wr.cell? ⟨b + 2, 0, none⟩ = some (.slice none 0 0) := hwr.res.cell 0
                  have h1 : wr.cell? ⟨b + 2, 1, none⟩ = some (.int .i64 0) := hwr.res.cell 1
                  have h2 : wr.cell? ⟨b + 2, 2, none⟩ = some (.slice none 0 0) := hwr.res.cell 2
                  have hf0 := hwr.res.free 0
                  have hf1 := hwr.res.free 1
                  have hf2 := hwr.res.free 2
                  have hae : accErr gd ge gx xd xe xx = 3 := by rw [HAE.out, if_neg (by rw [not_all HYK.out HBBB.out]; simp)]
                  have HNE := Lib.hid hae
                  have HWR := Lib.hid hwr
                  clear hnx hyk hbb hall hwr hlen hlen1 hx1 hy1 hx hy ha ha' hg hg' hcc hcc' hmm hmm' hn hn' b2 HST hae
                  go_wp2_with fail
                  go_quiet (fail)
                  go_wp2_with fail
                  refine (HWI.out _).mono ?_
                  rintro en w9 ⟨rfl, rfl⟩
                  go_wp2
                  refine bodyPost_ret (v := .tuple #[.agg #[.slice none 0 0, .int .i64 0, .slice none 0 0], .int .i64 3]) (by simp [results, Try.results28, go_sem, h0, h1, h2]) rfl ?_
                  exact acc_no (by have := (HWR.out.drewN nq).bel; rw [HBE.out]; exact this) HBE.out (HWR.out.drewN nq).res.lt (by rw [← HDE.out, HNE.out]; rfl) (by rw [← HEE.out, HNE.out]; rfl) (by rw [← HXE.out, HNE.out]; rfl) (by rw [← HER.out, HNE.out]) _ _ _
                | true =>
                  have hall2 : (ys.take (k + 1)).all inB = true := all_take_next HALL.out HYK.out HBBB.out
                  have HA2 := Lib.hid hall2
                  generalize ys.take k = zs at hnx hwr hlen1
                  have c6' : wr.cell? ⟨q, 2, none⟩ = some u := hwr.out.cell 2
                  have hf := hwr.out.free 2
                  have hne : some q ≠ u.ownBlock := fun he => by have := hwr.ulow he.symm; have := hwr.q1; omega
                  have HNX := Lib.hid hnx
                  have HWR := Lib.hid hwr
                  have hB2 : B0 ≤ wr.heap.size := hwr.sz
                  have hqs := hwr.out.lt
                  clear hnx hyk hbb hall hall2 hwr hlen hx1 hy1 hx hy ha ha' hg hg' hcc hcc' hmm hmm' hn hn' b2 HST HALL
                  go_wp2_with fail
                  go_quiet (fail)
                  go_wp2_with fail
                  refine (HWI.out _).mono ?_
                  rintro en w9 ⟨rfl, rfl⟩
                  have HQ := Lib.hid (HWR.out.drewN nq)
                  go_wp2_with (at_builtin; refine wpList_extend elem_i32 _ rfl (.tmp 62) (.tmp 64) rfl B0 _ u _ rfl (HQ.out.own.alloc _) _ _ [_] rfl (Reads.one_ (wr.drewN nq) _ _) (by simp [Value.oneCell']) (by simp only [List.length_cons, List.length_nil, maxLen]; omega) (by simp only [List.length_cons, List.length_nil]; omega) (by simp; omega) ?_; intro A9 c9 w1 hown hgrow hfr'; have hbk := (HQ.out.out.alloc _).grown hgrow hne; have hc1 : w1.cell? ⟨q, 2, none⟩ = some u := hbk.cell 2; have hf1 := hbk.free 2)
                  have hl2 := HQ.out.next hgrow hown
                  rw [← HNX.out] at hl2
                  go_roundw
                  case rel => exact ⟨k + 1, _, by omega, by go_num, HA2.out, hl2⟩
                  case measure => simp [intOf]; omega
              · obtain rfl : k = gx.length := by omega
                rw [List.take_of_length_le (by have := HYL.out; omega)] at hwr hall
                have hae : accErr gd ge gx xd xe xx = 0 := by rw [HAE.out, if_pos hall]
                have HNE := Lib.hid hae
                have HALL := Lib.hid hall
                obtain ⟨Au, cu, rfl⟩ := own_form hwr.own
                have h0 : wr.cell? ⟨q, 0, none⟩ = some (.slice A6 gd.length c6) := hwr.out.cell 0
                have h1 : wr.cell? ⟨q, 1, none⟩ = some (.int .i64 ge) := hwr.out.cell 1
                have h2 : wr.cell? ⟨q, 2, none⟩ = some (.slice Au ys.length cu) := hwr.out.cell 2
                have z0 : wr.cell? ⟨b + 2, 0, none⟩ = some (.slice none 0 0) := hwr.res.cell 0
                have z1 : wr.cell? ⟨b + 2, 1, none⟩ = some (.int .i64 0) := hwr.res.cell 1
                have z2 : wr.cell? ⟨b + 2, 2, none⟩ = some (.slice none 0 0) := hwr.res.cell 2
                have y0 := hwr.res.free 0
                have y1 := hwr.res.free 1
                have y2 := hwr.res.free 2
                have HWR := Lib.hid hwr
                clear hwr b2 HST hall hae
                go_wp2
                refine bodyPost_ret (v := .tuple #[.agg #[.slice A6 gd.length c6, .int .i64 ge, .slice Au ys.length cu], .int .i64 0]) (by simp [results, Try.results28, go_sem, z0, z1, z2]) rfl ?_
                have e1 : gd = D := by have := HDE.out; rwa [if_pos HNE.out] at this
                have e2 : ge = E := by have := HEE.out; rwa [if_pos HNE.out] at this
                have e3 : ys = X := by have := HXE.out; rw [if_pos HNE.out] at this; rw [← HYS.out]; exact this
                have e4 : err = 0 := by rw [← HER.out]; exact HNE.out
                rw [← e1, ← e2, ← e3, e4]
                exact HWR.out.fin _ _ _ rfl rfl TG0.out.db (Lib.hid (fun x hx => by have := inB_of (List.all_eq_true.1 HALL.out x hx); omega)) TG0.out.e0 TG0.out.e1
        · have hex : (ge != xe) = true := by simpa using hee
          have hne : accErr gd ge gx xd xe xx = 2 := by unfold accErr; rw [if_pos ⟨HMG.out, HMX.out⟩, if_pos HDD.out, if_neg hee]
          have HNE := Lib.hid hne
          clear hne hee
          go_wp2
          refine bodyPost_ret (v := .tuple #[.agg #[.slice none 0 0, .int .i64 0, .slice none 0 0], .int .i64 2]) (by simp [results, Try.results28, go_sem, r0, r1, r2]) rfl ?_
          exact acc_no BB.out HBE.out KR.out.lt (by rw [← HDE.out, HNE.out]; rfl) (by rw [← HEE.out, HNE.out]; rfl) (by rw [← HXE.out, HNE.out]; rfl) (by rw [← HER.out, HNE.out]) _ _ _
end Go.Proofs.Ythdahnjghpiheaa
