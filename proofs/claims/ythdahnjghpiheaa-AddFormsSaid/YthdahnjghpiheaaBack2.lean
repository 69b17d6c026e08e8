/- Contract of unit.ReluBack: the walk. -/
import Derived.Test.YthdahnjghpiheaaBack
namespace Go.Proofs.Ythdahnjghpiheaa
open Go.RowKit
set_option linter.unusedVariables false

def backErr (gd : List Int) (ge : Int) (gx xd : List Int) (xe : Int) (xx : List Int) : Int :=
  if mayB gd ge gx = true ∧ mayB xd xe xx = true then (if gd = xd then 0 else 2) else 1
theorem may_len {d : List Int} {e : Int} {x : List Int} (h : mayB d e x = true) : (x.length : Int) = sizeI d := by
  unfold mayB at h
  simp only [Bool.and_eq_true, decide_eq_true_eq, beq_iff_eq] at h
  exact h.2.1
theorem may_dims {d : List Int} {e : Int} {x : List Int} (h : mayB d e x = true) : d.length ≤ 4 := by
  unfold mayB at h
  simp only [Bool.and_eq_true, decide_eq_true_eq, beq_iff_eq] at h
  have := h.1
  unfold sizeI at this
  split at this
  · omega
  · omega
theorem three_alloc0 (w : World) (o o' o'' : Obj) : Below w.heap.size w (((w.alloc o).alloc o').alloc o'') := (((Below.refl _ _).alloc (Nat.le_refl _) _).alloc (by simp) _).alloc (by simp; omega) _

theorem back_no {w w3 : World} {D : List Int} {E : Int} {X : List Int} {err e : Int} {b : Nat} (hb : Below w.heap.size w w3) (hbe : w.heap.size = b) (hk : b + 2 < w3.heap.size) (hD : D = []) (hE : E = 0) (hX : X = []) (he : err = e) (u0 u1 u2 : Value) :
    FormT w D E X err (.returned (.tuple #[.agg #[.slice none 0 0, .int .i64 0, .slice none 0 0], .int .i64 e])) (((w3.setCell ⟨b + 2, 0, none⟩ u0).setCell ⟨b + 2, 1, none⟩ u1).setCell ⟨b + 2, 2, none⟩ u2) := by
  subst hD hE hX he
  exact ⟨_, _, _, _, rfl, IsT.zero _ _, hb.trans ((off_set3 w3 (b + 2) _ _ _).below (by have := hb.size; omega) (fun i hi => by omega))⟩

set_option maxHeartbeats 1600000 in
set_option maxRecDepth 100000 in
theorem back_any (gd : List Int) (ge : Int) (gx xd : List Int) (xe : Int) (xx : List Int) (gv gw xv xw : Value) (w : World) (B : Nat) (hB : B ≤ w.heap.size) (h : IsT w B gv gw gd ge gx) (h' : IsT w B xv xw xd xe xx) (D : List Int) (E : Int) (X : List Int) (err : Int)
    (hD : (if backErr gd ge gx xd xe xx = 0 then gd else []) = D) (hE : (if backErr gd ge gx xd xe xx = 0 then ge else 0) = E) (hX : (if backErr gd ge gx xd xe xx = 0 then slopeI gx xx else []) = X) (he : backErr gd ge gx xd xe xx = err) :
    Calls Try.prog 19 #[.agg #[gv, .int .i64 ge, gw], .agg #[xv, .int .i64 xe, xw]] w (FormT w D E X err) := by
  obtain ⟨A, c, rfl, _, _⟩ := h.d.form
  obtain ⟨A', c', rfl, _, _⟩ := h.x.form
  obtain ⟨A2, c2, rfl, _, _⟩ := h'.d.form
  obtain ⟨A2', c2', rfl, _, _⟩ := h'.x.form
  simp only [length_ints] at *
  have hb0 := three_alloc0 w (.cells #[.slice A gd.length c, .int .i64 ge, .slice A' gx.length c'] 25) (.cells #[.slice A2 xd.length c2, .int .i64 xe, .slice A2' xx.length c2'] 25) (.cells #[.slice none 0 0, .int .i64 0, .slice none 0 0] 25)
  have TG := Lib.hid (h.below (hb0.mono hB))
  have TX := Lib.hid (h'.below (hb0.mono hB))
  have BB := Lib.hid hb0
  have KG := Lib.hid (((Blk.fresh w 25 [.slice A gd.length c, .int .i64 ge, .slice A' gx.length c']).alloc (.cells #[.slice A2 xd.length c2, .int .i64 xe, .slice A2' xx.length c2'] 25)).alloc (.cells #[.slice none 0 0, .int .i64 0, .slice none 0 0] 25))
  have kx := (Blk.fresh (w.alloc (.cells #[.slice A gd.length c, .int .i64 ge, .slice A' gx.length c'] 25)) 25 [.slice A2 xd.length c2, .int .i64 xe, .slice A2' xx.length c2']).alloc (.cells #[.slice none 0 0, .int .i64 0, .slice none 0 0] 25)
  have kr := Blk.fresh ((w.alloc (.cells #[.slice A gd.length c, .int .i64 ge, .slice A' gx.length c'] 25)).alloc (.cells #[.slice A2 xd.length c2, .int .i64 xe, .slice A2' xx.length c2'] 25)) 25 [.slice none 0 0, .int .i64 0, .slice none 0 0]
  simp only [World.size_alloc] at kx kr
  have KX := Lib.hid kx
  have KR := Lib.hid kr
  have HDE := Lib.hid hD
  have HEE := Lib.hid hE
  have HXE := Lib.hid hX
  have HER := Lib.hid he
  clear hb0 h h' kx kr hD hE hX he
  obtain ⟨mg, hmg⟩ : ∃ m, mayB gd ge gx = m := ⟨_, rfl⟩
  obtain ⟨mx, hmx⟩ : ∃ m, mayB xd xe xx = m := ⟨_, rfl⟩
  have HMG := Lib.hid hmg
  have HMX := Lib.hid hmx
  go_enter Try.func19, Try.ntmps19
  go_wp2_with fail
  generalize (((w.alloc (.cells #[.slice A gd.length c, .int .i64 ge, .slice A' gx.length c'] 25)).alloc (.cells #[.slice A2 xd.length c2, .int .i64 xe, .slice A2' xx.length c2'] 25)).alloc (.cells #[.slice none 0 0, .int .i64 0, .slice none 0 0] 25)) = w1 at TG TX BB KG KX KR ⊢
  have hM := tmay_any gd ge gx _ _ w1 B (Nat.le_trans hB BB.out.size) TG.out
  rw [hmg] at hM
  clear hmg
  refine hM.mono ?_
  rintro e w3 ⟨rfl, hb3⟩
  have hsb := BB.out.size
  have hs3 := hb3.size
  have TG := Lib.hid (TG.out.below (hb3.mono (by omega)))
  have TX := Lib.hid (TX.out.below (hb3.mono (by omega)))
  have BB := Lib.hid (BB.out.trans (hb3.mono (by omega)))
  have KG := Lib.hid (KG.out.below hb3 KG.out.lt)
  have KX := Lib.hid (KX.out.below hb3 KX.out.lt)
  have KR := Lib.hid (KR.out.below hb3 KR.out.lt)
  clear hM hb3
  obtain ⟨b, hb⟩ : ∃ b, w.heap.size = b := ⟨_, rfl⟩
  simp only [hb, Nat.add_assoc, Nat.reduceAdd] at KG KX KR ⊢
  have HBE := Lib.hid hb
  have s0 : w3.cell? ⟨b + 1, 0, none⟩ = some (.slice A2 xd.length c2) := KX.out.cell 0
  have s1 : w3.cell? ⟨b + 1, 1, none⟩ = some (.int .i64 xe) := KX.out.cell 1
  have s2 : w3.cell? ⟨b + 1, 2, none⟩ = some (.slice A2' xx.length c2') := KX.out.cell 2
  clear hb
  cases mg with
  | false =>
    have hne : backErr gd ge gx xd xe xx = 1 := by unfold backErr; rw [if_neg (fun h => by have := HMG.out; rw [h.1] at this; cases this)]
    have r0 : w3.cell? ⟨b + 2, 0, none⟩ = some (.slice none 0 0) := KR.out.cell 0
    have r1 : w3.cell? ⟨b + 2, 1, none⟩ = some (.int .i64 0) := KR.out.cell 1
    have r2 : w3.cell? ⟨b + 2, 2, none⟩ = some (.slice none 0 0) := KR.out.cell 2
    have f0 := KR.out.free 0
    have f1 := KR.out.free 1
    have f2 := KR.out.free 2
    have HNE := Lib.hid hne
    clear hne hmx
    go_wp2
    refine bodyPost_ret (v := .tuple #[.agg #[.slice none 0 0, .int .i64 0, .slice none 0 0], .int .i64 1]) (by simp [results, Try.results19, go_sem, r0, r1, r2]) rfl ?_
    exact back_no BB.out HBE.out KR.out.lt (by rw [← HDE.out, HNE.out]; rfl) (by rw [← HEE.out, HNE.out]; rfl) (by rw [← HXE.out, HNE.out]; rfl) (by rw [← HER.out, HNE.out]) _ _ _
  | true =>
    go_wp2_with fail
    clear s0 s1 s2
    have hM := tmay_any xd xe xx _ _ w3 B (by omega) TX.out
    rw [hmx] at hM
    clear hmx
    refine hM.mono ?_
    rintro e w4 ⟨rfl, hb4⟩
    have hs4 := hb4.size
    have TG := Lib.hid (TG.out.below (hb4.mono (by omega)))
    have TX := Lib.hid (TX.out.below (hb4.mono (by omega)))
    have BB := Lib.hid (BB.out.trans (hb4.mono (by omega)))
    have KG := Lib.hid (KG.out.below hb4 KG.out.lt)
    have KX := Lib.hid (KX.out.below hb4 KX.out.lt)
    have KR := Lib.hid (KR.out.below hb4 KR.out.lt)
    have s0 : w4.cell? ⟨b + 1, 0, none⟩ = some (.slice A2 xd.length c2) := KX.out.cell 0
    have s1 : w4.cell? ⟨b + 1, 1, none⟩ = some (.int .i64 xe) := KX.out.cell 1
    have s2 : w4.cell? ⟨b + 1, 2, none⟩ = some (.slice A2' xx.length c2') := KX.out.cell 2
    have t0 : w4.cell? ⟨b, 0, none⟩ = some (.slice A gd.length c) := KG.out.cell 0
    have t1 : w4.cell? ⟨b, 1, none⟩ = some (.int .i64 ge) := KG.out.cell 1
    have t2 : w4.cell? ⟨b, 2, none⟩ = some (.slice A' gx.length c') := KG.out.cell 2
    have r0 : w4.cell? ⟨b + 2, 0, none⟩ = some (.slice none 0 0) := KR.out.cell 0
    have r1 : w4.cell? ⟨b + 2, 1, none⟩ = some (.int .i64 0) := KR.out.cell 1
    have r2 : w4.cell? ⟨b + 2, 2, none⟩ = some (.slice none 0 0) := KR.out.cell 2
    have f0 := KR.out.free 0
    have f1 := KR.out.free 1
    have f2 := KR.out.free 2
    clear hM hb4
    cases mx with
    | false =>
      have hne : backErr gd ge gx xd xe xx = 1 := by unfold backErr; rw [if_neg (fun h => by have := HMX.out; rw [h.2] at this; cases this)]
      have HNE := Lib.hid hne
      clear hne
      go_wp2
      refine bodyPost_ret (v := .tuple #[.agg #[.slice none 0 0, .int .i64 0, .slice none 0 0], .int .i64 1]) (by simp [results, Try.results19, go_sem, r0, r1, r2]) rfl ?_
      exact back_no BB.out HBE.out KR.out.lt (by rw [← HDE.out, HNE.out]; rfl) (by rw [← HEE.out, HNE.out]; rfl) (by rw [← HXE.out, HNE.out]; rfl) (by rw [← HER.out, HNE.out]) _ _ _
    | true =>
      go_wp2_with fail
      obtain ⟨sm, hsm⟩ : ∃ m, (gd == xd) = m := ⟨_, rfl⟩
      have hS := same_any gd xd _ _ w4 _ _ TG.out.d TX.out.d
      rw [hsm] at hS
      have HSM := Lib.hid hsm
      clear hsm
      refine hS.mono ?_
      rintro e w5 hq
      obtain ⟨rfl, m, rfl⟩ := hq
      clear hS
      have s0 : (w4.drewN m).cell? ⟨b + 1, 0, none⟩ = some (.slice A2 xd.length c2) := s0
      have s1 : (w4.drewN m).cell? ⟨b + 1, 1, none⟩ = some (.int .i64 xe) := s1
      have s2 : (w4.drewN m).cell? ⟨b + 1, 2, none⟩ = some (.slice A2' xx.length c2') := s2
      have t0 : (w4.drewN m).cell? ⟨b, 0, none⟩ = some (.slice A gd.length c) := t0
      have t1 : (w4.drewN m).cell? ⟨b, 1, none⟩ = some (.int .i64 ge) := t1
      have t2 : (w4.drewN m).cell? ⟨b, 2, none⟩ = some (.slice A' gx.length c') := t2
      have r0 : (w4.drewN m).cell? ⟨b + 2, 0, none⟩ = some (.slice none 0 0) := r0
      have r1 : (w4.drewN m).cell? ⟨b + 2, 1, none⟩ = some (.int .i64 0) := r1
      have r2 : (w4.drewN m).cell? ⟨b + 2, 2, none⟩ = some (.slice none 0 0) := r2
      have f0 : (w4.drewN m).frozen? ⟨b + 2, 0, none⟩ = false := f0
      have f1 : (w4.drewN m).frozen? ⟨b + 2, 1, none⟩ = false := f1
      have f2 : (w4.drewN m).frozen? ⟨b + 2, 2, none⟩ = false := f2
      have TG : Hid (IsT (w4.drewN m) B _ _ _ _ _) := Lib.hid (TG.out.below (below_drewN (Below.refl _ _) _))
      have TX : Hid (IsT (w4.drewN m) B _ _ _ _ _) := Lib.hid (TX.out.below (below_drewN (Below.refl _ _) _))
      have BB := Lib.hid (below_drewN BB.out m)
      have KG := Lib.hid (KG.out.drewN m)
      have KX := Lib.hid (KX.out.drewN m)
      have KR := Lib.hid (KR.out.drewN m)
      have hs5 : w4.heap.size = (w4.drewN m).heap.size := rfl
      generalize w4.drewN m = w6 at *
      cases sm with
      | false =>
        have hne : backErr gd ge gx xd xe xx = 2 := by unfold backErr; rw [if_pos ⟨HMG.out, HMX.out⟩, if_neg (by have := HSM.out; simpa using this)]
        have HNE := Lib.hid hne
        clear hne
        go_wp2
        refine bodyPost_ret (v := .tuple #[.agg #[.slice none 0 0, .int .i64 0, .slice none 0 0], .int .i64 2]) (by simp [results, Try.results19, go_sem, r0, r1, r2]) rfl ?_
        exact back_no BB.out HBE.out KR.out.lt (by rw [← HDE.out, HNE.out]; rfl) (by rw [← HEE.out, HNE.out]; rfl) (by rw [← HXE.out, HNE.out]; rfl) (by rw [← HER.out, HNE.out]) _ _ _
      | true =>
        have hdd : gd = xd := by have := HSM.out; simpa using this
        have hne : backErr gd ge gx xd xe xx = 0 := by unfold backErr; rw [if_pos ⟨HMG.out, HMX.out⟩, if_pos hdd]
        have hlen : gx.length = xx.length := by
          have h1 := may_len HMG.out
          have h2 := may_len HMX.out
          rw [hdd] at h1
          omega
        have hl1 := may_len HMG.out
        have hl2 := sizeI_bound gd
        have hl3 := may_dims HMG.out
        have HL := Lib.hid (likeb_any gd ge gx _ _ (.pointer (some ⟨b + 1, 0, none⟩)) (.pointer (some ⟨b, 0, none⟩)) (slopeI gx xx) w6 B (by omega) TG.out (slope_length gx xx hlen) (by
          intro y hy
          rcases slope_mem gx xx y hy with h | h
          · omega
          · exact TG.out.xb.out y h) (by omega) (by omega) (hands_back w6 B (b + 1) b xx gx A2' A' c2' c' _ _ xe ge (by omega) KX.out TX.out.x KG.out TG.out.x hlen))
        have HDD := Lib.hid hdd
        have HNE := Lib.hid hne
        have hsl := slope_length gx xx hlen
        have HSL := Lib.hid hsl
        have HLEN := Lib.hid hlen
        clear hdd hne hl1 hl2 hl3 hsl hlen
        go_wp2_with fail
        refine HL.out.mono ?_
        rintro e5 w7 ⟨d5, x5, rfl, hd5, hx5, hb5⟩
        obtain ⟨Ad, cd, rfl⟩ := own_form hd5
        obtain ⟨Ax, cx, rfl⟩ := own_form hx5
        have m5 := KR.out.below hb5 KR.out.lt
        have x0 : w7.cell? ⟨b + 2, 0, none⟩ = some (.slice none 0 0) := m5.cell 0
        have x1 : w7.cell? ⟨b + 2, 1, none⟩ = some (.int .i64 0) := m5.cell 1
        have x2 : w7.cell? ⟨b + 2, 2, none⟩ = some (.slice none 0 0) := m5.cell 2
        have y0 := m5.free 0
        have y1 := m5.free 1
        have y2 := m5.free 2
        have HD5 := Lib.hid hd5
        have HX5 := Lib.hid hx5
        have HB5 := Lib.hid hb5
        clear hd5 hx5 hb5 m5
        go_wp2
        refine bodyPost_ret (v := .tuple #[.agg #[.slice Ad gd.length cd, .int .i64 ge, .slice Ax (slopeI gx xx).length cx], .int .i64 0]) (by simp [results, Try.results19, go_sem, x0, x1, x2]) rfl ?_
        have hl := KR.out.lt
        have hbe := HBE.out
        have hoff := off_set3 w7 (b + 2) (.slice Ad gd.length cd) (.int .i64 ge) (.slice Ax (slopeI gx xx).length cx)
        have i6 := own_off HD5.out hoff (fun k hk he => by have := (HD5.out.lt k hk).1; omega)
        have i7 := own_off HX5.out hoff (fun k hk he => by have := (HX5.out.lt k hk).1; omega)
        have e1 : gd = D := by have := HDE.out; rwa [if_pos HNE.out] at this
        have e2 : ge = E := by have := HEE.out; rwa [if_pos HNE.out] at this
        have e3 : slopeI gx xx = X := by have := HXE.out; rwa [if_pos HNE.out] at this
        have e4 : err = 0 := by rw [← HER.out]; exact HNE.out
        rw [← e1, ← e2, ← e3, e4]
        refine ⟨_, _, _, _, rfl, ⟨Reads.of_own i6, Reads.of_own i7, TG.out.db, Lib.hid ?_, TG.out.e0, TG.out.e1⟩, ?_⟩
        · intro y hy
          rcases slope_mem gx xx y hy with h | h
          · omega
          · exact TG.out.xb.out y h
        · exact (BB.out.trans (HB5.out.mono (by have := BB.out.size; omega))).trans (hoff.below (by have := BB.out.size; have := HB5.out.size; omega) (fun i hi => by omega))
end Go.Proofs.Ythdahnjghpiheaa
