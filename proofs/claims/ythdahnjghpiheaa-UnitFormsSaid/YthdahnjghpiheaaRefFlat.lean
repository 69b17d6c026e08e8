/- Contract of the reference's Flat. -/
import Derived.Test.YthdahnjghpiheaaRefShape2
namespace Go.Proofs.Ythdahnjghpiheaa
open Go.RowKit
set_option linter.unusedVariables false

set_option maxHeartbeats 8000000 in
set_option maxRecDepth 100000 in
theorem rflat_any (dims : List Int) (exp : Int) (data : List Int) (dv xv : Value) (w : World) (B : Nat) (hB : B ≤ w.heap.size) (D : List Int) (E : Int) (X : List Int) (err : Int)
    (h : IsT w B dv xv dims exp data) (hD : shapeD dims exp data (flatD dims) = D) (hE : shapeE dims exp data (flatD dims) = E) (hX : shapeX dims exp data (flatD dims) = X) (he : flatErr dims exp data = err) :
    Calls Try.prog 25 #[.agg #[dv, .int .i64 exp, xv]] w (FormO w D E X err) := by
  obtain ⟨A, c, rfl, _, _⟩ := h.d.form
  obtain ⟨A', c', rfl, _, _⟩ := h.x.form
  simp only [length_ints] at *
  have hb0 := two_alloc0 w (.cells #[.slice A dims.length c, .int .i64 exp, .slice A' data.length c'] 25) (.cells #[.slice none 0 0, .int .i64 0, .slice none 0 0] 25)
  have TX := Lib.hid (h.below (hb0.mono hB))
  have BB := Lib.hid hb0
  have KX := Lib.hid ((Blk.fresh w 25 [.slice A dims.length c, .int .i64 exp, .slice A' data.length c']).alloc (.cells #[.slice none 0 0, .int .i64 0, .slice none 0 0] 25))
  have kr := Blk.fresh (w.alloc (.cells #[.slice A dims.length c, .int .i64 exp, .slice A' data.length c'] 25)) 25 [.slice none 0 0, .int .i64 0, .slice none 0 0]
  rw [World.size_alloc] at kr
  have KR := Lib.hid kr
  have HDE := Lib.hid hD
  have HEE := Lib.hid hE
  have HXE := Lib.hid hX
  have HER := Lib.hid he
  have hsz1 : ((w.alloc (.cells #[.slice A dims.length c, .int .i64 exp, .slice A' data.length c'] 25)).alloc (.cells #[.slice none 0 0, .int .i64 0, .slice none 0 0] 25)).heap.size = w.heap.size + 1 + 1 := by simp only [World.size_alloc]
  clear h hb0 kr hD hE hX he
  obtain ⟨mx, hmx⟩ : ∃ m, mayB dims exp data = m := ⟨_, rfl⟩
  have HMX := Lib.hid hmx
  go_enter Try.func25, Try.ntmps25
  go_wp2_with fail
  generalize ((w.alloc (.cells #[.slice A dims.length c, .int .i64 exp, .slice A' data.length c'] 25)).alloc (.cells #[.slice none 0 0, .int .i64 0, .slice none 0 0] 25)) = w1 at TX BB KX KR hsz1 ⊢
  have hsb := BB.out.size
  have hal : Below w1.heap.size w1 (w1.alloc (.cells #[.slice A dims.length c, .int .i64 exp, .slice A' data.length c'] 25)) := (Below.refl _ _).alloc (Nat.le_refl _) _
  have hM := may1t_any dims exp data _ _ (w1.alloc (.cells #[.slice A dims.length c, .int .i64 exp, .slice A' data.length c'] 25)) B (w.heap.size + 1 + 1) (by simp; omega) (TX.out.below (hal.mono (by omega))) (hsz1 ▸ Blk.fresh w1 25 [.slice A dims.length c, .int .i64 exp, .slice A' data.length c'])
  rw [hmx] at hM
  clear hmx
  refine hM.mono ?_
  rintro e w4 ⟨rfl, hb4'⟩
  have hb4 := hal.trans (hb4'.mono (by simp))
  have hs4 := hb4.size
  have TX := Lib.hid (TX.out.below (hb4.mono (by omega)))
  have BB := Lib.hid (BB.out.trans (hb4.mono (by omega)))
  have KX := Lib.hid (KX.out.below hb4 KX.out.lt)
  have KR := Lib.hid (KR.out.below hb4 KR.out.lt)
  clear hM hb4 hb4' hal hsz1
  obtain ⟨b, hb⟩ : ∃ b, w.heap.size = b := ⟨_, rfl⟩
  simp only [hb] at KX KR ⊢
  have HBE := Lib.hid hb
  clear hb
  have s2 : w4.cell? ⟨b, 2, none⟩ = some (.slice A' data.length c') := KX.out.cell 2
  have r0 : w4.cell? ⟨b + 1, 0, none⟩ = some (.slice none 0 0) := KR.out.cell 0
  have r1 : w4.cell? ⟨b + 1, 1, none⟩ = some (.int .i64 0) := KR.out.cell 1
  have r2 : w4.cell? ⟨b + 1, 2, none⟩ = some (.slice none 0 0) := KR.out.cell 2
  have f0 := KR.out.free 0
  have f1 := KR.out.free 1
  have f2 := KR.out.free 2
  cases mx with
  | false =>
    have hne : shapeErr dims exp data (flatD dims) = 1 := by unfold shapeErr; rw [if_neg (fun h => by have := HMX.out; rw [h.1] at this; cases this)]
    have HNE := Lib.hid hne
    clear hne
    go_wp2
    refine bodyPost_ret (v := .tuple #[.agg #[.slice none 0 0, .int .i64 0, .slice none 0 0], .int .i64 1]) (by simp [results, Try.results25, go_sem, r0, r1, r2]) rfl ?_
    exact back_noO 1 BB.out HBE.out KR.out.lt (by rw [← HDE.out]; unfold shapeD; rw [HNE.out]; rfl) (by rw [← HEE.out]; unfold shapeE; rw [HNE.out]; rfl) (by rw [← HXE.out]; unfold shapeX; rw [HNE.out]; rfl) (by rw [← HER.out]; unfold flatErr; rw [HNE.out]) _ _ _
  | true =>
    have hpe := HMX.out
    have hlen := may_len hpe
    have hpos : 0 < sizeI dims := by
      unfold mayB at hpe
      simp only [Bool.and_eq_true, decide_eq_true_eq, beq_iff_eq] at hpe
      exact hpe.1
    obtain ⟨x, xs, hxd, hx1, hx2, m, hm1, hsz, hdv⟩ := flat_head hpos
    have hsb := sizeI_bound dims
    have hdl : 1 ≤ dims.length := by rw [hxd]; simp
    have hd0 : dims[0]? = some x := by rw [hxd]; rfl
    have hfd : flatD dims = [x, m] := by unfold flatD; rw [hdv.symm]; rw [hxd]; rfl
    have hm8 : m ≤ 8192 := by
      have h1 := hdv ▸ Int.ediv_le_self x hsb.1
      omega
    have hq : IntKind.i64.wrap ((data.length : Int).tdiv x) = m := by
      rw [hlen, Int.tdiv_eq_ediv_of_nonneg hsb.1, hdv]
      exact IntWalk.i64_in _ (by omega)
    have hq' : (data.length : Int) / x = m := by rw [hlen, hdv]
    have hdat : data.length ≤ 8192 := by omega
    obtain ⟨AA, n1, cc, hva, hn, hcc, hmm, ha⟩ := TX.out.d
    injection hva with q1 q2 q3
    subst q1 q2 q3
    obtain ⟨g, o, rfl, hg, hx⟩ := ha.out (by omega)
    have z0 : w4.cell? ⟨g, o, none⟩ = some (.int .i64 x) := by
      have := hx 0 (.int .i64 x) (by simp [ints, hd0])
      simpa using this
    have hgs : g < w4.heap.size := by omega
    have s0 : w4.cell? ⟨b, 0, none⟩ = some (.slice (some ⟨g, o, none⟩) dims.length c) := KX.out.cell 0
    have HFD := Lib.hid hfd
    have HQ := Lib.hid hq
    have HQ2 := Lib.hid hq'
    have hne0 : ¬ x = 0 := by omega
    clear hpe hlen hpos hsz hdv hsb hd0 hfd hq hq' hx ha hxd hn hcc hmm
    generalize dims.length = n at *
    have i0 : (0 : Int) < (n : Int) := by omega
    have i0' : 0 < n := by omega
    have hbs : b < w4.heap.size := KX.out.lt
    go_upto_region 3 with fail
    go_region
    have hw : wrap64 ((data.length : Int) / x) = m := by rw [HQ2.out]; exact IntWalk.wrap64_in _ (by omega)
    rw [hw]
    have kd : Blk ((w4.alloc (.cells #[.int .i64 x, .int .i64 m] 3)).drew) w4.heap.size 3 (ints .i64 (flatD dims)) := by
      rw [HFD.out]
      exact (Blk.fresh w4 3 [.int .i64 x, .int .i64 m]).drew
    have hb5 : Below w4.heap.size w4 ((w4.alloc (.cells #[.int .i64 x, .int .i64 m] 3)).drew) := ((Below.refl _ _).alloc (Nat.le_refl _) _).drew
    generalize ((w4.alloc (.cells #[.int .i64 x, .int .i64 m] 3)).drew) = w5 at kd hb5 ⊢
    have hs5 := hb5.size
    have KD := Lib.hid kd
    have HB5 := Lib.hid hb5
    have TX := Lib.hid (TX.out.below (hb5.mono (by omega)))
    have BB5 := Lib.hid (BB.out.trans (hb5.mono (by omega)))
    have KX := Lib.hid (KX.out.below hb5 KX.out.lt)
    have KR5 := Lib.hid (KR.out.below hb5 KR.out.lt)
    have hfb : ∀ y ∈ flatD dims, -9223372036854775808 ≤ y ∧ y ≤ 9223372036854775807 := by
      rw [HFD.out]; intro y hy; simp at hy; omega
    have hMD := maydims_any (flatD dims) _ w5 _ (Blk.isInts (flatD dims) kd (by show 2 ≤ maxLen; unfold maxLen; omega)) hfb
    have HFB := Lib.hid hfb
    have hp0 := flat_size (dims := dims)
    have hpos : 0 < sizeI dims := by
      have hpe := HMX.out
      unfold mayB at hpe
      simp only [Bool.and_eq_true, decide_eq_true_eq, beq_iff_eq] at hpe
      exact hpe.1
    have hp1 := hp0 hpos
    have hlen := may_len HMX.out
    have r0 : w5.cell? ⟨b + 1, 0, none⟩ = some (.slice none 0 0) := KR5.out.cell 0
    have r1 : w5.cell? ⟨b + 1, 1, none⟩ = some (.int .i64 0) := KR5.out.cell 1
    have r2 : w5.cell? ⟨b + 1, 2, none⟩ = some (.slice none 0 0) := KR5.out.cell 2
    have f0 := KR5.out.free 0
    have f1 := KR5.out.free 1
    have f2 := KR5.out.free 2
    by_cases hp : 0 < sizeI (flatD dims)
    · have t1 : decide (0 < sizeI (flatD dims)) = true := by simpa using hp
      rw [t1] at hMD
      have HMD := Lib.hid hMD
      have hne : shapeErr dims exp data (flatD dims) = 0 := by unfold shapeErr; rw [if_pos ⟨HMX.out, hp⟩, if_pos (by omega)]
      have e1 : flatD dims = D := by have := HDE.out; unfold shapeD at this; rwa [if_pos hne] at this
      have e2 : exp = E := by have := HEE.out; unfold shapeE at this; rwa [if_pos hne] at this
      have e3 : data = X := by have := HXE.out; unfold shapeX at this; rwa [if_pos hne] at this
      have e4 : err = 0 := by have := HER.out; unfold flatErr at this; rw [hne] at this; exact this.symm
      have E1 := Lib.hid e1
      have E2 := Lib.hid e2
      have E3 := Lib.hid e3
      have E4 := Lib.hid e4
      have hn0 : ¬ b = b + 1 := by omega
      have dd1 : w5.drew.cell? ⟨b, 1, none⟩ = some (.int .i64 exp) := KX.out.cell 1
      have dd2 : w5.drew.cell? ⟨b, 2, none⟩ = some (.slice A' data.length c') := KX.out.cell 2
      have hBW : B ≤ w5.heap.size := by omega
      have hwle : w5.heap.size ≤ w5.drew.heap.size := Nat.le_refl _
      clear hMD t1 hp hp0 hp1 hne e1 e2 e3 e4 hw kd hb5 hfb hlen hpos r0 r1 r2 f0 f1 f2 s2 s0 z0
      go_wp2_with fail
      refine HMD.out.mono ?_
      rintro en w' ⟨rfl, rfl⟩
      go_upto_region 6 with fail
      refine wp_region_held_drew (S := (fun w' => w'.cell? ⟨b, 1, none⟩ = some (.int .i64 exp) ∧ w'.cell? ⟨b, 2, none⟩ = some (.slice A' data.length c'))) (by kernel_rfl) ⟨dd1, dd2⟩ (fun hHeld => ?_)
      refine' wpAnyH_take (i := 0) (v := _) rfl (by kernel_rfl) (by kernel_rfl) (by kernel_rfl) (fun _ _ _ h => h) (Or.inl ⟨by rfl, ?tct0⟩) (by assumption) ?tdt0
      case tct0 =>
        intro wS hSw
        (try dsimp only at hSw)
        go_simp
        (try (with_reducible rfl))
      (try simp only [List.getElem_toArray, List.getElem_cons_zero, Act.put, List.setIfInBounds_toArray, List.set_cons_zero, List.set_cons_succ])
      refine' wpAnyH_take (i := 1) (v := _) rfl (by kernel_rfl) (by kernel_rfl) (by kernel_rfl) (fun _ _ _ h => h) (Or.inl ⟨by rfl, ?tct1⟩) (by assumption) ?tdt1
      case tct1 =>
        intro wS hSw
        (try dsimp only at hSw)
        go_simp
        (try (with_reducible rfl))
      (try simp only [List.getElem_toArray, List.getElem_cons_zero, List.getElem_cons_succ, Act.put, List.setIfInBounds_toArray, List.set_cons_zero, List.set_cons_succ])
      refine' wpAnyH_take (i := 2) (v := _) rfl (by kernel_rfl) (by kernel_rfl) (by kernel_rfl) (fun _ _ _ h => h) (Or.inl ⟨by rfl, ?tct2⟩) (by assumption) ?tdt2
      case tct2 =>
        intro wS hSw
        (try dsimp only at hSw)
        go_simp
        (try (with_reducible rfl))
      (try simp only [List.getElem_toArray, List.getElem_cons_zero, List.getElem_cons_succ, Act.put, List.setIfInBounds_toArray, List.set_cons_zero, List.set_cons_succ])
      refine' wpAnyH_take (i := 3) (v := _) rfl (by kernel_rfl) (by kernel_rfl) (by kernel_rfl) (fun _ _ _ h => h) (Or.inl ⟨by rfl, ?tct3⟩) (by assumption) ?tdt3
      case tct3 =>
        intro wS hSw
        (try dsimp only at hSw)
        go_simp
        (try (with_reducible rfl))
      (try simp only [List.getElem_toArray, List.getElem_cons_zero, List.getElem_cons_succ, Act.put, List.setIfInBounds_toArray, List.set_cons_zero, List.set_cons_succ])
      refine' wpAnyH_take (i := 4) (v := _) rfl (by kernel_rfl) (by kernel_rfl) (by kernel_rfl) (fun _ _ _ h => h) (Or.inl ⟨by rfl, ?tct4⟩) (by assumption) ?tdt4
      case tct4 =>
        intro wS hSw
        (try dsimp only at hSw)
        go_simp
        (try (with_reducible rfl))
      (try simp only [List.getElem_toArray, List.getElem_cons_zero, List.getElem_cons_succ, Act.put, List.setIfInBounds_toArray, List.set_cons_zero, List.set_cons_succ])
      refine wpAnyH_ready (rs := [5]) (by kernel_rfl) (by simp) ?_
      refine AllReadyH.cons rfl (fun K9 hK9 => ?_) AllReadyH.nil
      (try simp only [List.getElem_toArray, List.getElem_cons_zero, List.getElem_cons_succ])
      rw [if_pos (by rfl)]
      refine wp_extend elem_i8 w5.drew _ _ (by rfl) w5.heap.size 0 (.slice none 0 0) [] (by rfl) (World.ownsRow_nil _ _ _ _) B _ (ints .i8 data) (by rfl) TX.out.x.drew (ints_one _ _) (by rw [length_ints]; unfold maxLen; omega) (by rw [length_ints]; omega) hwle ?_
      intro A8 c8 w8 hown8 hgrow8 hfr8
      have hbw8 : Below w5.heap.size w5 w8 := ((Below.refl w5.heap.size w5).drew).trans ((Below.refl w5.drew.heap.size w5.drew).grown hgrow8 (Nat.le_refl _) (fun k hk => by cases hk))
      rw [Nat.zero_add, List.nil_append, length_ints] at hown8
      have HO8 := Lib.hid hown8
      have KX8 := KX.out.below hbw8 KX.out.lt
      have KR8 := KR5.out.below hbw8 KR5.out.lt
      have KD8 := Lib.hid (KD.out.below hbw8 KD.out.lt)
      have p1 : w8.cell? ⟨b, 1, none⟩ = some (.int .i64 exp) := KX8.cell 1
      have p2 : w8.cell? ⟨b, 2, none⟩ = some (.slice A' data.length c') := KX8.cell 2
      have x0 : w8.cell? ⟨b + 1, 0, none⟩ = some (.slice none 0 0) := KR8.cell 0
      have x1 : w8.cell? ⟨b + 1, 1, none⟩ = some (.int .i64 0) := KR8.cell 1
      have x2 : w8.cell? ⟨b + 1, 2, none⟩ = some (.slice none 0 0) := KR8.cell 2
      have y0 := KR8.free 0
      have y1 := KR8.free 1
      have y2 := KR8.free 2
      have q1 := Lib.hid (fun (u0 u1 u2 : Value) => ((off_set3 w8 (b + 1) u0 u1 u2).cell (p := ⟨b, 1, none⟩) KX8.lt hn0).trans p1)
      have q2 := Lib.hid (fun (u0 u1 u2 : Value) => ((off_set3 w8 (b + 1) u0 u1 u2).cell (p := ⟨b, 2, none⟩) KX8.lt hn0).trans p2)
      have HB8 := Lib.hid hbw8
      clear KX8 KR8 hbw8 hown8 hgrow8 hfr8
      rw [Nat.zero_add, length_ints]
      refine hK9.out _ _ ⟨p1, p2⟩ (fun hHeld9 => ?_)
      clear hK9 K9
      (try simp only [Act.put, List.setIfInBounds_toArray, List.set_cons_zero, List.set_cons_succ])
      refine' wpAnyH_take (i := 6) (v := _) rfl (by kernel_rfl) (by kernel_rfl) (by kernel_rfl) (fun _ _ _ h => h) (Or.inl ⟨by rfl, ?tcg⟩) (by assumption) ?tdg
      case tcg =>
        intro wS hSw
        (try dsimp only at hSw)
        go_simp
        (try (with_reducible rfl))
      (try simp only [List.getElem_toArray, List.getElem_cons_zero, List.getElem_cons_succ, Act.put, List.setIfInBounds_toArray, List.set_cons_zero, List.set_cons_succ])
      refine wpAnyH_ready (rs := [7]) (by kernel_rfl) (by simp) ?_
      refine AllReadyH.cons rfl (fun K9 hK9 => ?_) AllReadyH.nil
      (try simp only [List.getElem_toArray, List.getElem_cons_zero, List.getElem_cons_succ])
      go_simp
      refine hK9.out _ _ ⟨q1.out _ _ _, q2.out _ _ _⟩ (fun hHeld9 => ?_)
      clear hK9 K9
      (try simp only [List.getElem_toArray, List.getElem_cons_zero, List.getElem_cons_succ, Act.put, List.setIfInBounds_toArray, List.set_cons_zero, List.set_cons_succ])
      refine' wpAnyH_take (i := 8) (v := _) rfl (by kernel_rfl) (by kernel_rfl) (by kernel_rfl) (fun _ _ _ h => h) (Or.inl ⟨by rfl, ?tch⟩) (by assumption) ?tdh
      case tch =>
        intro wS hSw
        (try dsimp only at hSw)
        go_simp
        (try (with_reducible rfl))
      (try simp only [List.getElem_toArray, List.getElem_cons_zero, List.getElem_cons_succ, Act.put, List.setIfInBounds_toArray, List.set_cons_zero, List.set_cons_succ])
      refine wpAnyH_done (by kernel_rfl) ?_ _
      go_wp2
      refine bodyPost_ret (v := .tuple #[.agg #[.slice (some ⟨w4.heap.size, 0, none⟩) 2 2, .int .i64 exp, .slice A8 data.length c8], .int .i64 0]) (by simp [results, Try.results25, go_sem, x0, x1, x2]) rfl ?_
      rw [← E1.out, ← E2.out, ← E3.out, E4.out]
      exact shape_fin (d := flatD dims) BB.out HBE.out KR.out.lt (HB5.out.trans (HB8.out.mono HB5.out.size)) (KD8.out.ownAll (n := 2) (Nat.le_refl _) (by unfold maxLen; omega) (by rw [length_ints]; rfl)) (own_lower HO8.out HB5.out.size) HFB TX.out.xb TX.out.e0 TX.out.e1 _ _ _
    · have t1 : decide (0 < sizeI (flatD dims)) = false := by simpa using hp
      rw [t1] at hMD
      have HMD := Lib.hid hMD
      have hne : shapeErr dims exp data (flatD dims) = 1 := by unfold shapeErr; rw [if_neg (fun h => hp h.2)]
      have HNE := Lib.hid hne
      clear hMD t1 hp hp0 hp1 hne hw kd hb5 hfb hlen hpos s2 s0 z0
      go_wp2_with fail
      refine HMD.out.mono ?_
      rintro en w' ⟨rfl, rfl⟩
      go_wp2
      refine bodyPost_ret (v := .tuple #[.agg #[.slice none 0 0, .int .i64 0, .slice none 0 0], .int .i64 1]) (by simp [results, Try.results25, go_sem, r0, r1, r2]) rfl ?_
      exact back_noO 1 BB5.out HBE.out KR5.out.lt (by rw [← HDE.out]; unfold shapeD; rw [HNE.out]; rfl) (by rw [← HEE.out]; unfold shapeE; rw [HNE.out]; rfl) (by rw [← HXE.out]; unfold shapeX; rw [HNE.out]; rfl) (by rw [← HER.out]; unfold flatErr; rw [HNE.out]) _ _ _
end Go.Proofs.Ythdahnjghpiheaa
