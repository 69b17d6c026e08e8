/- Contract of the reference's Shape. -/
import Derived.Test.YthdahnjghpiheaaRefBack
namespace Go.Proofs.Ythdahnjghpiheaa
open Go.RowKit
set_option linter.unusedVariables false

theorem own_bel3 {w w' : World} {base n : Nat} {e : TypeId} {sz : Nat} {v : Value} {xs : List Value} (h : w.ownsRow base e sz v n xs) (hb : Below w.heap.size w w') : w'.ownsRow base e sz v n xs :=
  own_off h (Off.of_below (S := fun _ => False) hb (fun i h => .inr h)) (fun _ _ h => h)
theorem shape_fin {w w6 w8 : World} {b : Nat} {d : List Int} {exp : Int} {data : List Int} {A A' : Option Addr} {c c' : Nat} (hB : Below w.heap.size w w6) (hbe : w.heap.size = b) (hk : b + 1 < w6.heap.size) (hb : Below w6.heap.size w6 w8)
    (od : w8.ownsRow w6.heap.size 3 1 (.slice A d.length c) d.length (ints .i64 d)) (ox : w8.ownsRow w6.heap.size 34 1 (.slice A' data.length c') data.length (ints .i8 data))
    (db : Hid (∀ x ∈ d, -9223372036854775808 ≤ x ∧ x ≤ 9223372036854775807)) (xb : Hid (∀ x ∈ data, -128 ≤ x ∧ x ≤ 127)) (e0 : -9223372036854775808 ≤ exp) (e1 : exp ≤ 9223372036854775807) (u0 u1 u2 : Value) :
    FormO w d exp data 0 (.returned (.tuple #[.agg #[.slice A d.length c, .int .i64 exp, .slice A' data.length c'], .int .i64 0])) (((w8.setCell ⟨b + 1, 0, none⟩ u0).setCell ⟨b + 1, 1, none⟩ u1).setCell ⟨b + 1, 2, none⟩ u2) := by
  have hoff := off_set3 w8 (b + 1) u0 u1 u2
  have i6 := own_off od hoff (fun k hk he => by have := (od.lt k hk).1; omega)
  have i7 := own_off ox hoff (fun k hk he => by have := (ox.lt k hk).1; omega)
  have hs := hB.size
  have hs8 := hb.size
  exact ⟨A, c, A', c', rfl, ⟨Reads.of_own i6, Reads.of_own i7, db, xb, e0, e1⟩, (hB.trans (hb.mono hs)).trans (hoff.below (by omega) (fun i hi => by omega)), own_lower i6 hs, own_lower i7 hs⟩

set_option maxHeartbeats 8000000 in
set_option maxRecDepth 100000 in
theorem rshape_any (dims : List Int) (exp : Int) (data : List Int) (dv xv : Value) (d : List Int) (v : Value) (w : World) (B : Nat) (hB : B ≤ w.heap.size) (D : List Int) (E : Int) (X : List Int) (err : Int)
    (h : IsT w B dv xv dims exp data) (hd : Reads w B v (ints .i64 d)) (hdb : ∀ x ∈ d, -9223372036854775808 ≤ x ∧ x ≤ 9223372036854775807) (hD : shapeD dims exp data d = D) (hE : shapeE dims exp data d = E) (hX : shapeX dims exp data d = X) (he : shapeErr dims exp data d = err) :
    Calls Try.prog 26 #[.agg #[dv, .int .i64 exp, xv], v] w (FormO w D E X err) := by
  obtain ⟨A, c, rfl, _, _⟩ := h.d.form
  obtain ⟨A', c', rfl, _, _⟩ := h.x.form
  obtain ⟨Ad, cd, rfl, _, _⟩ := hd.form
  simp only [length_ints] at *
  have hb0 := two_alloc0 w (.cells #[.slice A dims.length c, .int .i64 exp, .slice A' data.length c'] 25) (.cells #[.slice none 0 0, .int .i64 0, .slice none 0 0] 25)
  have TX := Lib.hid (h.below (hb0.mono hB))
  have TD := Lib.hid (hd.below (hb0.mono hB))
  have BB := Lib.hid hb0
  have KX := Lib.hid ((Blk.fresh w 25 [.slice A dims.length c, .int .i64 exp, .slice A' data.length c']).alloc (.cells #[.slice none 0 0, .int .i64 0, .slice none 0 0] 25))
  have kr := Blk.fresh (w.alloc (.cells #[.slice A dims.length c, .int .i64 exp, .slice A' data.length c'] 25)) 25 [.slice none 0 0, .int .i64 0, .slice none 0 0]
  rw [World.size_alloc] at kr
  have KR := Lib.hid kr
  have HDE := Lib.hid hD
  have HEE := Lib.hid hE
  have HXE := Lib.hid hX
  have HER := Lib.hid he
  have HDB := Lib.hid hdb
  have hsz1 : ((w.alloc (.cells #[.slice A dims.length c, .int .i64 exp, .slice A' data.length c'] 25)).alloc (.cells #[.slice none 0 0, .int .i64 0, .slice none 0 0] 25)).heap.size = w.heap.size + 1 + 1 := by simp only [World.size_alloc]
  clear h hd hb0 kr hD hE hX he hdb
  obtain ⟨mx, hmx⟩ : ∃ m, mayB dims exp data = m := ⟨_, rfl⟩
  have HMX := Lib.hid hmx
  go_enter Try.func26, Try.ntmps26
  go_wp2_with fail
  generalize ((w.alloc (.cells #[.slice A dims.length c, .int .i64 exp, .slice A' data.length c'] 25)).alloc (.cells #[.slice none 0 0, .int .i64 0, .slice none 0 0] 25)) = w1 at TX TD BB KX KR hsz1 ⊢
  have hsb := BB.out.size
  have hal : Below w1.heap.size w1 (w1.alloc (.cells #[.slice A dims.length c, .int .i64 exp, .slice A' data.length c'] 25)) := (Below.refl _ _).alloc (Nat.le_refl _) _
  have hM := may1t_any dims exp data _ _ (w1.alloc (.cells #[.slice A dims.length c, .int .i64 exp, .slice A' data.length c'] 25)) B (w.heap.size + 1 + 1) (by simp; omega) (TX.out.below (hal.mono (by omega))) (hsz1 ▸ Blk.fresh w1 25 [.slice A dims.length c, .int .i64 exp, .slice A' data.length c'])
  rw [hmx] at hM
  clear hmx
  refine hM.mono ?_
  rintro e w4 ⟨rfl, hb4'⟩
  have hb4 := hal.trans (hb4'.mono (by simp))
  have hs4 := hb4.size
  have TX := Lib.hid (TX.out.below (hb4.mono (by omega)))
  have TD := Lib.hid (TD.out.below (hb4.mono (by omega)))
  have BB := Lib.hid (BB.out.trans (hb4.mono (by omega)))
  have KX := Lib.hid (KX.out.below hb4 KX.out.lt)
  have KR := Lib.hid (KR.out.below hb4 KR.out.lt)
  clear hM hb4 hb4' hal hsz1
  obtain ⟨b, hb⟩ : ∃ b, w.heap.size = b := ⟨_, rfl⟩
  simp only [hb] at KX KR ⊢
  have HBE := Lib.hid hb
  clear hb
  have s2 : w4.cell? ⟨b, 2, none⟩ = some (.slice A' data.length c') := KX.out.cell 2
  have r0 : w4.cell? ⟨b + 1, 0, none⟩ = some (.slice none 0 0) := KR.out.cell 0
  have r1 : w4.cell? ⟨b + 1, 1, none⟩ = some (.int .i64 0) := KR.out.cell 1
  have r2 : w4.cell? ⟨b + 1, 2, none⟩ = some (.slice none 0 0) := KR.out.cell 2
  have f0 := KR.out.free 0
  have f1 := KR.out.free 1
  have f2 := KR.out.free 2
  have HMD : Hid (∀ W : World, Below B w4 W → Calls Try.prog 37 #[.slice Ad d.length cd] W fun en w' => en = .returned (.bool (decide (0 < sizeI d))) ∧ W = w') := Lib.hid (fun W hW => maydims_any d _ W B (TD.out.below hW) HDB.out)
  have HSZ : Hid (∀ W : World, Below B w4 W → Calls Try.prog 38 #[.slice Ad d.length cd] W fun en w' => en = .returned (.int .i64 (sizeI d)) ∧ W = w') := Lib.hid (fun W hW => r1size_any d _ W B (TD.out.below hW) HDB.out)
  have hsd := sizeI_bound d
  have hd4 : 0 < sizeI d → d.length ≤ 4 := by
    intro h
    unfold sizeI at h
    split at h
    · omega
    · omega
  cases mx with
  | false =>
    have hne : shapeErr dims exp data d = 1 := by unfold shapeErr; rw [if_neg (fun h => by have := HMX.out; rw [h.1] at this; cases this)]
    have HNE := Lib.hid hne
    clear hne hd4
    go_wp2
    refine bodyPost_ret (v := .tuple #[.agg #[.slice none 0 0, .int .i64 0, .slice none 0 0], .int .i64 1]) (by simp [results, Try.results26, go_sem, r0, r1, r2]) rfl ?_
    exact back_noO 1 BB.out HBE.out KR.out.lt (by rw [← HDE.out]; unfold shapeD; rw [HNE.out]; rfl) (by rw [← HEE.out]; unfold shapeE; rw [HNE.out]; rfl) (by rw [← HXE.out]; unfold shapeX; rw [HNE.out]; rfl) (by rw [← HER.out, HNE.out]) _ _ _
  | true =>
    by_cases hp : 0 < sizeI d
    · have t1 : decide (0 < sizeI d) = true := by simpa using hp
      have hdl := hd4 hp
      rw [t1] at HMD
      have HP := Lib.hid hp
      clear t1 hd4 hp
      go_wp2_with fail
      refine (HMD.out _ (Below.refl _ _)).mono ?_
      rintro e w5 ⟨rfl, rfl⟩
      by_cases hq : sizeI d = (data.length : Int)
      · have t3 : (sizeI d != (data.length : Int)) = false := by simpa using hq
        have hne : shapeErr dims exp data d = 0 := by unfold shapeErr; rw [if_pos ⟨HMX.out, HP.out⟩, if_pos hq]
        have HNE := Lib.hid hne
        have hdat : data.length ≤ 8192 := by omega
        have e1 : d = D := by have := HDE.out; unfold shapeD at this; rwa [if_pos hne] at this
        have e2 : exp = E := by have := HEE.out; unfold shapeE at this; rwa [if_pos hne] at this
        have e3 : data = X := by have := HXE.out; unfold shapeX at this; rwa [if_pos hne] at this
        have e4 : err = 0 := by rw [← HER.out]; exact hne
        have E1 := Lib.hid e1
        have E2 := Lib.hid e2
        have E3 := Lib.hid e3
        have E4 := Lib.hid e4
        clear hne hq e1 e2 e3 e4
        go_wp2_with fail
        go_quiet ((go_at_call 38; exact q_left (HSZ.out _ (below_drewN (Below.refl _ _) _))))
        have HI6 := Lib.hid (TX.out.below (below_drewN (Below.refl B w4) nq))
        have HD6 := Lib.hid (TD.out.below (below_drewN (Below.refl B w4) nq))
        have KX6 := Lib.hid (KX.out.drewN nq)
        have KR6 := Lib.hid (KR.out.drewN nq)
        have BB := Lib.hid (below_drewN BB.out nq)
        have hBW : B ≤ (w4.drewN nq).heap.size := by show B ≤ w4.heap.size; omega
        clear r0 r1 r2 f0 f1 f2 s2
        go_upto_region 5 with fail
        generalize w4.drewN nq = w6 at HI6 HD6 KX6 KR6 BB hBW ⊢
        have hn0 : ¬ b = b + 1 := by omega
        have dd1 : w6.drew.cell? ⟨b, 1, none⟩ = some (.int .i64 exp) := KX6.out.cell 1
        have dd2 : w6.drew.cell? ⟨b, 2, none⟩ = some (.slice A' data.length c') := KX6.out.cell 2
        clear KX KR TX TD HMD HSZ
        refine wp_region_held_drew (S := (fun w' => w'.cell? ⟨b, 1, none⟩ = some (.int .i64 exp) ∧ w'.cell? ⟨b, 2, none⟩ = some (.slice A' data.length c'))) (by kernel_rfl) ⟨dd1, dd2⟩ (fun hHeld => ?_)
        refine' wpAnyH_take (i := 0) (v := _) rfl (by kernel_rfl) (by kernel_rfl) (by kernel_rfl) (fun _ _ _ h => h) (Or.inl ⟨by rfl, ?tct0⟩) (by assumption) ?tdt0
        case tct0 =>
          intro wS hSw
          (try dsimp only at hSw)
          go_simp
          (try (with_reducible rfl))
        (try simp only [List.getElem_toArray, List.getElem_cons_zero, Act.put, List.setIfInBounds_toArray, List.set_cons_zero, List.set_cons_succ])
        refine' wpAnyH_take (i := 2) (v := _) rfl (by kernel_rfl) (by kernel_rfl) (by kernel_rfl) (fun _ _ _ h => h) (Or.inl ⟨by rfl, ?tct2⟩) (by assumption) ?tdt2
        case tct2 =>
          intro wS hSw
          (try dsimp only at hSw)
          go_simp
          (try (with_reducible rfl))
        (try simp only [List.getElem_toArray, List.getElem_cons_zero, List.getElem_cons_succ, Act.put, List.setIfInBounds_toArray, List.set_cons_zero, List.set_cons_succ])
        refine' wpAnyH_take (i := 3) (v := _) rfl (by kernel_rfl) (by kernel_rfl) (by kernel_rfl) (fun _ _ _ h => h) (Or.inl ⟨by rfl, ?tct3⟩) (by assumption) ?tdt3
        case tct3 =>
          intro wS hSw
          (try dsimp only at hSw)
          go_simp
          (try (with_reducible rfl))
        (try simp only [List.getElem_toArray, List.getElem_cons_zero, List.getElem_cons_succ, Act.put, List.setIfInBounds_toArray, List.set_cons_zero, List.set_cons_succ])
        refine' wpAnyH_take (i := 4) (v := _) rfl (by kernel_rfl) (by kernel_rfl) (by kernel_rfl) (fun _ _ _ h => h) (Or.inl ⟨by rfl, ?tct4⟩) (by assumption) ?tdt4
        case tct4 =>
          intro wS hSw
          (try dsimp only at hSw)
          go_simp
          (try (with_reducible rfl))
        (try simp only [List.getElem_toArray, List.getElem_cons_zero, List.getElem_cons_succ, Act.put, List.setIfInBounds_toArray, List.set_cons_zero, List.set_cons_succ])
        refine' wpAnyH_take (i := 5) (v := _) rfl (by kernel_rfl) (by kernel_rfl) (by kernel_rfl) (fun _ _ _ h => h) (Or.inl ⟨by rfl, ?tct5⟩) (by assumption) ?tdt5
        case tct5 =>
          intro wS hSw
          (try dsimp only at hSw)
          go_simp
          (try (with_reducible rfl))
        (try simp only [List.getElem_toArray, List.getElem_cons_zero, List.getElem_cons_succ, Act.put, List.setIfInBounds_toArray, List.set_cons_zero, List.set_cons_succ])
        refine wpAnyH_ready (rs := [1]) (by kernel_rfl) (by simp) ?_
        refine AllReadyH.cons rfl (fun K9 hK9 => ?_) AllReadyH.nil
        (try simp only [List.getElem_toArray, List.getElem_cons_zero, List.getElem_cons_succ])
        have hw7le : w6.heap.size ≤ w6.drew.heap.size := Nat.le_refl _
        rw [if_pos (by rfl)]
        refine wp_extend elem_int w6.drew _ _ (by rfl) w6.heap.size 0 (.slice none 0 0) [] (by rfl) (World.ownsRow_nil _ _ _ _) B _ (ints .i64 d) (by rfl) HD6.out.drew (ints_one _ _) (by rw [length_ints]; unfold maxLen; omega) (by rw [length_ints]; omega) hw7le ?_
        intro A7 c7 w7 hown7 hgrow7 hfr7
        have hbw7 := (Below.refl (w6.drew).heap.size (w6.drew)).grown hgrow7 (Nat.le_refl _) (fun k hk => by cases hk)
        rw [Nat.zero_add, List.nil_append, length_ints] at hown7
        have HOd := Lib.hid hown7
        clear hown7 hgrow7 hfr7
        have hbw7' : Below w6.heap.size w6 w7 := ((Below.refl w6.heap.size w6).drew).trans hbw7
        have KX7 := KX6.out.drew.below hbw7 KX6.out.lt
        have KR7 := KR6.out.drew.below hbw7 KR6.out.lt
        have g1 : w7.cell? ⟨b, 1, none⟩ = some (.int .i64 exp) := KX7.cell 1
        have g2 : w7.cell? ⟨b, 2, none⟩ = some (.slice A' data.length c') := KX7.cell 2
        have HKX7 := Lib.hid KX7
        have HKR7 := Lib.hid KR7
        have HB7 := Lib.hid hbw7'
        have HD7 := Lib.hid (HD6.out.below (hbw7'.mono hBW))
        have HI7 := Lib.hid (HI6.out.below (hbw7'.mono hBW))
        have hw8le : w6.heap.size ≤ w7.heap.size := hbw7'.size
        clear KX7 KR7 hbw7 hbw7'
        rw [Nat.zero_add, length_ints]
        refine hK9.out _ _ ⟨g1, g2⟩ (fun hHeld9 => ?_)
        clear hK9 K9
        (try simp only [Act.put, List.setIfInBounds_toArray, List.set_cons_zero, List.set_cons_succ])
        refine wpAnyH_ready (rs := [6]) (by kernel_rfl) (by simp) ?_
        refine AllReadyH.cons rfl (fun K9 hK9 => ?_) AllReadyH.nil
        (try simp only [List.getElem_toArray, List.getElem_cons_zero, List.getElem_cons_succ])
        rw [if_pos (by rfl)]
        refine wp_extend elem_i8 w7 _ _ (by rfl) w6.heap.size 0 (.slice none 0 0) [] (by rfl) (World.ownsRow_nil _ _ _ _) B _ (ints .i8 data) (by rfl) HI7.out.x (ints_one _ _) (by rw [length_ints]; unfold maxLen; omega) (by rw [length_ints]; omega) hw8le ?_
        intro A8 c8 w8 hown8 hgrow8 hfr8
        have hbw8 := (Below.refl (w7).heap.size (w7)).grown hgrow8 (Nat.le_refl _) (fun k hk => by cases hk)
        rw [Nat.zero_add, List.nil_append, length_ints] at hown8
        have HOx := Lib.hid hown8
        clear hown8 hgrow8 hfr8
        have KX8 := HKX7.out.below hbw8 HKX7.out.lt
        have KR8 := HKR7.out.below hbw8 HKR7.out.lt
        have p1 : w8.cell? ⟨b, 1, none⟩ = some (.int .i64 exp) := KX8.cell 1
        have p2 : w8.cell? ⟨b, 2, none⟩ = some (.slice A' data.length c') := KX8.cell 2
        have x0 : w8.cell? ⟨b + 1, 0, none⟩ = some (.slice none 0 0) := KR8.cell 0
        have x1 : w8.cell? ⟨b + 1, 1, none⟩ = some (.int .i64 0) := KR8.cell 1
        have x2 : w8.cell? ⟨b + 1, 2, none⟩ = some (.slice none 0 0) := KR8.cell 2
        have y0 := KR8.free 0
        have y1 := KR8.free 1
        have y2 := KR8.free 2
        have q1 := Lib.hid (fun (u0 u1 u2 : Value) => ((off_set3 w8 (b + 1) u0 u1 u2).cell (p := ⟨b, 1, none⟩) KX8.lt hn0).trans p1)
        have q2 := Lib.hid (fun (u0 u1 u2 : Value) => ((off_set3 w8 (b + 1) u0 u1 u2).cell (p := ⟨b, 2, none⟩) KX8.lt hn0).trans p2)
        have HB8 := Lib.hid hbw8
        clear KX8 KR8 hbw8
        rw [Nat.zero_add, length_ints]
        refine hK9.out _ _ ⟨p1, p2⟩ (fun hHeld9 => ?_)
        clear hK9 K9
        (try simp only [Act.put, List.setIfInBounds_toArray, List.set_cons_zero, List.set_cons_succ])
        refine' wpAnyH_take (i := 7) (v := _) rfl (by kernel_rfl) (by kernel_rfl) (by kernel_rfl) (fun _ _ _ h => h) (Or.inl ⟨by rfl, ?tcgd⟩) (by assumption) ?tdgd
        case tcgd =>
          intro wS hSw
          (try dsimp only at hSw)
          go_simp
          (try (with_reducible rfl))
        (try simp only [List.getElem_toArray, List.getElem_cons_zero, List.getElem_cons_succ, Act.put, List.setIfInBounds_toArray, List.set_cons_zero, List.set_cons_succ])
        refine wpAnyH_ready (rs := [8]) (by kernel_rfl) (by simp) ?_
        refine AllReadyH.cons rfl (fun K9 hK9 => ?_) AllReadyH.nil
        (try simp only [List.getElem_toArray, List.getElem_cons_zero, List.getElem_cons_succ])
        go_simp
        refine hK9.out _ _ ⟨q1.out _ _ _, q2.out _ _ _⟩ (fun hHeld9 => ?_)
        clear hK9 K9
        (try simp only [List.getElem_toArray, List.getElem_cons_zero, List.getElem_cons_succ, Act.put, List.setIfInBounds_toArray, List.set_cons_zero, List.set_cons_succ])
        refine' wpAnyH_take (i := 9) (v := _) rfl (by kernel_rfl) (by kernel_rfl) (by kernel_rfl) (fun _ _ _ h => h) (Or.inl ⟨by rfl, ?tchd⟩) (by assumption) ?tdhd
        case tchd =>
          intro wS hSw
          (try dsimp only at hSw)
          go_simp
          (try (with_reducible rfl))
        (try simp only [List.getElem_toArray, List.getElem_cons_zero, List.getElem_cons_succ, Act.put, List.setIfInBounds_toArray, List.set_cons_zero, List.set_cons_succ])
        refine wpAnyH_done (by kernel_rfl) ?_ _
        go_wp2
        refine bodyPost_ret (v := .tuple #[.agg #[.slice A7 d.length c7, .int .i64 exp, .slice A8 data.length c8], .int .i64 0]) (by simp [results, Try.results26, go_sem, x0, x1, x2]) rfl ?_
        have hod := own_bel3 HOd.out HB8.out
        have hox := HOx.out
        rw [← E1.out, ← E2.out, ← E3.out, E4.out]
        exact shape_fin BB.out HBE.out KR6.out.lt (HB7.out.trans (HB8.out.mono HB7.out.size)) hod hox HDB HI6.out.xb HI6.out.e0 HI6.out.e1 _ _ _
      · have t3 : (sizeI d != (data.length : Int)) = true := by simpa using hq
        have hne : shapeErr dims exp data d = 2 := by unfold shapeErr; rw [if_pos ⟨HMX.out, HP.out⟩, if_neg hq]
        have HNE := Lib.hid hne
        clear hne hq
        go_wp2_with fail
        go_quiet ((go_at_call 38; exact q_left (HSZ.out _ (below_drewN (Below.refl _ _) _))))
        have BB := Lib.hid (below_drewN BB.out nq)
        have KR := Lib.hid (KR.out.drewN nq)
        go_wp2
        refine bodyPost_ret (v := .tuple #[.agg #[.slice none 0 0, .int .i64 0, .slice none 0 0], .int .i64 2]) (by simp [results, Try.results26, go_sem, r0, r1, r2]) rfl ?_
        exact back_noO 1 BB.out HBE.out KR.out.lt (by rw [← HDE.out]; unfold shapeD; rw [HNE.out]; rfl) (by rw [← HEE.out]; unfold shapeE; rw [HNE.out]; rfl) (by rw [← HXE.out]; unfold shapeX; rw [HNE.out]; rfl) (by rw [← HER.out, HNE.out]) _ _ _
    · have t1 : decide (0 < sizeI d) = false := by simpa using hp
      have hne : shapeErr dims exp data d = 1 := by unfold shapeErr; rw [if_neg (fun h => hp h.2)]
      have HNE := Lib.hid hne
      rw [t1] at HMD
      clear t1 hd4 hp hne
      go_wp2_with fail
      refine (HMD.out _ (Below.refl _ _)).mono ?_
      rintro e w5 ⟨rfl, rfl⟩
      go_wp2
      refine bodyPost_ret (v := .tuple #[.agg #[.slice none 0 0, .int .i64 0, .slice none 0 0], .int .i64 1]) (by simp [results, Try.results26, go_sem, r0, r1, r2]) rfl ?_
      exact back_noO 1 BB.out HBE.out KR.out.lt (by rw [← HDE.out]; unfold shapeD; rw [HNE.out]; rfl) (by rw [← HEE.out]; unfold shapeE; rw [HNE.out]; rfl) (by rw [← HXE.out]; unfold shapeX; rw [HNE.out]; rfl) (by rw [← HER.out, HNE.out]) _ _ _
end Go.Proofs.Ythdahnjghpiheaa
